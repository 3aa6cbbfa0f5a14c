/-
  Parts of the walk: Lin1 Eqs Lin2 Lin3.
-/
import Derived.Test.YtnimhldbblfgbaaGreatL11
import Derived.Laws.StructEq
import Derived.ChangeKeysEq
namespace Go.Proofs.YtnimhldbblfgbaaGreat
set_option linter.unusedSimpArgs false
set_option linter.unusedVariables false
set_option maxRecDepth 20000
set_option maxHeartbeats 600000
open Go.RowKit
def ixP {α : Type} (p : α → Bool) (l : List α) : Int := if l.any p = true then (l.findIdx p : Int) else -1
theorem ixP_nonneg {α : Type} {p : α → Bool} {l : List α} : decide (ixP p l ≥ 0) = l.any p := by
 rw [ixP]; split
 ·rename_i h; simp [h]
 ·rename_i h; simpa using h
theorem ixP_none {α : Type} {p : α → Bool} {l : List α} (h : ∀ x ∈ l, p x = false) : ixP p l = -1 := by
 rw [ixP, if_neg (by simpa using h)]
theorem ixP_at {α : Type} [Inhabited α] {p : α → Bool} {l : List α} {i : Nat} (hi : i < l.length) (h0 : ∀ x ∈ l.take i, p x = false) (h1 : p (l.getD i default) = true) : ixP p l = i := by
 have e : l.getD i default = l[i] := by rw [List.getD_eq_getElem?_getD, List.getElem?_eq_getElem hi]; rfl
 rw [ixP, if_pos (List.any_eq_true.2 ⟨_, getD_mem l i hi, h1⟩)]
 congr 1
 rw [List.findIdx_eq hi]
 refine ⟨by rw [← e]; exact h1, fun j hj => ?_⟩
 exact h0 _ (List.mem_take_iff_getElem.2 ⟨j, by omega, rfl⟩)
theorem fncall (v : Value) (cs : Array Value) : (#[] : Array Value) ++ [v].toArray ++ cs = #[v] ++ cs := by simp
theorem ixT_c {l : List Tm} {a : Option Addr} {c : Nat} {fk : FuncId} {cs : Array Value} {p : Tm → Bool} {w : World} {ok : Nat → Prop} (hF1 : (Fact.sl a (l.flatMap tmC)).holds ok w) (hl : l.length ≤ 100000) (hgo : goes Tryz.prog fk = true) (hfn : ∀ x ∈ l, ∀ w', Below w.heap.size w w' → Calls Tryz.prog fk (#[.agg (tmC x).toArray] ++ cs) w' fun e w2 => e = .returned (.bool (p x)) ∧ Below w'.heap.size w' w2) :
  Calls Tryz.prog 183 #[.slice a l.length c, .func (.func fk) #[] cs] w fun e w' => e = .returned (.int .i64 (ixP p l)) ∧ Below w.heap.size w w' := by
 refine enter (S := St (fun _ => True) w [] ([Fact.sl a (l.flatMap tmC)])) (L := [(0, .slice a l.length c), (1, .func (.func fk) #[] cs)]) Tryz.func183 rfl Tryz.ntmps183 rfl (args_cons rfl (args_cons rfl (args_nil _))) (St.start (fun _ _ => trivial) (facts_cons (fact_any hF1) facts_nil)) ?_
 refine WC.sr (Ka rfl (WL.nt (WC.seq (WC.sr (Km rfl (Kq rfl (rd_len rfl rfl Tryz.underlying100) (Km rfl (WL.nt (WC.block ?_)))))))))
 refine WC.loopP (σ := Nat) [(0, _), (1, _), (7, _)] (fun gq => [(8, .int .i64 (gq : Int))]) (fun gq => gq ≤ l.length ∧ ∀ x ∈ l.take gq, p x = false) (fun gq => l.length - gq) (0) (sub_cons rfl (sub_cons rfl (sub_cons rfl (sub_nil _)))) (sub_cons rfl (sub_nil _)) (by (try dsimp only); exact ⟨Nat.zero_le _, by simp⟩) ?_
 rintro i hinv1; (try dsimp only at hinv1 ⊢)
 obtain ⟨hi, hok⟩ := hinv1
 refine WC.sr (Kq rfl (rd_lss rfl rfl rfl) (WL.nt (WC.seq ?_)))
 refine WC.cond rfl (fun hc9 => ?_) (fun hc9 => ?_)
 ·(try simp only [sB] at hc9)
  have hil : i < l.length := by omega
  refine WC.skip (WX.then_normal (WC.seq (WC.block (WC.sr (Km rfl (Ka rfl (WL.nt (WC.sr (Km rfl (Km rfl (Km rfl ?_)))))))))))
  (refine Kq rfl (iaf rfl rfl rfl Tryz.underlying100 (by kernel_rfl : _ = some 4) ?_ ?_ (by (try simp only [sN, Int.reduceToNat, Nat.reduceAdd, Nat.reduceMul, Nat.reduceSub]); rfl)) ?_; (focus (omega)); (focus ((rw [flatMap_len _ _ 4 (fun _ => rfl)]; omega))))
  (refine Kq rfl (ldma _ rfl rfl Tryz.underlying110 rfl (by kernel_rfl : _ = some 4) (fun _ => rfl) (by decide) rfl ?_) ?_; (focus (assumption)))
  refine Kh rfl (og_callv rfl rfl rfl hgo (fncall _ _) (keep_val fun w hS => hfn (l.getD i default) (getD_mem _ _ hil) w hS.below)) ?_
  intro _
  refine WL.nt ?_
  refine WC.cond rfl (fun hc16 => ?_) (fun hc16 => ?_)
  ·(try simp only [sB] at hc16)
   refine WC.sr (Km rfl (Ka rfl (WL.nt (WC.ret (WX.block_ret (WX.then_ret (WX.then_ret (WX.block_ret (WX.then_ret ?_)))))))))
   exact WX.retN rfl (.tmp rfl .nil) fun w' hS => ⟨by rw [ixP_at hil hok (by simpa using hc16)]; rfl, hS.below⟩
  ·(try simp only [sB] at hc16)
   refine WC.skip (WX.block_normal (WX.then_normal (WC.region ?_)))
   (refine Kq rfl (rd_add64nl rfl rfl rfl ?_) ?_; (focus (omega)))
   refine Km rfl (WL.nil ?_)
   refine WX.loopP (i + 1) (by (try dsimp only); omega) (sub_cons rfl (sub_cons rfl (sub_cons rfl (sub_nil _)))) (by refine (sub_cons ?_ (sub_nil _)) <;> (rfl)) ?_ (by (exact fun _ h => h))
   (try dsimp only)
   exact ⟨hil, all_take hil hok (by simpa using hc16)⟩
 ·(try simp only [sB] at hc9)
  refine WC.exit (WX.then_exit (WX.then_exit (WX.block_exit ?_)))
  obtain rfl : i = l.length := by omega
  rw [List.take_length] at hok
  refine WX.then_normal (WC.sr (Ka rfl (WL.nt (WC.ret ?_))))
  exact WX.retN rfl (.tmp rfl .nil) fun w' hS => ⟨by rw [ixP_none hok]; rfl, hS.below⟩
theorem cfT_c {l : List Tm} {a : Option Addr} {c : Nat} {fk : FuncId} {cs : Array Value} {p : Tm → Bool} {w : World} {ok : Nat → Prop} (hF1 : (Fact.sl a (l.flatMap tmC)).holds ok w) (hl : l.length ≤ 100000) (hgo : goes Tryz.prog fk = true) (hfn : ∀ x ∈ l, ∀ w', Below w.heap.size w w' → Calls Tryz.prog fk (#[.agg (tmC x).toArray] ++ cs) w' fun e w2 => e = .returned (.bool (p x)) ∧ Below w'.heap.size w' w2) :
  Calls Tryz.prog 162 #[.slice a l.length c, .func (.func fk) #[] cs] w fun e w' => e = .returned (.bool (l.any p)) ∧ Below w.heap.size w w' := by
 refine enter (S := St (fun _ => True) w [] ([Fact.sl a (l.flatMap tmC)])) (L := [(0, .slice a l.length c), (1, .func (.func fk) #[] cs)]) Tryz.func162 rfl Tryz.ntmps162 rfl (args_cons rfl (args_cons rfl (args_nil _))) (St.start (fun _ _ => trivial) (facts_cons (fact_any hF1) facts_nil)) ?_
 refine WC.sr (Ka rfl (WL.nt (WC.sr (Km rfl (Km rfl ?_)))))
 refine Kh rfl (og_call rfl rfl (by kernel_rfl) (keep_val fun w hS => ixT_c (fk := fk) (cs := cs) (p := p) (by (exact hS.sl)) (by exact hl) (by exact hgo) (by exact fun x hx w' hb => hfn x hx w' (hS.below.trans (hb.mono hS.below.size))))) ?_
 intro _
 refine Kq rfl (rd_geq rfl rfl rfl) (Ka rfl (WL.nt (WC.ret ?_)))
 exact WX.retN rfl (.tmp rfl .nil) fun w' hS => ⟨by rw [ixP_nonneg]; rfl, hS.below⟩
theorem ixQ_c {l : List QA} {a : Option Addr} {c : Nat} {fk : FuncId} {cs : Array Value} {p : QA → Bool} {w : World} {ok : Nat → Prop} (hF1 : (Fact.sl a (l.flatMap qaC)).holds ok w) (hl : l.length ≤ 100000) (hgo : goes Tryz.prog fk = true) (hfn : ∀ x ∈ l, ∀ w', Below w.heap.size w w' → Calls Tryz.prog fk (#[.agg (qaC x).toArray] ++ cs) w' fun e w2 => e = .returned (.bool (p x)) ∧ Below w'.heap.size w' w2) :
  Calls Tryz.prog 182 #[.slice a l.length c, .func (.func fk) #[] cs] w fun e w' => e = .returned (.int .i64 (ixP p l)) ∧ Below w.heap.size w w' := by
 refine enter (S := St (fun _ => True) w [] ([Fact.sl a (l.flatMap qaC)])) (L := [(0, .slice a l.length c), (1, .func (.func fk) #[] cs)]) Tryz.func182 rfl Tryz.ntmps182 rfl (args_cons rfl (args_cons rfl (args_nil _))) (St.start (fun _ _ => trivial) (facts_cons (fact_any hF1) facts_nil)) ?_
 refine WC.sr (Ka rfl (WL.nt (WC.seq (WC.sr (Km rfl (Kq rfl (rd_len rfl rfl Tryz.underlying33) (Km rfl (WL.nt (WC.block ?_)))))))))
 refine WC.loopP (σ := Nat) [(0, _), (1, _), (7, _)] (fun gq => [(8, .int .i64 (gq : Int))]) (fun gq => gq ≤ l.length ∧ ∀ x ∈ l.take gq, p x = false) (fun gq => l.length - gq) (0) (sub_cons rfl (sub_cons rfl (sub_cons rfl (sub_nil _)))) (sub_cons rfl (sub_nil _)) (by (try dsimp only); exact ⟨Nat.zero_le _, by simp⟩) ?_
 rintro i hinv1; (try dsimp only at hinv1 ⊢)
 obtain ⟨hi, hok⟩ := hinv1
 refine WC.sr (Kq rfl (rd_lss rfl rfl rfl) (WL.nt (WC.seq ?_)))
 refine WC.cond rfl (fun hc9 => ?_) (fun hc9 => ?_)
 ·(try simp only [sB] at hc9)
  have hil : i < l.length := by omega
  refine WC.skip (WX.then_normal (WC.seq (WC.block (WC.sr (Km rfl (Ka rfl (WL.nt (WC.sr (Km rfl (Km rfl (Km rfl ?_)))))))))))
  (refine Kq rfl (iaf rfl rfl rfl Tryz.underlying33 (by kernel_rfl : _ = some 3) ?_ ?_ (by (try simp only [sN, Int.reduceToNat, Nat.reduceAdd, Nat.reduceMul, Nat.reduceSub]); rfl)) ?_; (focus (omega)); (focus ((rw [flatMap_len _ _ 3 (fun _ => rfl)]; omega))))
  (refine Kq rfl (ldma _ rfl rfl Tryz.underlying102 rfl (by kernel_rfl : _ = some 3) (fun _ => rfl) (by decide) rfl ?_) ?_; (focus (assumption)))
  refine Kh rfl (og_callv rfl rfl rfl hgo (fncall _ _) (keep_val fun w hS => hfn (l.getD i default) (getD_mem _ _ hil) w hS.below)) ?_
  intro _
  refine WL.nt ?_
  refine WC.cond rfl (fun hc16 => ?_) (fun hc16 => ?_)
  ·(try simp only [sB] at hc16)
   refine WC.sr (Km rfl (Ka rfl (WL.nt (WC.ret (WX.block_ret (WX.then_ret (WX.then_ret (WX.block_ret (WX.then_ret ?_)))))))))
   exact WX.retN rfl (.tmp rfl .nil) fun w' hS => ⟨by rw [ixP_at hil hok (by simpa using hc16)]; rfl, hS.below⟩
  ·(try simp only [sB] at hc16)
   refine WC.skip (WX.block_normal (WX.then_normal (WC.region ?_)))
   (refine Kq rfl (rd_add64nl rfl rfl rfl ?_) ?_; (focus (omega)))
   refine Km rfl (WL.nil ?_)
   refine WX.loopP (i + 1) (by (try dsimp only); omega) (sub_cons rfl (sub_cons rfl (sub_cons rfl (sub_nil _)))) (by refine (sub_cons ?_ (sub_nil _)) <;> (rfl)) ?_ (by (exact fun _ h => h))
   (try dsimp only)
   exact ⟨hil, all_take hil hok (by simpa using hc16)⟩
 ·(try simp only [sB] at hc9)
  refine WC.exit (WX.then_exit (WX.then_exit (WX.block_exit ?_)))
  obtain rfl : i = l.length := by omega
  rw [List.take_length] at hok
  refine WX.then_normal (WC.sr (Ka rfl (WL.nt (WC.ret ?_))))
  exact WX.retN rfl (.tmp rfl .nil) fun w' hS => ⟨by rw [ixP_none hok]; rfl, hS.below⟩
theorem cfQ_c {l : List QA} {a : Option Addr} {c : Nat} {fk : FuncId} {cs : Array Value} {p : QA → Bool} {w : World} {ok : Nat → Prop} (hF1 : (Fact.sl a (l.flatMap qaC)).holds ok w) (hl : l.length ≤ 100000) (hgo : goes Tryz.prog fk = true) (hfn : ∀ x ∈ l, ∀ w', Below w.heap.size w w' → Calls Tryz.prog fk (#[.agg (qaC x).toArray] ++ cs) w' fun e w2 => e = .returned (.bool (p x)) ∧ Below w'.heap.size w' w2) :
  Calls Tryz.prog 160 #[.slice a l.length c, .func (.func fk) #[] cs] w fun e w' => e = .returned (.bool (l.any p)) ∧ Below w.heap.size w w' := by
 refine enter (S := St (fun _ => True) w [] ([Fact.sl a (l.flatMap qaC)])) (L := [(0, .slice a l.length c), (1, .func (.func fk) #[] cs)]) Tryz.func160 rfl Tryz.ntmps160 rfl (args_cons rfl (args_cons rfl (args_nil _))) (St.start (fun _ _ => trivial) (facts_cons (fact_any hF1) facts_nil)) ?_
 refine WC.sr (Ka rfl (WL.nt (WC.sr (Km rfl (Km rfl ?_)))))
 refine Kh rfl (og_call rfl rfl (by kernel_rfl) (keep_val fun w hS => ixQ_c (fk := fk) (cs := cs) (p := p) (by (exact hS.sl)) (by exact hl) (by exact hgo) (by exact fun x hx w' hb => hfn x hx w' (hS.below.trans (hb.mono hS.below.size))))) ?_
 intro _
 refine Kq rfl (rd_geq rfl rfl rfl) (Ka rfl (WL.nt (WC.ret ?_)))
 exact WX.retN rfl (.tmp rfl .nil) fun w' hS => ⟨by rw [ixP_nonneg]; rfl, hS.below⟩
theorem ixV_c {l : List Bs} {a : Option Addr} {c : Nat} {fk : FuncId} {cs : Array Value} {p : Bs → Bool} {w : World} {ok : Nat → Prop} (hF1 : (Fact.sl a (l.flatMap vrC)).holds ok w) (hl : l.length ≤ 100000) (hgo : goes Tryz.prog fk = true) (hfn : ∀ x ∈ l, ∀ w', Below w.heap.size w w' → Calls Tryz.prog fk (#[.agg (vrC x).toArray] ++ cs) w' fun e w2 => e = .returned (.bool (p x)) ∧ Below w'.heap.size w' w2) :
  Calls Tryz.prog 184 #[.slice a l.length c, .func (.func fk) #[] cs] w fun e w' => e = .returned (.int .i64 (ixP p l)) ∧ Below w.heap.size w w' := by
 refine enter (S := St (fun _ => True) w [] ([Fact.sl a (l.flatMap vrC)])) (L := [(0, .slice a l.length c), (1, .func (.func fk) #[] cs)]) Tryz.func184 rfl Tryz.ntmps184 rfl (args_cons rfl (args_cons rfl (args_nil _))) (St.start (fun _ _ => trivial) (facts_cons (fact_any hF1) facts_nil)) ?_
 refine WC.sr (Ka rfl (WL.nt (WC.seq (WC.sr (Km rfl (Kq rfl (rd_len rfl rfl Tryz.underlying32) (Km rfl (WL.nt (WC.block ?_)))))))))
 refine WC.loopP (σ := Nat) [(0, _), (1, _), (7, _)] (fun gq => [(8, .int .i64 (gq : Int))]) (fun gq => gq ≤ l.length ∧ ∀ x ∈ l.take gq, p x = false) (fun gq => l.length - gq) (0) (sub_cons rfl (sub_cons rfl (sub_cons rfl (sub_nil _)))) (sub_cons rfl (sub_nil _)) (by (try dsimp only); exact ⟨Nat.zero_le _, by simp⟩) ?_
 rintro i hinv1; (try dsimp only at hinv1 ⊢)
 obtain ⟨hi, hok⟩ := hinv1
 refine WC.sr (Kq rfl (rd_lss rfl rfl rfl) (WL.nt (WC.seq ?_)))
 refine WC.cond rfl (fun hc9 => ?_) (fun hc9 => ?_)
 ·(try simp only [sB] at hc9)
  have hil : i < l.length := by omega
  refine WC.skip (WX.then_normal (WC.seq (WC.block (WC.sr (Km rfl (Ka rfl (WL.nt (WC.sr (Km rfl (Km rfl (Km rfl ?_)))))))))))
  (refine Kq rfl (iaf rfl rfl rfl Tryz.underlying32 (by kernel_rfl : _ = some 1) ?_ ?_ (by (try simp only [sN, Int.reduceToNat, Nat.reduceAdd, Nat.reduceMul, Nat.reduceSub]); rfl)) ?_; (focus (omega)); (focus ((rw [flatMap_len _ _ 1 (fun _ => rfl)]; omega))))
  (refine Kq rfl (ldma _ rfl rfl Tryz.underlying91 rfl (by kernel_rfl : _ = some 1) (fun _ => rfl) (by decide) (Nat.mul_one _).symm ?_) ?_; (focus (assumption)))
  refine Kh rfl (og_callv rfl rfl rfl hgo (fncall _ _) (keep_val fun w hS => hfn (l.getD i default) (getD_mem _ _ hil) w hS.below)) ?_
  intro _
  refine WL.nt ?_
  refine WC.cond rfl (fun hc16 => ?_) (fun hc16 => ?_)
  ·(try simp only [sB] at hc16)
   refine WC.sr (Km rfl (Ka rfl (WL.nt (WC.ret (WX.block_ret (WX.then_ret (WX.then_ret (WX.block_ret (WX.then_ret ?_)))))))))
   exact WX.retN rfl (.tmp rfl .nil) fun w' hS => ⟨by rw [ixP_at hil hok (by simpa using hc16)]; rfl, hS.below⟩
  ·(try simp only [sB] at hc16)
   refine WC.skip (WX.block_normal (WX.then_normal (WC.region ?_)))
   (refine Kq rfl (rd_add64nl rfl rfl rfl ?_) ?_; (focus (omega)))
   refine Km rfl (WL.nil ?_)
   refine WX.loopP (i + 1) (by (try dsimp only); omega) (sub_cons rfl (sub_cons rfl (sub_cons rfl (sub_nil _)))) (by refine (sub_cons ?_ (sub_nil _)) <;> (rfl)) ?_ (by (exact fun _ h => h))
   (try dsimp only)
   exact ⟨hil, all_take hil hok (by simpa using hc16)⟩
 ·(try simp only [sB] at hc9)
  refine WC.exit (WX.then_exit (WX.then_exit (WX.block_exit ?_)))
  obtain rfl : i = l.length := by omega
  rw [List.take_length] at hok
  refine WX.then_normal (WC.sr (Ka rfl (WL.nt (WC.ret ?_))))
  exact WX.retN rfl (.tmp rfl .nil) fun w' hS => ⟨by rw [ixP_none hok]; rfl, hS.below⟩
theorem cfV_c {l : List Bs} {a : Option Addr} {c : Nat} {fk : FuncId} {cs : Array Value} {p : Bs → Bool} {w : World} {ok : Nat → Prop} (hF1 : (Fact.sl a (l.flatMap vrC)).holds ok w) (hl : l.length ≤ 100000) (hgo : goes Tryz.prog fk = true) (hfn : ∀ x ∈ l, ∀ w', Below w.heap.size w w' → Calls Tryz.prog fk (#[.agg (vrC x).toArray] ++ cs) w' fun e w2 => e = .returned (.bool (p x)) ∧ Below w'.heap.size w' w2) :
  Calls Tryz.prog 164 #[.slice a l.length c, .func (.func fk) #[] cs] w fun e w' => e = .returned (.bool (l.any p)) ∧ Below w.heap.size w w' := by
 refine enter (S := St (fun _ => True) w [] ([Fact.sl a (l.flatMap vrC)])) (L := [(0, .slice a l.length c), (1, .func (.func fk) #[] cs)]) Tryz.func164 rfl Tryz.ntmps164 rfl (args_cons rfl (args_cons rfl (args_nil _))) (St.start (fun _ _ => trivial) (facts_cons (fact_any hF1) facts_nil)) ?_
 refine WC.sr (Ka rfl (WL.nt (WC.sr (Km rfl (Km rfl ?_)))))
 refine Kh rfl (og_call rfl rfl (by kernel_rfl) (keep_val fun w hS => ixV_c (fk := fk) (cs := cs) (p := p) (by (exact hS.sl)) (by exact hl) (by exact hgo) (by exact fun x hx w' hb => hfn x hx w' (hS.below.trans (hb.mono hS.below.size))))) ?_
 intro _
 refine Kq rfl (rd_geq rfl rfl rfl) (Ka rfl (WL.nt (WC.ret ?_)))
 exact WX.retN rfl (.tmp rfl .nil) fun w' hS => ⟨by rw [ixP_nonneg]; rfl, hS.below⟩
theorem ixG_c {l : List Gp} {a : Option Addr} {c : Nat} {fk : FuncId} {cs : Array Value} {p : Gp → Bool} {w : World} {ok : Nat → Prop} (hF1 : (Fact.sl a (l.flatMap gpC)).holds ok w) (hl : l.length ≤ 100000) (hgo : goes Tryz.prog fk = true) (hfn : ∀ x ∈ l, ∀ w', Below w.heap.size w w' → Calls Tryz.prog fk (#[.agg (gpC x).toArray] ++ cs) w' fun e w2 => e = .returned (.bool (p x)) ∧ Below w'.heap.size w' w2) :
  Calls Tryz.prog 185 #[.slice a l.length c, .func (.func fk) #[] cs] w fun e w' => e = .returned (.int .i64 (ixP p l)) ∧ Below w.heap.size w w' := by
 refine enter (S := St (fun _ => True) w [] ([Fact.sl a (l.flatMap gpC)])) (L := [(0, .slice a l.length c), (1, .func (.func fk) #[] cs)]) Tryz.func185 rfl Tryz.ntmps185 rfl (args_cons rfl (args_cons rfl (args_nil _))) (St.start (fun _ _ => trivial) (facts_cons (fact_any hF1) facts_nil)) ?_
 refine WC.sr (Ka rfl (WL.nt (WC.seq (WC.sr (Km rfl (Kq rfl (rd_len rfl rfl Tryz.underlying31) (Km rfl (WL.nt (WC.block ?_)))))))))
 refine WC.loopP (σ := Nat) [(0, _), (1, _), (7, _)] (fun gq => [(8, .int .i64 (gq : Int))]) (fun gq => gq ≤ l.length ∧ ∀ x ∈ l.take gq, p x = false) (fun gq => l.length - gq) (0) (sub_cons rfl (sub_cons rfl (sub_cons rfl (sub_nil _)))) (sub_cons rfl (sub_nil _)) (by (try dsimp only); exact ⟨Nat.zero_le _, by simp⟩) ?_
 rintro i hinv1; (try dsimp only at hinv1 ⊢)
 obtain ⟨hi, hok⟩ := hinv1
 refine WC.sr (Kq rfl (rd_lss rfl rfl rfl) (WL.nt (WC.seq ?_)))
 refine WC.cond rfl (fun hc9 => ?_) (fun hc9 => ?_)
 ·(try simp only [sB] at hc9)
  have hil : i < l.length := by omega
  refine WC.skip (WX.then_normal (WC.seq (WC.block (WC.sr (Km rfl (Ka rfl (WL.nt (WC.sr (Km rfl (Km rfl (Km rfl ?_)))))))))))
  (refine Kq rfl (iaf rfl rfl rfl Tryz.underlying31 (by kernel_rfl : _ = some 2) ?_ ?_ (by (try simp only [sN, Int.reduceToNat, Nat.reduceAdd, Nat.reduceMul, Nat.reduceSub]); rfl)) ?_; (focus (omega)); (focus ((rw [flatMap_len _ _ 2 (fun _ => rfl)]; omega))))
  (refine Kq rfl (ldma _ rfl rfl Tryz.underlying24 rfl (by kernel_rfl : _ = some 2) (fun _ => rfl) (by decide) rfl ?_) ?_; (focus (assumption)))
  refine Kh rfl (og_callv rfl rfl rfl hgo (fncall _ _) (keep_val fun w hS => hfn (l.getD i default) (getD_mem _ _ hil) w hS.below)) ?_
  intro _
  refine WL.nt ?_
  refine WC.cond rfl (fun hc16 => ?_) (fun hc16 => ?_)
  ·(try simp only [sB] at hc16)
   refine WC.sr (Km rfl (Ka rfl (WL.nt (WC.ret (WX.block_ret (WX.then_ret (WX.then_ret (WX.block_ret (WX.then_ret ?_)))))))))
   exact WX.retN rfl (.tmp rfl .nil) fun w' hS => ⟨by rw [ixP_at hil hok (by simpa using hc16)]; rfl, hS.below⟩
  ·(try simp only [sB] at hc16)
   refine WC.skip (WX.block_normal (WX.then_normal (WC.region ?_)))
   (refine Kq rfl (rd_add64nl rfl rfl rfl ?_) ?_; (focus (omega)))
   refine Km rfl (WL.nil ?_)
   refine WX.loopP (i + 1) (by (try dsimp only); omega) (sub_cons rfl (sub_cons rfl (sub_cons rfl (sub_nil _)))) (by refine (sub_cons ?_ (sub_nil _)) <;> (rfl)) ?_ (by (exact fun _ h => h))
   (try dsimp only)
   exact ⟨hil, all_take hil hok (by simpa using hc16)⟩
 ·(try simp only [sB] at hc9)
  refine WC.exit (WX.then_exit (WX.then_exit (WX.block_exit ?_)))
  obtain rfl : i = l.length := by omega
  rw [List.take_length] at hok
  refine WX.then_normal (WC.sr (Ka rfl (WL.nt (WC.ret ?_))))
  exact WX.retN rfl (.tmp rfl .nil) fun w' hS => ⟨by rw [ixP_none hok]; rfl, hS.below⟩
theorem cfG_c {l : List Gp} {a : Option Addr} {c : Nat} {fk : FuncId} {cs : Array Value} {p : Gp → Bool} {w : World} {ok : Nat → Prop} (hF1 : (Fact.sl a (l.flatMap gpC)).holds ok w) (hl : l.length ≤ 100000) (hgo : goes Tryz.prog fk = true) (hfn : ∀ x ∈ l, ∀ w', Below w.heap.size w w' → Calls Tryz.prog fk (#[.agg (gpC x).toArray] ++ cs) w' fun e w2 => e = .returned (.bool (p x)) ∧ Below w'.heap.size w' w2) :
  Calls Tryz.prog 166 #[.slice a l.length c, .func (.func fk) #[] cs] w fun e w' => e = .returned (.bool (l.any p)) ∧ Below w.heap.size w w' := by
 refine enter (S := St (fun _ => True) w [] ([Fact.sl a (l.flatMap gpC)])) (L := [(0, .slice a l.length c), (1, .func (.func fk) #[] cs)]) Tryz.func166 rfl Tryz.ntmps166 rfl (args_cons rfl (args_cons rfl (args_nil _))) (St.start (fun _ _ => trivial) (facts_cons (fact_any hF1) facts_nil)) ?_
 refine WC.sr (Ka rfl (WL.nt (WC.sr (Km rfl (Km rfl ?_)))))
 refine Kh rfl (og_call rfl rfl (by kernel_rfl) (keep_val fun w hS => ixG_c (fk := fk) (cs := cs) (p := p) (by (exact hS.sl)) (by exact hl) (by exact hgo) (by exact fun x hx w' hb => hfn x hx w' (hS.below.trans (hb.mono hS.below.size))))) ?_
 intro _
 refine Kq rfl (rd_geq rfl rfl rfl) (Ka rfl (WL.nt (WC.ret ?_)))
 exact WX.retN rfl (.tmp rfl .nil) fun w' hS => ⟨by rw [ixP_nonneg]; rfl, hS.below⟩
theorem ixZ_c {l : List Zs} {a : Option Addr} {c : Nat} {fk : FuncId} {cs : Array Value} {p : Zs → Bool} {w : World} {ok : Nat → Prop} (hF1 : (Fact.sl a (l.flatMap zc)).holds ok w) (hl : l.length ≤ 100000) (hgo : goes Tryz.prog fk = true) (hfn : ∀ x ∈ l, ∀ w', Below w.heap.size w w' → Calls Tryz.prog fk (#[.agg (zc x).toArray] ++ cs) w' fun e w2 => e = .returned (.bool (p x)) ∧ Below w'.heap.size w' w2) :
  Calls Tryz.prog 139 #[.slice a l.length c, .func (.func fk) #[] cs] w fun e w' => e = .returned (.int .i64 (ixP p l)) ∧ Below w.heap.size w w' := by
 refine enter (S := St (fun _ => True) w [] ([Fact.sl a (l.flatMap zc)])) (L := [(0, .slice a l.length c), (1, .func (.func fk) #[] cs)]) Tryz.func139 rfl Tryz.ntmps139 rfl (args_cons rfl (args_cons rfl (args_nil _))) (St.start (fun _ _ => trivial) (facts_cons (fact_any hF1) facts_nil)) ?_
 refine WC.sr (Ka rfl (WL.nt (WC.seq (WC.sr (Km rfl (Kq rfl (rd_len rfl rfl Tryz.underlying49) (Km rfl (WL.nt (WC.block ?_)))))))))
 refine WC.loopP (σ := Nat) [(0, _), (1, _), (7, _)] (fun gq => [(8, .int .i64 (gq : Int))]) (fun gq => gq ≤ l.length ∧ ∀ x ∈ l.take gq, p x = false) (fun gq => l.length - gq) (0) (sub_cons rfl (sub_cons rfl (sub_cons rfl (sub_nil _)))) (sub_cons rfl (sub_nil _)) (by (try dsimp only); exact ⟨Nat.zero_le _, by simp⟩) ?_
 rintro i hinv1; (try dsimp only at hinv1 ⊢)
 obtain ⟨hi, hok⟩ := hinv1
 refine WC.sr (Kq rfl (rd_lss rfl rfl rfl) (WL.nt (WC.seq ?_)))
 refine WC.cond rfl (fun hc9 => ?_) (fun hc9 => ?_)
 ·(try simp only [sB] at hc9)
  have hil : i < l.length := by omega
  refine WC.skip (WX.then_normal (WC.seq (WC.block (WC.sr (Km rfl (Ka rfl (WL.nt (WC.sr (Km rfl (Km rfl (Km rfl ?_)))))))))))
  (refine Kq rfl (iaf rfl rfl rfl Tryz.underlying49 (by kernel_rfl : _ = some 2) ?_ ?_ (by (try simp only [sN, Int.reduceToNat, Nat.reduceAdd, Nat.reduceMul, Nat.reduceSub]); rfl)) ?_; (focus (omega)); (focus ((rw [flatMap_len _ _ 2 (fun _ => rfl)]; omega))))
  (refine Kq rfl (ldma _ rfl rfl Tryz.underlying45 rfl (by kernel_rfl : _ = some 2) (fun _ => rfl) (by decide) rfl ?_) ?_; (focus (assumption)))
  refine Kh rfl (og_callv rfl rfl rfl hgo (fncall _ _) (keep_val fun w hS => hfn (l.getD i default) (getD_mem _ _ hil) w hS.below)) ?_
  intro _
  refine WL.nt ?_
  refine WC.cond rfl (fun hc16 => ?_) (fun hc16 => ?_)
  ·(try simp only [sB] at hc16)
   refine WC.sr (Km rfl (Ka rfl (WL.nt (WC.ret (WX.block_ret (WX.then_ret (WX.then_ret (WX.block_ret (WX.then_ret ?_)))))))))
   exact WX.retN rfl (.tmp rfl .nil) fun w' hS => ⟨by rw [ixP_at hil hok (by simpa using hc16)]; rfl, hS.below⟩
  ·(try simp only [sB] at hc16)
   refine WC.skip (WX.block_normal (WX.then_normal (WC.region ?_)))
   (refine Kq rfl (rd_add64nl rfl rfl rfl ?_) ?_; (focus (omega)))
   refine Km rfl (WL.nil ?_)
   refine WX.loopP (i + 1) (by (try dsimp only); omega) (sub_cons rfl (sub_cons rfl (sub_cons rfl (sub_nil _)))) (by refine (sub_cons ?_ (sub_nil _)) <;> (rfl)) ?_ (by (exact fun _ h => h))
   (try dsimp only)
   exact ⟨hil, all_take hil hok (by simpa using hc16)⟩
 ·(try simp only [sB] at hc9)
  refine WC.exit (WX.then_exit (WX.then_exit (WX.block_exit ?_)))
  obtain rfl : i = l.length := by omega
  rw [List.take_length] at hok
  refine WX.then_normal (WC.sr (Ka rfl (WL.nt (WC.ret ?_))))
  exact WX.retN rfl (.tmp rfl .nil) fun w' hS => ⟨by rw [ixP_none hok]; rfl, hS.below⟩
theorem cfZ_c {l : List Zs} {a : Option Addr} {c : Nat} {fk : FuncId} {cs : Array Value} {p : Zs → Bool} {w : World} {ok : Nat → Prop} (hF1 : (Fact.sl a (l.flatMap zc)).holds ok w) (hl : l.length ≤ 100000) (hgo : goes Tryz.prog fk = true) (hfn : ∀ x ∈ l, ∀ w', Below w.heap.size w w' → Calls Tryz.prog fk (#[.agg (zc x).toArray] ++ cs) w' fun e w2 => e = .returned (.bool (p x)) ∧ Below w'.heap.size w' w2) :
  Calls Tryz.prog 114 #[.slice a l.length c, .func (.func fk) #[] cs] w fun e w' => e = .returned (.bool (l.any p)) ∧ Below w.heap.size w w' := by
 refine enter (S := St (fun _ => True) w [] ([Fact.sl a (l.flatMap zc)])) (L := [(0, .slice a l.length c), (1, .func (.func fk) #[] cs)]) Tryz.func114 rfl Tryz.ntmps114 rfl (args_cons rfl (args_cons rfl (args_nil _))) (St.start (fun _ _ => trivial) (facts_cons (fact_any hF1) facts_nil)) ?_
 refine WC.sr (Ka rfl (WL.nt (WC.sr (Km rfl (Km rfl ?_)))))
 refine Kh rfl (og_call rfl rfl (by kernel_rfl) (keep_val fun w hS => ixZ_c (fk := fk) (cs := cs) (p := p) (by (exact hS.sl)) (by exact hl) (by exact hgo) (by exact fun x hx w' hb => hfn x hx w' (hS.below.trans (hb.mono hS.below.size))))) ?_
 intro _
 refine Kq rfl (rd_geq rfl rfl rfl) (Ka rfl (WL.nt (WC.ret ?_)))
 exact WX.retN rfl (.tmp rfl .nil) fun w' hS => ⟨by rw [ixP_nonneg]; rfl, hS.below⟩
end Go.Proofs.YtnimhldbblfgbaaGreat
namespace Go.Proofs.YtnimhldbblfgbaaGreat
set_option linter.unusedVariables false
set_option linter.unusedSimpArgs false
open Go.RowKit
section
variable {ds : List Deferred} {P : Program} {o : Oper} {n : Nat} {L : Slots} {Z : World → Prop} {x y : Operand} {t t2 : TypeId} {xs ys : Array Value} {b : Bool}
theorem rd_eqA (hop : o.op = .binOp .eql t x y t2) (hx : oper L x = some (.agg xs)) (hy : oper L y = some (.agg ys)) (hg : P.eqGuardType P.depth t = false) (hr : ∀ w : World, (binOp .eql t (.agg xs) (.agg ys)).run P w = .ok (.bool b) w) : Rd ds P o n L Z (.bool b) :=
 run_bin hop hx hy (fun w => run_eqGuard_agg w _ _ _ _ _ _ hg) hr
theorem rd_neA (hop : o.op = .binOp .neq t x y t2) (hx : oper L x = some (.agg xs)) (hy : oper L y = some (.agg ys)) (hg : P.eqGuardType P.depth t = false) (hr : ∀ w : World, (binOp .eql t (.agg xs) (.agg ys)).run P w = .ok (.bool b) w) : Rd ds P o n L Z (.bool (!b)) :=
 run_bin hop hx hy (fun w => run_eqGuard_agg w _ _ _ _ _ _ hg) fun w => by
  have := hr w
  rw [run_eql_struct] at this
  rw [run_neq_struct]
  cases h : (Op.equalIn 10000 t (.agg xs) (.agg ys)).run P w with
  | ok c w' => rw [h] at this; simp at this ⊢; exact ⟨by rw [this.1], this.2⟩
  | halt c w' => rw [h] at this; simp at this
end
theorem eql_api_Int (p q : Bool) (a b : Bs) (w : World) : (binOp .eql 45 (.agg #[.bool p, .string (S a)]) (.agg #[.bool q, .string (S b)])).run Tryz.prog w = .ok (.bool (decide (p = q ∧ a = b))) w := by
 rw [run_eql_struct, run_equalIn_agg w _ _ _ _ (by kernel_rfl) (by kernel_rfl)]
 have h1 : Tryz.prog.underlying 4 = some .bool := by kernel_rfl
 have h2 : Tryz.prog.underlying 22 = some .string := by kernel_rfl
 have hf : (Tryz.prog.fieldsOf 45).toList = [⟨"Neg", 4, 0, false, "", "", 0⟩, ⟨"Abs", 22, 1, false, "", "", 8⟩] := by kernel_rfl
 have e1 : ∀ (u v : Value) (w : World), (part 4 #[u, v] 0).run Tryz.prog w = .ok u w := fun u v w => run_part_plain w (by kernel_rfl) rfl
 have e2 : ∀ (u v : Value) (w : World), (part 22 #[u, v] 1).run Tryz.prog w = .ok v w := fun u v w => run_part_plain w (by kernel_rfl) rfl
 have hb : ∀ (w : World), (Op.equalIn 9999 4 (.bool p) (.bool q)).run Tryz.prog w = .ok (p == q) w := fun w => run_equalIn_bool' w 9998 _ p q h1
 have hs : ∀ (w : World), (Op.equalIn 9999 22 (.string (S a)) (.string (S b))).run Tryz.prog w = .ok (decide (a = b)) w := fun w => by
  rw [run_equalIn_string w 9998 _ _ _ h2, str_eq]
 rw [hf]
 simp only [Op.eqFields, Sem.run_bind, e1, e2, hb, hs, Result.andThen_ok, Sem.run_ite, Sem.run_pure]
 cases p <;> cases q <;> by_cases h : a = b <;> simp [h]
end Go.Proofs.YtnimhldbblfgbaaGreat
namespace Go.Proofs.YtnimhldbblfgbaaGreat
set_option linter.unusedSimpArgs false
set_option linter.unusedVariables false
set_option maxRecDepth 20000
set_option maxHeartbeats 600000
open Go.RowKit
theorem fact_keep {f : Fact} {w w' : World} (h : f.holds (fun _ => True) w) (hb : Below w.heap.size w w') : f.holds (fun _ => True) w' := f.stable h hb.size fun b hlt _ => hb.block b hlt
theorem fnc0 (v : Value) : #[v] ++ (#[] : Array Value) = #[v] := by simp
theorem fnc1 (v u : Value) : #[v] ++ (#[u] : Array Value) = #[v, u] := by simp
theorem st_addm {ok : Nat → Prop} {w0 w : World} {own : List Ent} {fs more : List Fact} {f : Fact} (h : St ok w0 own fs w) [hm : HasM fs more] (hf : f ∈ more) : St ok w0 own (f :: fs) w := h.add (h.fact f (hm.h f hf))
theorem lorder_c {s : SA} {w : World} {ok : Nat → Prop} (hF1 : (Fact.sl s.ga (gps s.gs)).holds ok w) (hs : saL s) :
  Calls Tryz.prog 117 #[saV s] w fun e w' => e = .returned (.string (S (ordS s.gs))) ∧ Below w.heap.size w w' := by
 obtain ⟨hlg, hlv, hle, hlt, hlm⟩ := hs
 refine enter (S := St (fun _ => True) w [] ([Fact.sl s.ga (gps s.gs)])) (L := [(0, saV s)]) Tryz.func117 rfl Tryz.ntmps117 rfl (args_cons rfl (args_nil _)) (St.start (fun _ _ => trivial) (facts_cons (fact_any hF1) facts_nil)) ?_
 refine WC.sr ?_
 refine Kh rfl (og_box rfl rfl (by (exact cells_agg _))) ?_
 intro b1
 refine Ka rfl (WL.nt (WC.seq (WC.sr ?_)))
 refine Kq rfl (rd_fa (q := 0) rfl rfl Tryz.underlying35 rfl (by kernel_rfl) rfl) ?_
 refine Kq rfl (ld rfl rfl .tc Tryz.underlying31 rfl (by rfl)) ?_
 refine Kq rfl (rd_len rfl rfl Tryz.underlying31) (Km rfl (WL.nt (WC.block ?_)))
 refine WC.loopP (σ := Nat) [(6, _), (7, _)] (fun gq => [(8, .int .i64 (gq : Int))]) (fun gq => gq ≤ s.gs.length ∧ ∀ g ∈ s.gs.take gq, g.2 = []) (fun gq => s.gs.length - gq) (0) (sub_cons rfl (sub_cons rfl (sub_nil _))) (sub_cons rfl (sub_nil _)) (by (try dsimp only); exact ⟨Nat.zero_le _, by simp⟩) ?_
 rintro i hinv1; (try dsimp only at hinv1 ⊢)
 obtain ⟨hi, hok⟩ := hinv1
 refine WC.sr (Kq rfl (rd_lss rfl rfl rfl) (WL.nt (WC.seq ?_)))
 refine WC.cond rfl (fun hc9 => ?_) (fun hc9 => ?_)
 ·(try simp only [sB] at hc9)
  have hil : i < s.gs.length := by omega
  refine WC.skip (WX.then_normal (WC.seq (WC.block (WC.sr ?_))))
  (refine Kq rfl (iaf rfl rfl rfl Tryz.underlying31 (by kernel_rfl : _ = some 2) ?_ ?_ (by (try simp only [sN, Int.reduceToNat, Nat.reduceAdd, Nat.reduceMul, Nat.reduceSub]); rfl)) ?_; (focus (omega)); (focus ((rw [flatMap_len _ _ 2 (fun _ => rfl)]; omega))))
  (refine Kq rfl (ldma _ rfl rfl Tryz.underlying24 rfl (by kernel_rfl : _ = some 2) (fun _ => rfl) (by decide) rfl ?_) ?_; (focus (assumption)))
  refine Kh rfl (og_alloc rfl (v := (.agg #[.string (S []), .string (S [])])) (cs := [.string (S []), .string (S [])]) (by kernel_rfl) rfl) ?_
  intro b4
  refine WL.g0 rfl rfl (sta rfl rfl rfl .tc ?_ ?_ ?_) ?_
  ·kernel_rfl
  ·simp [Value.oneCell']
  ·rfl
  intro _
  refine WL.nt (WC.sr ?_)
  refine Kq rfl (rd_fa (q := 1) rfl rfl Tryz.underlying24 rfl (by kernel_rfl) rfl) ?_
  refine Kq rfl (ld rfl rfl .tc Tryz.underlying22 rfl (by rfl)) ?_
  refine Kq rfl (rd_sne rfl rfl rfl) (WL.nt ?_)
  refine WC.cond rfl (fun hc14 => ?_) (fun hc14 => ?_)
  ·(try simp only [sB] at hc14)
   refine WC.sr ?_
   refine Kq rfl (rd_fa (q := 1) rfl rfl Tryz.underlying24 rfl (by kernel_rfl) rfl) ?_
   refine Kq rfl (ld rfl rfl .tc Tryz.underlying22 rfl (by rfl)) ?_
   refine Ka rfl (WL.nt (WC.ret (WX.block_ret (WX.then_ret (WX.then_ret (WX.block_ret (WX.then_ret ?_)))))))
   exact WX.retN rfl (.tmp rfl .nil) fun w' hS => ⟨by rw [ordS_at hil hok (by simpa using hc14)]; rfl, hS.below⟩
  ·(try simp only [sB] at hc14)
   refine WC.skip (WX.block_normal (WX.then_normal (WC.region ?_)))
   (refine Kq rfl (rd_add64nl rfl rfl rfl ?_) ?_; (focus (omega)))
   refine Km rfl (WL.nil ?_)
   refine WX.loopP (i + 1) (by (try dsimp only); omega) (sub_cons rfl (sub_cons rfl (sub_nil _))) (by refine (sub_cons ?_ (sub_nil _)) <;> (rfl)) ?_ (by (exact st_sub))
   (try dsimp only)
   exact ⟨hil, all_take hil hok (by simpa using hc14)⟩
 ·(try simp only [sB] at hc9)
  refine WC.exit (WX.then_exit (WX.then_exit (WX.block_exit ?_)))
  obtain rfl : i = s.gs.length := by omega
  rw [List.take_length] at hok
  refine WX.then_normal (WC.sr (Ka rfl (WL.nt (WC.ret ?_))))
  exact WX.retN rfl (.tmp rfl .nil) fun w' hS => ⟨by rw [ordS_nil hok]; rfl, hS.below⟩
theorem form_c {s : SA} {w : World} {ok : Nat → Prop} (hF1 : (Fact.sl s.ga (gps s.gs)).holds ok w) (hF2 : (Fact.sl s.va (vrs s.vs)).holds ok w) (hF3 : (Fact.sl s.ea (qas s.es)).holds ok w) (hM : ∀ f ∈ (s.es.map qaF), f.holds ok w) (hs : saL s) :
  Calls Tryz.prog 113 #[saV s] w fun e w' => e = .returned (.int .i64 (if formS s.core then 0 else 3)) ∧ Below w.heap.size w w' := by
 obtain ⟨hlg, hlv, hle, hlt, hlm⟩ := hs
 refine enter (S := St (fun _ => True) w [] (Fact.sl s.ga (gps s.gs) :: Fact.sl s.va (vrs s.vs) :: Fact.sl s.ea (qas s.es) :: (s.es.map qaF))) (L := [(0, saV s)]) Tryz.func113 rfl Tryz.ntmps113 rfl (args_cons rfl (args_nil _)) (St.start (fun _ _ => trivial) (facts_cons (fact_any hF1) (facts_cons (fact_any hF2) (facts_cons (fact_any hF3) (facts_more hM))))) ?_
 refine WC.sr ?_
 refine Kh rfl (og_box rfl rfl (by (exact cells_agg _))) ?_
 intro b1
 refine Ka rfl (WL.nt (WC.seq (WC.sr ?_)))
 refine Kq rfl (rd_fa (q := 0) rfl rfl Tryz.underlying35 rfl (by kernel_rfl) rfl) ?_
 refine Kq rfl (ld rfl rfl .tc Tryz.underlying31 rfl (by rfl)) ?_
 refine Kq rfl (rd_len rfl rfl Tryz.underlying31) (Km rfl (WL.nt (WC.block ?_)))
 refine WC.loopP (σ := Nat) [(1, _), (12, _), (13, _)] (fun gq => [(14, .int .i64 (gq : Int))]) (fun gq => gq ≤ s.gs.length ∧ ∀ g ∈ s.gs.take gq, okG g) (fun gq => s.gs.length - gq) (0) (sub_cons rfl (sub_cons rfl (sub_cons rfl (sub_nil _)))) (sub_cons rfl (sub_nil _)) (by (try dsimp only); exact ⟨Nat.zero_le _, by simp⟩) ?_
 rintro i hinv1; (try dsimp only at hinv1 ⊢)
 obtain ⟨hi, hok⟩ := hinv1
 refine WC.sr (Kq rfl (rd_lss rfl rfl rfl) (WL.nt (WC.seq ?_)))
 refine WC.cond rfl (fun hc15 => ?_) (fun hc15 => ?_)
 ·(try simp only [sB] at hc15)
  have hil : i < s.gs.length := by omega
  refine WC.skip (WX.then_normal (WC.seq (WC.block (WC.sr ?_))))
  (refine Kq rfl (iaf rfl rfl rfl Tryz.underlying31 (by kernel_rfl : _ = some 2) ?_ ?_ (by (try simp only [sN, Int.reduceToNat, Nat.reduceAdd, Nat.reduceMul, Nat.reduceSub]); rfl)) ?_; (focus (omega)); (focus ((rw [flatMap_len _ _ 2 (fun _ => rfl)]; omega))))
  (refine Kq rfl (ldma _ rfl rfl Tryz.underlying24 rfl (by kernel_rfl : _ = some 2) (fun _ => rfl) (by decide) rfl ?_) ?_; (focus (assumption)))
  refine Kh rfl (og_alloc rfl (v := (.agg #[.string (S []), .string (S [])])) (cs := [.string (S []), .string (S [])]) (by kernel_rfl) rfl) ?_
  intro b4
  refine WL.g0 rfl rfl (sta rfl rfl rfl .tc ?_ ?_ ?_) ?_
  ·kernel_rfl
  ·simp [Value.oneCell']
  ·rfl
  intro _
  refine WL.nt ?_
  refine WC.joinP (σ := Unit) [(1, _), (12, _), (13, _), (14, _)] (fun gq => [(27, .bool (decide (¬ (okN (s.gs.getD i default).1 ∧ okN (s.gs.getD i default).2))))]) (fun gq => True) (sub_cons rfl (sub_cons rfl (sub_cons rfl (sub_cons rfl (sub_nil _))))) ?_ ?_
  ·skip
   refine WC.region ?_
   refine Kq rfl (rd_fa (q := 0) rfl rfl Tryz.underlying24 rfl (by kernel_rfl) rfl) ?_
   refine Kq rfl (ld rfl rfl .tc Tryz.underlying22 rfl (by rfl)) ?_
   refine Kh rfl (og_call rfl rfl (by kernel_rfl) (keep_val fun w hS => valid_c (a := (s.gs.getD i default).1))) ?_
   intro _
   refine Kq rfl (rd_not rfl rfl) (Km rfl ?_)
   refine WL.bool 22 rfl (fun hg22 => ?_) (fun hg22 => ?_)
   ·(try simp only [sB] at hg22)
    refine Kt rfl (Kt rfl (Kt rfl (Kt rfl (Kq rfl (rd_pickt rfl rfl rfl) (WL.nil ?_)))))
    refine WX.joinP (()) (sub_cons rfl (sub_cons rfl (sub_cons rfl (sub_cons rfl (sub_nil _))))) (by refine (sub_cons ?_ (sub_nil _)) <;> ((refine congrArg (fun b => some (Value.bool b)) ?_; simp [*, -List.getD_eq_getElem?_getD]; done))) ?_ (by (exact fun _ h => h))
    (try dsimp only)
    done
   ·(try simp only [sB] at hg22)
    refine Kq rfl (rd_fa (q := 1) rfl rfl Tryz.underlying24 rfl (by kernel_rfl) rfl) ?_
    refine Kq rfl (ld rfl rfl .tc Tryz.underlying22 rfl (by rfl)) ?_
    refine Kh rfl (og_call rfl rfl (by kernel_rfl) (keep_val fun w hS => valid_c (a := (s.gs.getD i default).2))) ?_
    intro _
    refine Kq rfl (rd_not rfl rfl) (Kq rfl (rd_pickf rfl rfl rfl) (WL.nil ?_))
    refine WX.joinP (()) (sub_cons rfl (sub_cons rfl (sub_cons rfl (sub_cons rfl (sub_nil _))))) (by refine (sub_cons ?_ (sub_nil _)) <;> ((refine congrArg (fun b => some (Value.bool b)) ?_; simp [*, -List.getD_eq_getElem?_getD]; done))) ?_ (by (exact fun _ h => h))
    (try dsimp only)
    done
  ·rintro _ hmeet; (try dsimp only at hmeet ⊢)
   refine WC.cond rfl (fun hc27 => ?_) (fun hc27 => ?_)
   ·(try simp only [sB] at hc27)
    refine WC.sr (Ka rfl (WL.nt (WC.ret (WX.block_ret (WX.then_ret (WX.then_ret (WX.block_ret (WX.then_ret ?_))))))))
    exact WX.retN rfl (.tmp rfl .nil) fun w' hS => ⟨by rw [if_neg (fun h => absurd (h.1 _ (getD_mem _ _ hil)) hc27)]; rfl, hS.below⟩
   ·(try simp only [sB] at hc27)
    refine WC.skip (WX.block_normal (WX.then_normal (WC.region ?_)))
    (refine Kq rfl (rd_add64nl rfl rfl rfl ?_) ?_; (focus (omega)))
    refine Km rfl (WL.nil ?_)
    refine WX.loopP (i + 1) (by (try dsimp only); omega) (sub_cons rfl (sub_cons rfl (sub_cons rfl (sub_nil _)))) (by refine (sub_cons ?_ (sub_nil _)) <;> (rfl)) ?_ (by (exact st_sub))
    (try dsimp only)
    exact ⟨hil, all_take hil hok (Decidable.not_not.1 hc27)⟩
 ·(try simp only [sB] at hc15)
  refine WC.exit (WX.then_exit (WX.then_exit (WX.block_exit ?_)))
  obtain rfl : i = s.gs.length := by omega
  rw [List.take_length] at hok
  refine WX.then_normal (WC.seq (WC.sr ?_))
  refine Kq rfl (rd_fa (q := 1) rfl rfl Tryz.underlying35 rfl (by kernel_rfl) rfl) ?_
  refine Kq rfl (ld rfl rfl .tc Tryz.underlying32 rfl (by rfl)) ?_
  refine Kq rfl (rd_len rfl rfl Tryz.underlying32) (Km rfl (WL.nt (WC.block ?_)))
  refine WC.loopP (σ := Nat) [(1, _), (30, _), (31, _)] (fun gq => [(32, .int .i64 (gq : Int))]) (fun gq => gq ≤ s.vs.length ∧ ∀ v ∈ s.vs.take gq, okN v) (fun gq => s.vs.length - gq) (0) (sub_cons rfl (sub_cons rfl (sub_cons rfl (sub_nil _)))) (sub_cons rfl (sub_nil _)) (by (try dsimp only); exact ⟨Nat.zero_le _, by simp⟩) ?_
  rintro j hinv2; (try dsimp only at hinv2 ⊢)
  obtain ⟨hj, hov⟩ := hinv2
  refine WC.sr (Kq rfl (rd_lss rfl rfl rfl) (WL.nt (WC.seq ?_)))
  refine WC.cond rfl (fun hc33 => ?_) (fun hc33 => ?_)
  ·(try simp only [sB] at hc33)
   have hjl : j < s.vs.length := by omega
   refine WC.skip (WX.then_normal (WC.seq (WC.block (WC.sr ?_))))
   (refine Kq rfl (iaf rfl rfl rfl Tryz.underlying32 (by kernel_rfl : _ = some 1) ?_ ?_ (by (try simp only [sN, Int.reduceToNat, Nat.reduceAdd, Nat.reduceMul, Nat.reduceSub]); rfl)) ?_; (focus (omega)); (focus ((rw [flatMap_len _ _ 1 (fun _ => rfl)]; omega))))
   (refine Kq rfl (ldma _ rfl rfl Tryz.underlying91 rfl (by kernel_rfl : _ = some 1) (fun _ => rfl) (by decide) (Nat.mul_one _).symm ?_) ?_; (focus (assumption)))
   refine Kh rfl (og_alloc rfl (v := (.agg #[.string (S [])])) (cs := [.string (S [])]) (by kernel_rfl) rfl) ?_
   intro b6
   refine WL.g0 rfl rfl (sta rfl rfl rfl .tc ?_ ?_ ?_) ?_
   ·kernel_rfl
   ·simp [Value.oneCell']
   ·rfl
   intro _
   refine WL.nt (WC.sr ?_)
   refine Kq rfl (rd_fa (q := 0) rfl rfl Tryz.underlying91 rfl (by kernel_rfl) rfl) ?_
   refine Kq rfl (ld rfl rfl .tc Tryz.underlying22 rfl (by rfl)) ?_
   refine Kh rfl (og_call rfl rfl (by kernel_rfl) (keep_val fun w hS => valid_c (a := s.vs.getD j default))) ?_
   intro _
   refine Kq rfl (rd_not rfl rfl) (WL.nt ?_)
   refine WC.cond rfl (fun hc39 => ?_) (fun hc39 => ?_)
   ·(try simp only [sB] at hc39)
    refine WC.sr (Ka rfl (WL.nt (WC.ret (WX.block_ret (WX.then_ret (WX.then_ret (WX.block_ret (WX.then_ret ?_))))))))
    exact WX.retN rfl (.tmp rfl .nil) fun w' hS => ⟨by rw [if_neg (fun h => absurd (h.2.1 _ (getD_mem _ _ hjl)) (by simpa using hc39))]; rfl, hS.below⟩
   ·(try simp only [sB] at hc39)
    refine WC.skip (WX.block_normal (WX.then_normal (WC.region ?_)))
    (refine Kq rfl (rd_add64nl rfl rfl rfl ?_) ?_; (focus (omega)))
    refine Km rfl (WL.nil ?_)
    refine WX.loopP (j + 1) (by (try dsimp only); omega) (sub_cons rfl (sub_cons rfl (sub_cons rfl (sub_nil _)))) (by refine (sub_cons ?_ (sub_nil _)) <;> (rfl)) ?_ (by (exact st_sub))
    (try dsimp only)
    exact ⟨hjl, all_take hjl hov (by simpa using hc39)⟩
  ·(try simp only [sB] at hc33)
   refine WC.exit (WX.then_exit (WX.then_exit (WX.block_exit ?_)))
   obtain rfl : j = s.vs.length := by omega
   rw [List.take_length] at hov
   refine WX.then_normal (WC.seq (WC.sr ?_))
   refine Kq rfl (rd_fa (q := 2) rfl rfl Tryz.underlying35 rfl (by kernel_rfl) rfl) ?_
   refine Kq rfl (ld rfl rfl .tc Tryz.underlying33 rfl (by rfl)) ?_
   refine Kq rfl (rd_len rfl rfl Tryz.underlying33) (Km rfl (WL.nt (WC.block ?_)))
   refine WC.loopP (σ := Nat) [(1, _), (42, _), (43, _)] (fun gq => [(44, .int .i64 (gq : Int))]) (fun gq => gq ≤ s.es.length ∧ ∀ q ∈ s.es.take gq, okQ s.gs.length s.vs.length q.1) (fun gq => s.es.length - gq) (0) (sub_cons rfl (sub_cons rfl (sub_cons rfl (sub_nil _)))) (sub_cons rfl (sub_nil _)) (by (try dsimp only); exact ⟨Nat.zero_le _, by simp⟩) ?_
   rintro k hinv3; (try dsimp only at hinv3 ⊢)
   obtain ⟨hk, hoq⟩ := hinv3
   refine WC.sr (Kq rfl (rd_lss rfl rfl rfl) (WL.nt (WC.seq ?_)))
   refine WC.cond rfl (fun hc45 => ?_) (fun hc45 => ?_)
   ·(try simp only [sB] at hc45)
    have hkl : k < s.es.length := by omega
    have hkm := getD_mem s.es k hkl
    have hlt1 := hlt _ hkm
    refine WC.skip (WX.then_normal (WC.seq (WC.block (WC.sr ?_))))
    (refine Kq rfl (iaf rfl rfl rfl Tryz.underlying33 (by kernel_rfl : _ = some 3) ?_ ?_ (by (try simp only [sN, Int.reduceToNat, Nat.reduceAdd, Nat.reduceMul, Nat.reduceSub]); rfl)) ?_; (focus (omega)); (focus ((rw [flatMap_len _ _ 3 (fun _ => rfl)]; omega))))
    (refine Kq rfl (ldma _ rfl rfl Tryz.underlying102 rfl (by kernel_rfl : _ = some 3) (fun _ => rfl) (by decide) rfl ?_) ?_; (focus (assumption)))
    refine Kh rfl (og_alloc rfl (v := (.agg #[.int .i64 0, .string (S []), .slice none 0 0])) (cs := [.int .i64 0, .string (S []), .slice none 0 0]) (by kernel_rfl) rfl) ?_
    intro b8
    refine WL.g0 rfl rfl (sta rfl rfl rfl .tc ?_ ?_ ?_) ?_
    ·kernel_rfl
    ·simp [Value.oneCell']
    ·rfl
    intro _
    refine WL.nt (WC.seq ?_)
    refine WC.joinP (σ := Unit) [(1, _), (8, _), (42, _), (43, _), (44, _)] (fun gq => [(64, .bool (decide (¬ ((0 ≤ (s.es.getD k default).1.1 ∧ (s.es.getD k default).1.1 < (s.gs.length : Int)) ∧ okN (s.es.getD k default).1.2.1))))]) (fun gq => True) (sub_cons rfl (sub_cons rfl (sub_cons rfl (sub_cons rfl (sub_cons rfl (sub_nil _)))))) ?_ ?_
    ·skip
     refine WC.region ?_
     refine Kq rfl (rd_fa (q := 0) rfl rfl Tryz.underlying102 rfl (by kernel_rfl) rfl) ?_
     refine Kq rfl (ld rfl rfl .tc Tryz.underlying3 rfl (by rfl)) ?_
     refine Kq rfl (rd_lss rfl rfl rfl) (Km rfl ?_)
     refine WL.bool 51 rfl (fun hg51 => ?_) (fun hg51 => ?_)
     ·(try simp only [sB] at hg51)
      refine Kt rfl (Kt rfl (Kt rfl (Kt rfl (Kt rfl (Kt rfl (Kq rfl (rd_pickt rfl rfl rfl) (Km rfl (Kt rfl (Kt rfl (Kt rfl (Kt rfl ?_)))))))))))
      refine Kq rfl (rd_pickt rfl rfl rfl) (WL.nil ?_)
      refine WX.joinP (()) (sub_cons rfl (sub_cons rfl (sub_cons rfl (sub_cons rfl (sub_cons rfl (sub_nil _)))))) (by refine (sub_cons ?_ (sub_nil _)) <;> ((exact congrArg (fun b => some (Value.bool b)) (by symm; apply decide_eq_true; omega)))) ?_ (by (exact fun _ h => h))
      (try dsimp only)
      done
     ·(try simp only [sB] at hg51)
      refine Kq rfl (rd_fa (q := 0) rfl rfl Tryz.underlying102 rfl (by kernel_rfl) rfl) ?_
      refine Kq rfl (ld rfl rfl .tc Tryz.underlying3 rfl (by rfl)) ?_
      refine Kq rfl (rd_fa (q := 0) rfl rfl Tryz.underlying35 rfl (by kernel_rfl) rfl) ?_
      refine Kq rfl (ld rfl rfl .tc Tryz.underlying31 rfl (by rfl)) ?_
      refine Kq rfl (rd_len rfl rfl Tryz.underlying31) (Kq rfl (rd_geq rfl rfl rfl) (Kq rfl (rd_pickf rfl rfl rfl) (Km rfl ?_)))
      refine WL.bool 59 rfl (fun hg59 => ?_) (fun hg59 => ?_)
      ·(try simp only [sB] at hg59)
       refine Kt rfl (Kt rfl (Kt rfl (Kt rfl (Kq rfl (rd_pickt rfl rfl rfl) (WL.nil ?_)))))
       refine WX.joinP (()) (sub_cons rfl (sub_cons rfl (sub_cons rfl (sub_cons rfl (sub_cons rfl (sub_nil _)))))) (by refine (sub_cons ?_ (sub_nil _)) <;> ((exact congrArg (fun b => some (Value.bool b)) (by symm; apply decide_eq_true; omega)))) ?_ (by (exact fun _ h => h))
       (try dsimp only)
       done
      ·(try simp only [sB] at hg59)
       refine Kq rfl (rd_fa (q := 1) rfl rfl Tryz.underlying102 rfl (by kernel_rfl) rfl) ?_
       refine Kq rfl (ld rfl rfl .tc Tryz.underlying22 rfl (by rfl)) ?_
       refine Kh rfl (og_call rfl rfl (by kernel_rfl) (keep_val fun w hS => valid_c (a := (s.es.getD k default).1.2.1))) ?_
       intro _
       refine Kq rfl (rd_not rfl rfl) (Kq rfl (rd_pickf rfl rfl rfl) (WL.nil ?_))
       refine WX.joinP (()) (sub_cons rfl (sub_cons rfl (sub_cons rfl (sub_cons rfl (sub_cons rfl (sub_nil _)))))) (by refine (sub_cons ?_ (sub_nil _)) <;> ((refine congrArg (fun b => some (Value.bool b)) ?_; simp [*, -List.getD_eq_getElem?_getD]; done))) ?_ (by (exact fun _ h => h))
       (try dsimp only)
       done
    ·rintro _ hmeet; (try dsimp only at hmeet ⊢)
     refine WC.cond rfl (fun hc64 => ?_) (fun hc64 => ?_)
     ·(try simp only [sB] at hc64)
      refine WC.sr (Ka rfl (WL.nt (WC.ret (WX.then_ret (WX.block_ret (WX.then_ret (WX.then_ret (WX.block_ret (WX.then_ret ?_)))))))))
      exact WX.retN rfl (.tmp rfl .nil) fun w' hS => ⟨by rw [if_neg (fun h => absurd (h.2.2 _ (List.mem_map_of_mem hkm)).1 hc64)]; rfl, hS.below⟩
     ·(try simp only [sB] at hc64)
      refine WC.skip (WX.then_normal (WC.sr ?_))
      refine Kq rfl (rd_fa (q := 2) rfl rfl Tryz.underlying102 rfl (by kernel_rfl) rfl) ?_
      refine WL.st (fun w h => st_addm (more := s.es.map qaF) (f := qaF (s.es.getD k default)) h (List.mem_map_of_mem hkm)) ?_
      refine Kq rfl (ld rfl rfl .tc Tryz.underlying100 rfl (by rfl)) ?_
      refine Kq rfl (rd_len rfl rfl Tryz.underlying100) (Km rfl (WL.nt (WC.block ?_)))
      refine WC.loopP (σ := Nat) [(1, _), (42, _), (43, _), (44, _), (66, _), (67, _)] (fun gq => [(68, .int .i64 (gq : Int))]) (fun gq => gq ≤ (s.es.getD k default).1.2.2.length ∧ ∀ t ∈ (s.es.getD k default).1.2.2.take gq, okT s.vs.length t) (fun gq => (s.es.getD k default).1.2.2.length - gq) (0) (sub_cons rfl (sub_cons rfl (sub_cons rfl (sub_cons rfl (sub_cons rfl (sub_cons rfl (sub_nil _))))))) (sub_cons rfl (sub_nil _)) (by (try dsimp only); exact ⟨Nat.zero_le _, by simp⟩) ?_
      rintro m hinv4; (try dsimp only at hinv4 ⊢)
      obtain ⟨hm, hot⟩ := hinv4
      refine WC.sr (Kq rfl (rd_lss rfl rfl rfl) (WL.nt (WC.seq ?_)))
      refine WC.cond rfl (fun hc69 => ?_) (fun hc69 => ?_)
      ·(try simp only [sB] at hc69)
       have hml : m < (s.es.getD k default).1.2.2.length := by omega
       refine WC.skip (WX.then_normal (WC.seq (WC.block (WC.sr ?_))))
       (refine Kq rfl (iaf rfl rfl rfl Tryz.underlying100 (by kernel_rfl : _ = some 4) ?_ ?_ (by (try simp only [sN, Int.reduceToNat, Nat.reduceAdd, Nat.reduceMul, Nat.reduceSub]); rfl)) ?_; (focus (omega)); (focus ((rw [flatMap_len _ _ 4 (fun _ => rfl)]; omega))))
       (refine Kq rfl (ldma _ rfl rfl Tryz.underlying110 rfl (by kernel_rfl : _ = some 4) (fun _ => rfl) (by decide) rfl ?_) ?_; (focus (assumption)))
       refine Kh rfl (og_alloc rfl (v := (.agg #[.string (S []), .int .i64 0, .bool false, .string (S [])])) (cs := [.string (S []), .int .i64 0, .bool false, .string (S [])]) (by kernel_rfl) rfl) ?_
       intro b10
       refine WL.g0 rfl rfl (sta rfl rfl rfl .tc ?_ ?_ ?_) ?_
       ·kernel_rfl
       ·simp [Value.oneCell']
       ·rfl
       intro _
       refine WL.nt ?_
       refine WC.joinP (σ := Unit) [(1, _), (42, _), (43, _), (44, _), (66, _), (67, _), (68, _)] (fun gq => [(94, .bool (decide (¬ ((0 ≤ ((s.es.getD k default).1.2.2.getD m default).2.1 ∧ ((s.es.getD k default).1.2.2.getD m default).2.1 < (s.vs.length : Int)) ∧ okN ((s.es.getD k default).1.2.2.getD m default).1 ∧ okZ ((s.es.getD k default).1.2.2.getD m default).2.2))))]) (fun gq => True) (sub_cons rfl (sub_cons rfl (sub_cons rfl (sub_cons rfl (sub_cons rfl (sub_cons rfl (sub_cons rfl (sub_nil _)))))))) ?_ ?_
       ·skip
        refine WC.region ?_
        refine Kq rfl (rd_fa (q := 1) rfl rfl Tryz.underlying110 rfl (by kernel_rfl) rfl) ?_
        refine Kq rfl (ld rfl rfl .tc Tryz.underlying3 rfl (by rfl)) ?_
        refine Kq rfl (rd_lss rfl rfl rfl) (Km rfl ?_)
        refine WL.bool 75 rfl (fun hg75 => ?_) (fun hg75 => ?_)
        ·(try simp only [sB] at hg75)
         refine Kt rfl (Kt rfl (Kt rfl (Kt rfl (Kt rfl (Kt rfl (Kq rfl (rd_pickt rfl rfl rfl) (Km rfl (Kt rfl (Kt rfl (Kt rfl (Kt rfl ?_)))))))))))
         refine Kq rfl (rd_pickt rfl rfl rfl) (Km rfl (Kt rfl (Kt rfl (Kt rfl (Kt rfl (Kq rfl (rd_pickt rfl rfl rfl) (WL.nil ?_)))))))
         refine WX.joinP (()) (sub_cons rfl (sub_cons rfl (sub_cons rfl (sub_cons rfl (sub_cons rfl (sub_cons rfl (sub_cons rfl (sub_nil _)))))))) (by refine (sub_cons ?_ (sub_nil _)) <;> ((exact congrArg (fun b => some (Value.bool b)) (by symm; apply decide_eq_true; omega)))) ?_ (by (exact fun _ h => h))
         (try dsimp only)
         done
        ·(try simp only [sB] at hg75)
         refine Kq rfl (rd_fa (q := 1) rfl rfl Tryz.underlying110 rfl (by kernel_rfl) rfl) ?_
         refine Kq rfl (ld rfl rfl .tc Tryz.underlying3 rfl (by rfl)) ?_
         refine Kq rfl (rd_fa (q := 1) rfl rfl Tryz.underlying35 rfl (by kernel_rfl) rfl) ?_
         refine Kq rfl (ld rfl rfl .tc Tryz.underlying32 rfl (by rfl)) ?_
         refine Kq rfl (rd_len rfl rfl Tryz.underlying32) (Kq rfl (rd_geq rfl rfl rfl) (Kq rfl (rd_pickf rfl rfl rfl) (Km rfl ?_)))
         refine WL.bool 83 rfl (fun hg83 => ?_) (fun hg83 => ?_)
         ·(try simp only [sB] at hg83)
          refine Kt rfl (Kt rfl (Kt rfl (Kt rfl (Kq rfl (rd_pickt rfl rfl rfl) (Km rfl (Kt rfl (Kt rfl (Kt rfl (Kt rfl (Kq rfl (rd_pickt rfl rfl rfl) (WL.nil ?_)))))))))))
          refine WX.joinP (()) (sub_cons rfl (sub_cons rfl (sub_cons rfl (sub_cons rfl (sub_cons rfl (sub_cons rfl (sub_cons rfl (sub_nil _)))))))) (by refine (sub_cons ?_ (sub_nil _)) <;> ((exact congrArg (fun b => some (Value.bool b)) (by symm; apply decide_eq_true; omega)))) ?_ (by (exact fun _ h => h))
          (try dsimp only)
          done
         ·(try simp only [sB] at hg83)
          refine Kq rfl (rd_fa (q := 0) rfl rfl Tryz.underlying110 rfl (by kernel_rfl) rfl) ?_
          refine Kq rfl (ld rfl rfl .tc Tryz.underlying22 rfl (by rfl)) ?_
          refine Kh rfl (og_call rfl rfl (by kernel_rfl) (keep_val fun w hS => valid_c (a := ((s.es.getD k default).1.2.2.getD m default).1))) ?_
          intro _
          refine Kq rfl (rd_not rfl rfl) (Kq rfl (rd_pickf rfl rfl rfl) (Km rfl ?_))
          refine WL.bool 89 rfl (fun hg89 => ?_) (fun hg89 => ?_)
          ·(try simp only [sB] at hg89)
           refine Kt rfl (Kt rfl (Kt rfl (Kt rfl (Kq rfl (rd_pickt rfl rfl rfl) (WL.nil ?_)))))
           refine WX.joinP (()) (sub_cons rfl (sub_cons rfl (sub_cons rfl (sub_cons rfl (sub_cons rfl (sub_cons rfl (sub_cons rfl (sub_nil _)))))))) (by refine (sub_cons ?_ (sub_nil _)) <;> ((refine congrArg (fun b => some (Value.bool b)) ?_; simp [*, -List.getD_eq_getElem?_getD]; done))) ?_ (by (exact fun _ h => h))
           (try dsimp only)
           done
          ·(try simp only [sB] at hg89)
           refine Kq rfl (rd_fa (q := 2) rfl rfl Tryz.underlying110 rfl (by kernel_rfl) rfl) ?_
           refine Kq rfl (ldp rfl rfl .tc Tryz.underlying45 rfl (by kernel_rfl : _ = some 2) (by rfl) (by rfl)) ?_
           refine Kh rfl (og_call rfl rfl (by kernel_rfl) (keep_val fun w hS => zvalid_c (x := ((s.es.getD k default).1.2.2.getD m default).2.2))) ?_
           intro _
           refine Kq rfl (rd_not rfl rfl) (Kq rfl (rd_pickf rfl rfl rfl) (WL.nil ?_))
           refine WX.joinP (()) (sub_cons rfl (sub_cons rfl (sub_cons rfl (sub_cons rfl (sub_cons rfl (sub_cons rfl (sub_cons rfl (sub_nil _)))))))) (by refine (sub_cons ?_ (sub_nil _)) <;> ((refine congrArg (fun b => some (Value.bool b)) ?_; simp [*, -List.getD_eq_getElem?_getD]; done))) ?_ (by (exact fun _ h => h))
           (try dsimp only)
           done
       ·rintro _ hmeet; (try dsimp only at hmeet ⊢)
        refine WC.cond rfl (fun hc94 => ?_) (fun hc94 => ?_)
        ·(try simp only [sB] at hc94)
         refine WC.sr (Ka rfl (WL.nt (WC.ret (WX.block_ret (WX.then_ret (WX.then_ret (WX.block_ret (WX.block_ret (WX.then_ret (WX.then_ret (WX.block_ret ?_)))))))))))
         refine WX.then_ret ?_
         exact WX.retN rfl (.tmp rfl .nil) fun w' hS => ⟨by rw [if_neg (fun h => absurd ((h.2.2 _ (List.mem_map_of_mem hkm)).2 _ (getD_mem _ _ hml)) hc94)]; rfl, hS.below⟩
        ·(try simp only [sB] at hc94)
         refine WC.skip (WX.block_normal (WX.then_normal (WC.region ?_)))
         (refine Kq rfl (rd_add64nl rfl rfl rfl ?_) ?_; (focus (omega)))
         refine Km rfl (WL.nil ?_)
         refine WX.loopP (m + 1) (by (try dsimp only); omega) (sub_cons rfl (sub_cons rfl (sub_cons rfl (sub_cons rfl (sub_cons rfl (sub_cons rfl (sub_nil _))))))) (by refine (sub_cons ?_ (sub_nil _)) <;> (rfl)) ?_ (by (exact st_sub))
         (try dsimp only)
         exact ⟨hml, all_take hml hot (Decidable.not_not.1 hc94)⟩
      ·(try simp only [sB] at hc69)
       refine WC.exit (WX.then_exit (WX.then_exit (WX.block_exit ?_)))
       obtain rfl : m = (s.es.getD k default).1.2.2.length := by omega
       rw [List.take_length] at hot
       refine WX.block_normal (WX.then_normal (WC.region ?_))
       (refine Kq rfl (rd_add64nl rfl rfl rfl ?_) ?_; (focus (omega)))
       refine Km rfl (WL.nil ?_)
       refine WX.loopP (k + 1) (by (try dsimp only); omega) (sub_cons rfl (sub_cons rfl (sub_cons rfl (sub_nil _)))) (by refine (sub_cons ?_ (sub_nil _)) <;> (rfl)) ?_ (by (exact st_sub))
       (try dsimp only)
       exact ⟨hkl, all_take hkl hoq ⟨Decidable.not_not.1 hc64, hot⟩⟩
   ·(try simp only [sB] at hc45)
    refine WC.exit (WX.then_exit (WX.then_exit (WX.block_exit ?_)))
    obtain rfl : k = s.es.length := by omega
    rw [List.take_length] at hoq
    refine WX.then_normal (WC.sr (Ka rfl (WL.nt (WC.ret ?_))))
    exact WX.retN rfl (.tmp rfl .nil) fun w' hS => ⟨by rw [if_pos ⟨hok, hov, forall_qa.2 hoq⟩]; rfl, hS.below⟩
theorem szq_c {q : QA} {w : World} :
  Calls Tryz.prog 161 #[.agg #[.int .i64 q.1.1, .string (S q.1.2.1), .slice q.2.1 q.1.2.2.length q.2.2]] w fun e w' => e = .returned (.bool (decide (q.1.2.2.length > 64))) ∧ Below w.heap.size w w' := by
 refine enter (S := St (fun _ => True) w [] ([])) (L := [(0, .agg #[.int .i64 q.1.1, .string (S q.1.2.1), .slice q.2.1 q.1.2.2.length q.2.2])]) Tryz.func161 rfl Tryz.ntmps161 rfl (args_cons rfl (args_nil _)) (St.start (fun _ _ => trivial) facts_nil) ?_
 refine WC.sr ?_
 refine Kh rfl (og_box rfl rfl (by (exact cells_agg _))) ?_
 intro b1
 refine Ka rfl (WL.nt (WC.sr ?_))
 refine Kq rfl (rd_fa (q := 2) rfl rfl Tryz.underlying102 rfl (by kernel_rfl) rfl) ?_
 refine Kq rfl (ld rfl rfl .tc Tryz.underlying100 rfl (by rfl)) ?_
 refine Kq rfl (rd_len rfl rfl Tryz.underlying100) (Kq rfl (rd_gtr rfl rfl rfl) (Ka rfl (WL.nt (WC.ret ?_))))
 exact WX.retN rfl (.tmp rfl .nil) fun w' hS => ⟨by simp [tup]; omega, hS.below⟩
theorem sizes_c {s : SA} {w : World} {ok : Nat → Prop} (hF1 : (Fact.sl s.ga (gps s.gs)).holds ok w) (hF2 : (Fact.sl s.va (vrs s.vs)).holds ok w) (hF3 : (Fact.sl s.ea (qas s.es)).holds ok w) (hs : saL s) :
  Calls Tryz.prog 140 #[saV s] w fun e w' => e = .returned (.int .i64 (if sizeS s.core then 0 else 6)) ∧ Below w.heap.size w w' := by
 obtain ⟨hlg, hlv, hle, hlt, hlm⟩ := hs
 refine enter (S := St (fun _ => True) w [] ([Fact.sl s.ga (gps s.gs), Fact.sl s.va (vrs s.vs), Fact.sl s.ea (qas s.es)])) (L := [(0, saV s)]) Tryz.func140 rfl Tryz.ntmps140 rfl (args_cons rfl (args_nil _)) (St.start (fun _ _ => trivial) (facts_cons (fact_any hF1) (facts_cons (fact_any hF2) (facts_cons (fact_any hF3) facts_nil)))) ?_
 refine WC.sr ?_
 refine Kh rfl (og_box rfl rfl (by (exact cells_agg _))) ?_
 intro b1
 refine Ka rfl (WL.nt (WC.seq ?_))
 refine WC.joinP (σ := Unit) [(1, _)] (fun gq => [(18, .bool (decide (¬ (s.gs.length ≤ 8 ∧ s.vs.length ≤ 64 ∧ s.es.length ≤ 64))))]) (fun gq => True) (sub_cons rfl (sub_nil _)) ?_ ?_
 ·skip
  refine WC.region ?_
  refine Kq rfl (rd_fa (q := 0) rfl rfl Tryz.underlying35 rfl (by kernel_rfl) rfl) ?_
  refine Kq rfl (ld rfl rfl .tc Tryz.underlying31 rfl (by rfl)) ?_
  refine Kq rfl (rd_len rfl rfl Tryz.underlying31) (Kq rfl (rd_gtr rfl rfl rfl) (Km rfl ?_))
  refine WL.bool 7 rfl (fun hg7 => ?_) (fun hg7 => ?_)
  ·(try simp only [sB] at hg7)
   refine Kt rfl (Kt rfl (Kt rfl (Kt rfl (Kq rfl (rd_pickt rfl rfl rfl) (Km rfl (Kt rfl (Kt rfl (Kt rfl (Kt rfl (Kq rfl (rd_pickt rfl rfl rfl) (WL.nil ?_)))))))))))
   refine WX.joinP (()) (sub_cons rfl (sub_nil _)) (by refine (sub_cons ?_ (sub_nil _)) <;> ((exact congrArg (fun b => some (Value.bool b)) (by symm; apply decide_eq_true; omega)))) ?_ (by (exact fun _ h => h))
   (try dsimp only)
   done
  ·(try simp only [sB] at hg7)
   refine Kq rfl (rd_fa (q := 1) rfl rfl Tryz.underlying35 rfl (by kernel_rfl) rfl) ?_
   refine Kq rfl (ld rfl rfl .tc Tryz.underlying32 rfl (by rfl)) ?_
   refine Kq rfl (rd_len rfl rfl Tryz.underlying32) (Kq rfl (rd_gtr rfl rfl rfl) (Kq rfl (rd_pickf rfl rfl rfl) (Km rfl ?_)))
   refine WL.bool 13 rfl (fun hg13 => ?_) (fun hg13 => ?_)
   ·(try simp only [sB] at hg13)
    refine Kt rfl (Kt rfl (Kt rfl (Kt rfl (Kq rfl (rd_pickt rfl rfl rfl) (WL.nil ?_)))))
    refine WX.joinP (()) (sub_cons rfl (sub_nil _)) (by refine (sub_cons ?_ (sub_nil _)) <;> ((exact congrArg (fun b => some (Value.bool b)) (by symm; apply decide_eq_true; omega)))) ?_ (by (exact fun _ h => h))
    (try dsimp only)
    done
   ·(try simp only [sB] at hg13)
    refine Kq rfl (rd_fa (q := 2) rfl rfl Tryz.underlying35 rfl (by kernel_rfl) rfl) ?_
    refine Kq rfl (ld rfl rfl .tc Tryz.underlying33 rfl (by rfl)) ?_
    refine Kq rfl (rd_len rfl rfl Tryz.underlying33) (Kq rfl (rd_gtr rfl rfl rfl) (Kq rfl (rd_pickf rfl rfl rfl) (WL.nil ?_)))
    refine WX.joinP (()) (sub_cons rfl (sub_nil _)) (by refine (sub_cons ?_ (sub_nil _)) <;> ((refine slot_b rfl ?_; (try dsimp only); (exact decide_eq_decide.2 (by omega))))) ?_ (by (exact fun _ h => h))
    (try dsimp only)
    done
 ·rintro _ hmeet; (try dsimp only at hmeet ⊢)
  refine WC.cond rfl (fun hc18 => ?_) (fun hc18 => ?_)
  ·(try simp only [sB] at hc18)
   have hr : ¬ sizeS s.core := fun h => hc18 (by simpa using h.1)
   refine WC.sr (Ka rfl (WL.nt (WC.ret (WX.then_ret ?_))))
   exact WX.retN rfl (.tmp rfl .nil) fun w' hS => ⟨by rw [if_neg hr]; rfl, hS.below⟩
  ·(try simp only [sB] at hc18)
   refine WC.skip (WX.then_normal (WC.seq (WC.sr ?_)))
   refine Kq rfl (rd_fa (q := 2) rfl rfl Tryz.underlying35 rfl (by kernel_rfl) rfl) ?_
   refine Kq rfl (ld rfl rfl .tc Tryz.underlying33 rfl (by rfl)) ?_
   refine Kh rfl (og_call rfl rfl (by kernel_rfl) (keep_val fun w hS => cfQ_c (l := s.es) (fk := 161) (cs := #[]) (p := fun q => decide (q.1.2.2.length > 64)) (by (exact hS.sl)) (by exact hle) (by kernel_rfl) (by exact fun x hx w' hb => by rw [fnc0]; exact szq_c))) ?_
   intro _
   refine WL.nt ?_
   refine WC.cond rfl (fun hc21 => ?_) (fun hc21 => ?_)
   ·(try simp only [sB] at hc21)
    have hr : ¬ sizeS s.core := fun h => by
     obtain ⟨q, hq, hq2⟩ := List.any_eq_true.1 hc21
     have := h.2 _ (List.mem_map_of_mem hq); simp at hq2; omega
    refine WC.sr (Ka rfl (WL.nt (WC.ret (WX.then_ret ?_))))
    exact WX.retN rfl (.tmp rfl .nil) fun w' hS => ⟨by rw [if_neg hr]; rfl, hS.below⟩
   ·(try simp only [sB] at hc21)
    have hr : sizeS s.core := ⟨by simpa using hc18, forall_qa.2 fun q hq => by
     have := List.any_eq_false.1 hc21 q hq; simpa using this⟩
    refine WC.skip (WX.then_normal (WC.sr (Ka rfl (WL.nt (WC.ret ?_)))))
    exact WX.retN rfl (.tmp rfl .nil) fun w' hS => ⟨by rw [if_pos hr]; rfl, hS.below⟩
end Go.Proofs.YtnimhldbblfgbaaGreat
namespace Go.Proofs.YtnimhldbblfgbaaGreat
set_option linter.unusedSimpArgs false
set_option linter.unusedVariables false
set_option maxRecDepth 20000
set_option maxHeartbeats 600000
open Go.RowKit
theorem any_dec {α : Type} (l : List α) (p : α → Prop) [DecidablePred p] : (l.any fun x => decide (¬ p x)) = decide (¬ ∀ x ∈ l, p x) := by rw [Bool.eq_iff_iff]; simp
theorem any_dec' {α : Type} (l : List α) (p : α → Prop) [DecidablePred p] : (l.any fun x => decide (p x)) = decide (¬ ∀ x ∈ l, ¬ p x) := by rw [Bool.eq_iff_iff]; simp
instance hasM_appL {a b : List Fact} : HasM (a ++ b) a := ⟨fun _ h => List.mem_append_left _ h⟩
instance hasM_appR {a b c : List Fact} [h : HasM b c] : HasM (a ++ b) c := ⟨fun _ hh => List.mem_append_right _ (h.h _ hh)⟩
theorem elt_c {t : Tm} {g : Gp} {p : Nat} {w : World} {ok : Nat → Prop} (hF1 : (Fact.sl (some ⟨p, 0, none⟩) (gpC g)).holds ok w) (hg : chkG g = 0) (hm8 : g.1.length ≤ 8) :
  Calls Tryz.prog 163 #[.agg #[.string (S t.1), .int .i64 t.2.1, .bool t.2.2.1, .string (S t.2.2.2)], .pointer (some ⟨p, 0, none⟩)] w fun e w' => e = .returned (.bool (decide (¬ elG g t.1))) ∧ Below w.heap.size w w' := by
 refine enter (S := St (fun _ => True) w [] ([Fact.sl (some ⟨p, 0, none⟩) (gpC g)])) (L := [(0, .agg #[.string (S t.1), .int .i64 t.2.1, .bool t.2.2.1, .string (S t.2.2.2)]), (1, .pointer (some ⟨p, 0, none⟩))]) Tryz.func163 rfl Tryz.ntmps163 rfl (args_cons rfl (args_cons rfl (args_nil _))) (St.start (fun _ _ => trivial) (facts_cons (fact_any hF1) facts_nil)) ?_
 refine WC.sr ?_
 refine Kh rfl (og_box rfl rfl (by (exact cells_agg _))) ?_
 intro b2
 refine Ka rfl (WL.nt (WC.sr ?_))
 refine Kq rfl (ldfa (m := 0) rfl rfl .tc Tryz.underlying24 rfl (by kernel_rfl : _ = some 2) rfl rfl rfl (by decide)) ?_
 refine Kq rfl (rd_fa (q := 0) rfl rfl Tryz.underlying110 rfl (by kernel_rfl) rfl) ?_
 refine Kq rfl (ld rfl rfl .tc Tryz.underlying22 rfl (by rfl)) ?_
 refine Kh rfl (og_call rfl rfl (by kernel_rfl) (keep_val fun w hS => pwhas_c (g := g) (x := t.1) (by assumption))) ?_
 intro _
 refine WL.set 7 rfl (v' := .bool (decide (elG g t.1))) (congrArg Value.bool (by simp [hg])) ?_
 refine Kq rfl (rd_not rfl rfl) (Ka rfl (WL.nt (WC.ret ?_)))
 exact WX.retN rfl (.tmp rfl .nil) fun w' hS => ⟨by (simp [tup]; done), hS.below⟩
theorem elems_c {s : SA} {w : World} {ok : Nat → Prop} (hF1 : (Fact.sl s.ga (gps s.gs)).holds ok w) (hF2 : (Fact.sl s.ea (qas s.es)).holds ok w) (hM : ∀ f ∈ (s.es.map qaF), f.holds ok w) (hs : saL s) (hfo : formS s.core) :
  Calls Tryz.prog 141 #[saV s] w fun e w' => e = .returned (.int .i64 (if elS s.core then 0 else 13)) ∧ Below w.heap.size w w' := by
 obtain ⟨hlg, hlv, hle, hlt, hlm⟩ := hs
 refine enter (S := St (fun _ => True) w [] (Fact.sl s.ga (gps s.gs) :: Fact.sl s.ea (qas s.es) :: (s.es.map qaF))) (L := [(0, saV s)]) Tryz.func141 rfl Tryz.ntmps141 rfl (args_cons rfl (args_nil _)) (St.start (fun _ _ => trivial) (facts_cons (fact_any hF1) (facts_cons (fact_any hF2) (facts_more hM)))) ?_
 refine WC.sr ?_
 refine Kh rfl (og_box rfl rfl (by (exact cells_agg _))) ?_
 intro b1
 refine Ka rfl (WL.nt (WC.seq (WC.sr ?_)))
 refine Kq rfl (rd_fa (q := 0) rfl rfl Tryz.underlying35 rfl (by kernel_rfl) rfl) ?_
 refine Kq rfl (ld rfl rfl .tc Tryz.underlying31 rfl (by rfl)) ?_
 refine Kq rfl (rd_len rfl rfl Tryz.underlying31) (Km rfl (WL.nt (WC.block ?_)))
 refine WC.loopP (σ := Nat) [(1, _), (9, _), (10, _)] (fun gq => [(11, .int .i64 (gq : Int))]) (fun gq => gq ≤ s.gs.length ∧ ∀ g ∈ s.gs.take gq, chkG g = 0) (fun gq => s.gs.length - gq) (0) (sub_cons rfl (sub_cons rfl (sub_cons rfl (sub_nil _)))) (sub_cons rfl (sub_nil _)) (by (try dsimp only); exact ⟨Nat.zero_le _, by simp⟩) ?_
 rintro i hinv1; (try dsimp only at hinv1 ⊢)
 obtain ⟨hi, hok⟩ := hinv1
 refine WC.sr (Kq rfl (rd_lss rfl rfl rfl) (WL.nt (WC.seq ?_)))
 refine WC.cond rfl (fun hc12 => ?_) (fun hc12 => ?_)
 ·(try simp only [sB] at hc12)
  have hil : i < s.gs.length := by omega
  refine WC.skip (WX.then_normal (WC.seq (WC.block (WC.sr ?_))))
  (refine Kq rfl (iaf rfl rfl rfl Tryz.underlying31 (by kernel_rfl : _ = some 2) ?_ ?_ (by (try simp only [sN, Int.reduceToNat, Nat.reduceAdd, Nat.reduceMul, Nat.reduceSub]); rfl)) ?_; (focus (omega)); (focus ((rw [flatMap_len _ _ 2 (fun _ => rfl)]; omega))))
  (refine Kq rfl (ldma _ rfl rfl Tryz.underlying24 rfl (by kernel_rfl : _ = some 2) (fun _ => rfl) (by decide) rfl ?_) ?_; (focus (assumption)))
  refine Kh rfl (og_alloc rfl (v := (.agg #[.string (S []), .string (S [])])) (cs := [.string (S []), .string (S [])]) (by kernel_rfl) rfl) ?_
  intro b4
  refine WL.g0 rfl rfl (sta rfl rfl rfl .tc ?_ ?_ ?_) ?_
  ·kernel_rfl
  ·simp [Value.oneCell']
  ·rfl
  intro _
  refine WL.nt (WC.sr ?_)
  refine Kq rfl (lda rfl rfl .tc Tryz.underlying24 rfl ?_) ?_
  ·kernel_rfl
  refine Kh rfl (og_call rfl rfl (by kernel_rfl) (keep_val fun w hS => pcheck_c (g := s.gs.getD i default))) ?_
  intro _
  refine Kq rfl (rd_neq rfl rfl rfl) (WL.nt ?_)
  refine WC.cond rfl (fun hc17 => ?_) (fun hc17 => ?_)
  ·(try simp only [sB] at hc17)
   refine WC.sr (Ka rfl (WL.nt (WC.ret (WX.block_ret (WX.then_ret (WX.then_ret (WX.block_ret (WX.then_ret ?_))))))))
   exact WX.retN rfl (.tmp rfl .nil) fun w' hS => ⟨by rw [if_neg (fun h => absurd (h.1 _ (getD_mem _ _ hil)) (by simpa using hc17))]; rfl, hS.below⟩
  ·(try simp only [sB] at hc17)
   refine WC.skip (WX.block_normal (WX.then_normal (WC.region ?_)))
   (refine Kq rfl (rd_add64nl rfl rfl rfl ?_) ?_; (focus (omega)))
   refine Km rfl (WL.nil ?_)
   refine WX.loopP (i + 1) (by (try dsimp only); omega) (sub_cons rfl (sub_cons rfl (sub_cons rfl (sub_nil _)))) (by refine (sub_cons ?_ (sub_nil _)) <;> (rfl)) ?_ (by (exact st_sub))
   (try dsimp only)
   exact ⟨hil, all_take hil hok (by simpa using hc17)⟩
 ·(try simp only [sB] at hc12)
  refine WC.exit (WX.then_exit (WX.then_exit (WX.block_exit ?_)))
  obtain rfl : i = s.gs.length := by omega
  rw [List.take_length] at hok
  refine WX.then_normal (WC.seq (WC.sr ?_))
  refine Kq rfl (rd_fa (q := 2) rfl rfl Tryz.underlying35 rfl (by kernel_rfl) rfl) ?_
  refine Kq rfl (ld rfl rfl .tc Tryz.underlying33 rfl (by rfl)) ?_
  refine Kq rfl (rd_len rfl rfl Tryz.underlying33) (Km rfl (WL.nt (WC.block ?_)))
  refine WC.loopP (σ := Nat) [(1, _), (20, _), (21, _)] (fun gq => [(22, .int .i64 (gq : Int))]) (fun gq => gq ≤ s.es.length ∧ ∀ q ∈ s.es.take gq, elQ s.gs q.1) (fun gq => s.es.length - gq) (0) (sub_cons rfl (sub_cons rfl (sub_cons rfl (sub_nil _)))) (sub_cons rfl (sub_nil _)) (by (try dsimp only); exact ⟨Nat.zero_le _, by simp⟩) ?_
  rintro k hinv2; (try dsimp only at hinv2 ⊢)
  obtain ⟨hk, hoq⟩ := hinv2
  refine WC.sr (Kq rfl (rd_lss rfl rfl rfl) (WL.nt (WC.seq ?_)))
  refine WC.cond rfl (fun hc23 => ?_) (fun hc23 => ?_)
  ·(try simp only [sB] at hc23)
   have hkl : k < s.es.length := by omega
   have hkm := getD_mem s.es k hkl
   have hlt1 := hlt _ hkm
   have hfq := (hfo.2.2 _ (List.mem_map_of_mem hkm)).1.1
   have hgl : (s.es.getD k default).1.1.toNat < s.gs.length := by have := hfq.1; have := hfq.2; simp only [SA.core] at this; omega
   have hg0 := hok _ (getD_mem _ _ hgl)
   have hg8 := hlm _ (getD_mem _ _ hgl)
   refine WC.skip (WX.then_normal (WC.seq (WC.block (WC.sr ?_))))
   (refine Kq rfl (iaf rfl rfl rfl Tryz.underlying33 (by kernel_rfl : _ = some 3) ?_ ?_ (by (try simp only [sN, Int.reduceToNat, Nat.reduceAdd, Nat.reduceMul, Nat.reduceSub]); rfl)) ?_; (focus (omega)); (focus ((rw [flatMap_len _ _ 3 (fun _ => rfl)]; omega))))
   (refine Kq rfl (ldma _ rfl rfl Tryz.underlying102 rfl (by kernel_rfl : _ = some 3) (fun _ => rfl) (by decide) rfl ?_) ?_; (focus (assumption)))
   refine Kh rfl (og_alloc rfl (v := (.agg #[.int .i64 0, .string (S []), .slice none 0 0])) (cs := [.int .i64 0, .string (S []), .slice none 0 0]) (by kernel_rfl) rfl) ?_
   intro b6
   refine WL.g0 rfl rfl (sta rfl rfl rfl .tc ?_ ?_ ?_) ?_
   ·kernel_rfl
   ·simp [Value.oneCell']
   ·rfl
   intro _
   refine WL.nt (WC.sr ?_)
   refine Kq rfl (rd_fa (q := 0) rfl rfl Tryz.underlying35 rfl (by kernel_rfl) rfl) ?_
   refine Kq rfl (ld rfl rfl .tc Tryz.underlying31 rfl (by rfl)) ?_
   refine Kq rfl (rd_fa (q := 0) rfl rfl Tryz.underlying102 rfl (by kernel_rfl) rfl) ?_
   refine Kq rfl (ld rfl rfl .tc Tryz.underlying3 rfl (by rfl)) ?_
   (refine Kq rfl (iaf rfl rfl rfl Tryz.underlying31 (by kernel_rfl : _ = some 2) ?_ ?_ (by (try simp only [sN, Int.reduceToNat, Nat.reduceAdd, Nat.reduceMul, Nat.reduceSub]); rfl)) ?_; (focus (assumption)); (focus ((rw [flatMap_len _ _ 2 (fun _ => rfl)]; omega))))
   (refine Kq rfl (ldma _ rfl rfl Tryz.underlying24 rfl (by kernel_rfl : _ = some 2) (fun _ => rfl) (by decide) rfl ?_) ?_; (focus (assumption)))
   refine Kh rfl (og_alloc rfl (v := (.agg #[.string (S []), .string (S [])])) (cs := [.string (S []), .string (S [])]) (by kernel_rfl) rfl) ?_
   intro b7
   refine WL.g0 rfl rfl (sta rfl rfl rfl .tc ?_ ?_ ?_) ?_
   ·kernel_rfl
   ·simp [Value.oneCell']
   ·rfl
   intro _
   refine WL.nt ?_
   refine WC.joinP (σ := Unit) [(1, _), (20, _), (21, _), (22, _)] (fun gq => [(42, .bool (decide (¬ (elG (s.gs.getD (s.es.getD k default).1.1.toNat default) (s.es.getD k default).1.2.1 ∧ ∀ t ∈ (s.es.getD k default).1.2.2, elG (s.gs.getD (s.es.getD k default).1.1.toNat default) t.1))))]) (fun gq => True) (sub_cons rfl (sub_cons rfl (sub_cons rfl (sub_cons rfl (sub_nil _))))) ?_ ?_
   ·skip
    refine WC.region ?_
    refine Kq rfl (lda rfl rfl .tc Tryz.underlying24 rfl ?_) ?_
    ·kernel_rfl
    refine Kq rfl (rd_fa (q := 1) rfl rfl Tryz.underlying102 rfl (by kernel_rfl) rfl) ?_
    refine Kq rfl (ld rfl rfl .tc Tryz.underlying22 rfl (by rfl)) ?_
    refine Kh rfl (og_call rfl rfl (by kernel_rfl) (keep_val fun w hS => pwhas_c (g := s.gs.getD (s.es.getD k default).1.1.toNat default) (x := (s.es.getD k default).1.2.1) (by exact hg8))) ?_
    intro _
    refine WL.set 35 rfl (v' := .bool (decide (elG (s.gs.getD (s.es.getD k default).1.1.toNat default) (s.es.getD k default).1.2.1))) (congrArg Value.bool (by exact decide_eq_decide.2 ⟨fun h => h.2, fun h => ⟨hg0, h⟩⟩)) ?_
    refine Kq rfl (rd_not rfl rfl) (Km rfl ?_)
    refine WL.bool 37 rfl (fun hg37 => ?_) (fun hg37 => ?_)
    ·(try simp only [sB] at hg37)
     refine Kt rfl (Kt rfl (Kt rfl (Kt rfl (Kq rfl (rd_pickt rfl rfl rfl) (WL.nil ?_)))))
     refine WX.joinP (()) (sub_cons rfl (sub_cons rfl (sub_cons rfl (sub_cons rfl (sub_nil _))))) (by refine (sub_cons ?_ (sub_nil _)) <;> ((refine congrArg (fun b => some (Value.bool b)) ?_; simp [*, -List.getD_eq_getElem?_getD]; done))) ?_ (by (exact fun _ h => h))
     (try dsimp only)
     done
    ·(try simp only [sB] at hg37)
     refine Kq rfl (rd_fa (q := 2) rfl rfl Tryz.underlying102 rfl (by kernel_rfl) rfl) ?_
     refine Kq rfl (ld rfl rfl .tc Tryz.underlying100 rfl (by rfl)) ?_
     refine Kq rfl (rd_mkf rfl rfl rfl) ?_
     refine Kh rfl (og_call rfl rfl (by kernel_rfl) (keep_val fun w hS => cfT_c (l := (s.es.getD k default).1.2.2) (fk := 163) (p := fun t => decide (¬ elG (s.gs.getD (s.es.getD k default).1.1.toNat default) t.1)) (hS.more (more := s.es.map qaF) _ (List.mem_map_of_mem hkm)) (by exact hlt1) (by kernel_rfl) (by exact fun x hx w' hb => by rw [fnc1]; exact elt_c (fact_keep hS.os hb) hg0 hg8))) ?_
     intro _
     refine WL.set 41 rfl (v' := .bool (decide (¬ ∀ t ∈ (s.es.getD k default).1.2.2, elG (s.gs.getD (s.es.getD k default).1.1.toNat default) t.1))) (congrArg Value.bool (by exact any_dec _ _)) ?_
     refine Kq rfl (rd_pickf rfl rfl rfl) (WL.nil ?_)
     refine WX.joinP (()) (sub_cons rfl (sub_cons rfl (sub_cons rfl (sub_cons rfl (sub_nil _))))) (by refine (sub_cons ?_ (sub_nil _)) <;> ((refine congrArg (fun b => some (Value.bool b)) ?_; simp [*, -List.getD_eq_getElem?_getD]; done))) ?_ (by (exact fun _ h => h))
     (try dsimp only)
     done
   ·rintro _ hmeet; (try dsimp only at hmeet ⊢)
    refine WC.cond rfl (fun hc42 => ?_) (fun hc42 => ?_)
    ·(try simp only [sB] at hc42)
     refine WC.sr (Ka rfl (WL.nt (WC.ret (WX.block_ret (WX.then_ret (WX.then_ret (WX.block_ret (WX.then_ret ?_))))))))
     exact WX.retN rfl (.tmp rfl .nil) fun w' hS => ⟨by rw [if_neg (fun h => absurd (h.2 _ (List.mem_map_of_mem hkm)) hc42)]; rfl, hS.below⟩
    ·(try simp only [sB] at hc42)
     refine WC.skip (WX.block_normal (WX.then_normal (WC.region ?_)))
     (refine Kq rfl (rd_add64nl rfl rfl rfl ?_) ?_; (focus (omega)))
     refine Km rfl (WL.nil ?_)
     refine WX.loopP (k + 1) (by (try dsimp only); omega) (sub_cons rfl (sub_cons rfl (sub_cons rfl (sub_nil _)))) (by refine (sub_cons ?_ (sub_nil _)) <;> (rfl)) ?_ (by (exact st_sub))
     (try dsimp only)
     exact ⟨hkl, all_take hkl hoq (Decidable.not_not.1 hc42)⟩
  ·(try simp only [sB] at hc23)
   refine WC.exit (WX.then_exit (WX.then_exit (WX.block_exit ?_)))
   obtain rfl : k = s.es.length := by omega
   rw [List.take_length] at hoq
   refine WX.then_normal (WC.sr (Ka rfl (WL.nt (WC.ret ?_))))
   exact WX.retN rfl (.tmp rfl .nil) fun w' hS => ⟨by rw [if_pos ⟨hok, forall_qa.2 hoq⟩]; rfl, hS.below⟩
theorem kdv_c {v : Bs} {w : World} :
  Calls Tryz.prog 165 #[.agg #[.string (S v)]] w fun e w' => e = .returned (.bool (decide (v = []))) ∧ Below w.heap.size w w' := by
 refine enter (S := St (fun _ => True) w [] ([])) (L := [(0, .agg #[.string (S v)])]) Tryz.func165 rfl Tryz.ntmps165 rfl (args_cons rfl (args_nil _)) (St.start (fun _ _ => trivial) facts_nil) ?_
 refine WC.sr ?_
 refine Kh rfl (og_box rfl rfl (by (exact cells_agg _))) ?_
 intro b1
 refine Ka rfl (WL.nt (WC.sr ?_))
 refine Kq rfl (rd_fa (q := 0) rfl rfl Tryz.underlying91 rfl (by kernel_rfl) rfl) ?_
 refine Kq rfl (ld rfl rfl .tc Tryz.underlying22 rfl (by rfl)) ?_
 refine Kq rfl (rd_seq rfl rfl rfl) (Ka rfl (WL.nt (WC.ret ?_)))
 exact WX.retN rfl (.tmp rfl .nil) fun w' hS => ⟨by rfl, hS.below⟩
theorem kdg_c {g : Gp} {n : Bs} {p : Nat} {w : World} {ok : Nat → Prop} (hF1 : (Fact.sl (some ⟨p, 0, none⟩) [.string (S n)]).holds ok w) :
  Calls Tryz.prog 167 #[.agg #[.string (S g.1), .string (S g.2)], .pointer (some ⟨p, 0, none⟩)] w fun e w' => e = .returned (.bool (decide (g.2 ≠ [] ∧ g.2 ≠ n))) ∧ Below w.heap.size w w' := by
 refine enter (S := St (fun _ => True) w [] ([Fact.sl (some ⟨p, 0, none⟩) [.string (S n)]])) (L := [(0, .agg #[.string (S g.1), .string (S g.2)]), (1, .pointer (some ⟨p, 0, none⟩))]) Tryz.func167 rfl Tryz.ntmps167 rfl (args_cons rfl (args_cons rfl (args_nil _))) (St.start (fun _ _ => trivial) (facts_cons (fact_any hF1) facts_nil)) ?_
 refine WC.sr ?_
 refine Kh rfl (og_box rfl rfl (by (exact cells_agg _))) ?_
 intro b2
 refine Ka rfl (WL.nt (WC.sr ?_))
 refine Kq rfl (rd_fa (q := 1) rfl rfl Tryz.underlying24 rfl (by kernel_rfl) rfl) ?_
 refine Kq rfl (ld rfl rfl .tc Tryz.underlying22 rfl (by rfl)) ?_
 refine Kq rfl (rd_sne rfl rfl rfl) (Km rfl ?_)
 refine WL.bool 7 rfl (fun hg7 => ?_) (fun hg7 => ?_)
 ·(try simp only [sB] at hg7)
  refine Kq rfl (rd_fa (q := 1) rfl rfl Tryz.underlying24 rfl (by kernel_rfl) rfl) ?_
  refine Kq rfl (ld rfl rfl .tc Tryz.underlying22 rfl (by rfl)) ?_
  refine Kq rfl (ldf (m := 0) rfl rfl .tc Tryz.underlying22 rfl rfl rfl) ?_
  refine Kq rfl (rd_sne rfl rfl rfl) (Kq rfl (rd_pickt rfl rfl rfl) (Ka rfl (WL.nt (WC.ret ?_))))
  exact WX.retN rfl (.tmp rfl .nil) fun w' hS => ⟨by (simp [*, tup]; done), hS.below⟩
 ·(try simp only [sB] at hg7)
  refine Kt rfl (Kt rfl (Kt rfl (Kt rfl (Kq rfl (rd_pickf rfl rfl rfl) (Ka rfl (WL.nt (WC.ret ?_)))))))
  exact WX.retN rfl (.tmp rfl .nil) fun w' hS => ⟨by (simp [*, tup]; done), hS.below⟩
theorem kdt_c {t : Tm} {s : SA} {p : Nat} {w : World} {ok : Nat → Prop} (hF1 : (Fact.sl (some ⟨p, 0, none⟩) [.slice s.ga s.gs.length s.gc, .slice s.va s.vs.length s.vc, .slice s.ea s.es.length s.ec]).holds ok w) (hF2 : (Fact.sl s.va (vrs s.vs)).holds ok w) (ht0 : 0 ≤ t.2.1) (ht1 : t.2.1 < s.vs.length) (hlv : s.vs.length ≤ 100000) :
  Calls Tryz.prog 168 #[.agg #[.string (S t.1), .int .i64 t.2.1, .bool t.2.2.1, .string (S t.2.2.2)], .pointer (some ⟨p, 0, none⟩)] w fun e w' => e = .returned (.bool (decide (s.vs.getD t.2.1.toNat default = []))) ∧ Below w.heap.size w w' := by
 refine enter (S := St (fun _ => True) w [] ([Fact.sl (some ⟨p, 0, none⟩) [.slice s.ga s.gs.length s.gc, .slice s.va s.vs.length s.vc, .slice s.ea s.es.length s.ec], Fact.sl s.va (vrs s.vs)])) (L := [(0, .agg #[.string (S t.1), .int .i64 t.2.1, .bool t.2.2.1, .string (S t.2.2.2)]), (1, .pointer (some ⟨p, 0, none⟩))]) Tryz.func168 rfl Tryz.ntmps168 rfl (args_cons rfl (args_cons rfl (args_nil _))) (St.start (fun _ _ => trivial) (facts_cons (fact_any hF1) (facts_cons (fact_any hF2) facts_nil))) ?_
 refine WC.sr ?_
 refine Kh rfl (og_box rfl rfl (by (exact cells_agg _))) ?_
 intro b2
 refine Ka rfl (WL.nt (WC.sr ?_))
 (refine Kq rfl (rd_fa rfl rfl Tryz.underlying35 rfl (by kernel_rfl) (by (try simp only [sN, Int.reduceToNat, Nat.reduceAdd, Nat.reduceMul, Nat.reduceSub]); rfl)) ?_)
 refine Kq rfl (ldf (m := 1) rfl rfl .tc Tryz.underlying32 rfl rfl rfl) ?_
 refine Kq rfl (rd_fa (q := 1) rfl rfl Tryz.underlying110 rfl (by kernel_rfl) rfl) ?_
 refine Kq rfl (ld rfl rfl .tc Tryz.underlying3 rfl (by rfl)) ?_
 (refine Kq rfl (iaf rfl rfl rfl Tryz.underlying32 (by kernel_rfl : _ = some 1) ?_ ?_ (by (try simp only [sN, Int.reduceToNat, Nat.reduceAdd, Nat.reduceMul, Nat.reduceSub]); rfl)) ?_; (focus (omega)); (focus ((rw [flatMap_len _ _ 1 (fun _ => rfl)]; omega))))
 (refine Kq rfl (faf rfl rfl Tryz.underlying91 rfl (by kernel_rfl) (by (try simp only [sN, Int.reduceToNat, Nat.reduceAdd, Nat.reduceMul, Nat.reduceSub]); rfl)) ?_)
 refine Kq rfl (ldmf (l := s.vs) (f := vrC) (sz := 1) t.2.1.toNat 0 rfl rfl Tryz.underlying22 rfl (fun _ => rfl) (Nat.mul_one _).symm (by omega) (by decide) rfl) ?_
 refine Kq rfl (rd_seq rfl rfl rfl) (Ka rfl (WL.nt (WC.ret ?_)))
 exact WX.retN rfl (.tmp rfl .nil) fun w' hS => ⟨by rfl, hS.below⟩
theorem kinds_c {s : SA} {w : World} {ok : Nat → Prop} (hF1 : (Fact.sl s.ga (gps s.gs)).holds ok w) (hF2 : (Fact.sl s.va (vrs s.vs)).holds ok w) (hF3 : (Fact.sl s.ea (qas s.es)).holds ok w) (hM : ∀ f ∈ (s.es.map qaF), f.holds ok w) (hs : saL s) (hfo : formS s.core) :
  Calls Tryz.prog 142 #[saV s] w fun e w' => e = .returned (.int .i64 (if kdS s.core then 0 else 10)) ∧ Below w.heap.size w w' := by
 have hs' := hs
 obtain ⟨hlg, hlv, hle, hlt, hlm⟩ := hs
 refine enter (S := St (fun _ => True) w [] (Fact.sl s.ga (gps s.gs) :: Fact.sl s.va (vrs s.vs) :: Fact.sl s.ea (qas s.es) :: (s.es.map qaF))) (L := [(0, saV s)]) Tryz.func142 rfl Tryz.ntmps142 rfl (args_cons rfl (args_nil _)) (St.start (fun _ _ => trivial) (facts_cons (fact_any hF1) (facts_cons (fact_any hF2) (facts_cons (fact_any hF3) (facts_more hM))))) ?_
 refine WC.sr ?_
 refine Kh rfl (og_box rfl rfl (by (exact cells_agg _))) ?_
 intro b1
 refine Ka rfl (WL.nt (WC.seq (WC.sr ?_)))
 refine Kq rfl (rd_fa (q := 1) rfl rfl Tryz.underlying35 rfl (by kernel_rfl) rfl) ?_
 refine Kq rfl (ld rfl rfl .tc Tryz.underlying32 rfl (by rfl)) ?_
 refine Kh rfl (og_call rfl rfl (by kernel_rfl) (keep_val fun w hS => cfV_c (l := s.vs) (fk := 165) (cs := #[]) (p := fun v => decide (v = [])) (by (exact hS.sl)) (by exact hlv) (by kernel_rfl) (by exact fun x hx w' hb => by rw [fnc0]; exact kdv_c))) ?_
 intro _
 refine WL.set 8 rfl (v' := .bool (decide (¬ ∀ v ∈ s.vs, v ≠ []))) (congrArg Value.bool (by exact any_dec' _ _)) ?_
 refine Kq rfl (rd_not rfl rfl) (WL.nt ?_)
 refine WC.cond rfl (fun hc9 => ?_) (fun hc9 => ?_)
 ·(try simp only [sB] at hc9)
  have hr : kdS s.core := Or.inl (by (exact Decidable.not_not.1 hc9))
  refine WC.sr (Ka rfl (WL.nt (WC.ret (WX.then_ret ?_))))
  exact WX.retN rfl (.tmp rfl .nil) fun w' hS => ⟨by rw [if_pos hr]; rfl, hS.below⟩
 ·(try simp only [sB] at hc9)
  have hnv : ¬ ∀ v ∈ s.vs, v ≠ [] := hc9
  refine WC.skip (WX.then_normal (WC.sr ?_))
  refine Kq rfl (lda rfl rfl .tc Tryz.underlying35 rfl ?_) ?_
  ·kernel_rfl
  refine Kh rfl (og_call rfl rfl (by kernel_rfl) (keep_val fun w hS => lorder_c (s := s) (by (exact hS.sl)) (by exact hs'))) ?_
  intro _
  refine Kh rfl (og_alloc rfl (v := (.string (S []))) (cs := [.string (S [])]) (by kernel_rfl) rfl) ?_
  intro b3
  refine WL.g0 rfl rfl (st rfl rfl rfl .tc (by kernel_rfl) rfl ?_ (by (simp only [List.set_cons_zero, List.set_cons_succ]; rfl))) ?_
  ·decide
  intro _
  refine WL.nt (WC.seq ?_)
  refine WC.joinP (σ := Unit) [(1, _)] (fun gq => [(19, .bool (decide (¬ (ordS s.gs ≠ [] ∧ ∀ g ∈ s.gs, ¬ (g.2 ≠ [] ∧ g.2 ≠ ordS s.gs)))))]) (fun gq => True) (sub_cons rfl (sub_nil _)) ?_ ?_
  ·skip
   refine WC.region ?_
   refine Kq rfl (ld rfl rfl .tc Tryz.underlying22 rfl (by rfl)) ?_
   refine Kq rfl (rd_seq rfl rfl rfl) (Km rfl ?_)
   refine WL.bool 14 rfl (fun hg14 => ?_) (fun hg14 => ?_)
   ·(try simp only [sB] at hg14)
    refine Kt rfl (Kt rfl (Kt rfl (Kt rfl (Kq rfl (rd_pickt rfl rfl rfl) (WL.nil ?_)))))
    refine WX.joinP (()) (sub_cons rfl (sub_nil _)) (by refine (sub_cons ?_ (sub_nil _)) <;> ((refine slot_b rfl ?_; (try dsimp only); (simp [*]; done)))) ?_ (by (exact fun _ h => h))
    (try dsimp only)
    done
   ·(try simp only [sB] at hg14)
    refine Kq rfl (rd_fa (q := 0) rfl rfl Tryz.underlying35 rfl (by kernel_rfl) rfl) ?_
    refine Kq rfl (ld rfl rfl .tc Tryz.underlying31 rfl (by rfl)) ?_
    refine Kq rfl (rd_mkf rfl rfl rfl) ?_
    refine Kh rfl (og_call rfl rfl (by kernel_rfl) (keep_val fun w hS => cfG_c (l := s.gs) (fk := 167) (p := fun g => decide (g.2 ≠ [] ∧ g.2 ≠ ordS s.gs)) (by (exact hS.sl)) (by exact hlg) (by kernel_rfl) (by exact fun x hx w' hb => by rw [fnc1]; exact kdg_c (fact_keep hS.os hb)))) ?_
    intro _
    refine WL.set 18 rfl (v' := .bool (decide (¬ ∀ g ∈ s.gs, ¬ (g.2 ≠ [] ∧ g.2 ≠ ordS s.gs)))) (congrArg Value.bool (by exact any_dec' _ _)) ?_
    refine Kq rfl (rd_pickf rfl rfl rfl) (WL.nil ?_)
    refine WX.joinP (()) (sub_cons rfl (sub_nil _)) (by refine (sub_cons ?_ (sub_nil _)) <;> ((refine slot_b rfl ?_; (try dsimp only); (simp [*]; done)))) ?_ (by (exact fun _ h => h))
    (try dsimp only)
    done
  ·rintro _ hmeet; (try dsimp only at hmeet ⊢)
   refine WC.cond rfl (fun hc19 => ?_) (fun hc19 => ?_)
   ·(try simp only [sB] at hc19)
    refine WC.sr (Ka rfl (WL.nt (WC.ret (WX.then_ret ?_))))
    exact WX.retN rfl (.tmp rfl .nil) fun w' hS => ⟨by rw [if_neg (fun h => h.elim hnv fun h => hc19 h.1)]; rfl, hS.below⟩
   ·(try simp only [sB] at hc19)
    refine WC.skip (WX.then_normal (WC.seq (WC.sr ?_)))
    refine Kq rfl (rd_fa (q := 2) rfl rfl Tryz.underlying35 rfl (by kernel_rfl) rfl) ?_
    refine Kq rfl (ld rfl rfl .tc Tryz.underlying33 rfl (by rfl)) ?_
    refine Kq rfl (rd_len rfl rfl Tryz.underlying33) (Km rfl (WL.nt (WC.block ?_)))
    refine WC.loopP (σ := Nat) [(1, _), (21, _), (22, _)] (fun gq => [(23, .int .i64 (gq : Int))]) (fun gq => gq ≤ s.es.length ∧ ∀ q ∈ s.es.take gq, kdQ s.gs s.vs q.1) (fun gq => s.es.length - gq) (0) (sub_cons rfl (sub_cons rfl (sub_cons rfl (sub_nil _)))) (sub_cons rfl (sub_nil _)) (by (try dsimp only); exact ⟨Nat.zero_le _, by simp⟩) ?_
    rintro k hinv1; (try dsimp only at hinv1 ⊢)
    obtain ⟨hk, hoq⟩ := hinv1
    refine WC.sr (Kq rfl (rd_lss rfl rfl rfl) (WL.nt (WC.seq ?_)))
    refine WC.cond rfl (fun hc24 => ?_) (fun hc24 => ?_)
    ·(try simp only [sB] at hc24)
     have hkl : k < s.es.length := by omega
     have hkm := getD_mem s.es k hkl
     have hlt1 := hlt _ hkm
     have hfq := hfo.2.2 _ (List.mem_map_of_mem hkm)
     have hgl : (s.es.getD k default).1.1.toNat < s.gs.length := by have := hfq.1.1.1; have := hfq.1.1.2; simp only [SA.core] at this; omega
     have hq0 := hfq.1.1.1
     refine WC.skip (WX.then_normal (WC.seq (WC.block (WC.sr ?_))))
     (refine Kq rfl (iaf rfl rfl rfl Tryz.underlying33 (by kernel_rfl : _ = some 3) ?_ ?_ (by (try simp only [sN, Int.reduceToNat, Nat.reduceAdd, Nat.reduceMul, Nat.reduceSub]); rfl)) ?_; (focus (omega)); (focus ((rw [flatMap_len _ _ 3 (fun _ => rfl)]; omega))))
     (refine Kq rfl (ldma _ rfl rfl Tryz.underlying102 rfl (by kernel_rfl : _ = some 3) (fun _ => rfl) (by decide) rfl ?_) ?_; (focus (assumption)))
     refine Kh rfl (og_alloc rfl (v := (.agg #[.int .i64 0, .string (S []), .slice none 0 0])) (cs := [.int .i64 0, .string (S []), .slice none 0 0]) (by kernel_rfl) rfl) ?_
     intro b5
     refine WL.g0 rfl rfl (sta rfl rfl rfl .tc ?_ ?_ ?_) ?_
     ·kernel_rfl
     ·simp [Value.oneCell']
     ·rfl
     intro _
     refine WL.nt (WC.seq (WC.sr ?_))
     refine Kq rfl (rd_fa (q := 0) rfl rfl Tryz.underlying35 rfl (by kernel_rfl) rfl) ?_
     refine Kq rfl (ld rfl rfl .tc Tryz.underlying31 rfl (by rfl)) ?_
     refine Kq rfl (rd_fa (q := 0) rfl rfl Tryz.underlying102 rfl (by kernel_rfl) rfl) ?_
     refine Kq rfl (ld rfl rfl .tc Tryz.underlying3 rfl (by rfl)) ?_
     (refine Kq rfl (iaf rfl rfl rfl Tryz.underlying31 (by kernel_rfl : _ = some 2) ?_ ?_ (by (try simp only [sN, Int.reduceToNat, Nat.reduceAdd, Nat.reduceMul, Nat.reduceSub]); rfl)) ?_; (focus (omega)); (focus ((rw [flatMap_len _ _ 2 (fun _ => rfl)]; omega))))
     (refine Kq rfl (faf rfl rfl Tryz.underlying24 rfl (by kernel_rfl) (by (try simp only [sN, Int.reduceToNat, Nat.reduceAdd, Nat.reduceMul, Nat.reduceSub]); rfl)) ?_)
     (refine Kq rfl (ldmf (sz := 2) _ 1 rfl rfl Tryz.underlying22 rfl (fun _ => rfl) rfl ?_ (by decide) rfl) ?_; (focus (assumption)))
     refine Kq rfl (rd_sne rfl rfl rfl) (WL.nt ?_)
     refine WC.cond rfl (fun hc34 => ?_) (fun hc34 => ?_)
     ·(try simp only [sB] at hc34)
      refine WC.exit (WX.then_exit (WX.block_exit (WX.then_normal (WC.region ?_))))
      (refine Kq rfl (rd_add64nl rfl rfl rfl ?_) ?_; (focus (omega)))
      refine Km rfl (WL.nil ?_)
      refine WX.loopP (k + 1) (by (try dsimp only); omega) (sub_cons rfl (sub_cons rfl (sub_cons rfl (sub_nil _)))) (by refine (sub_cons ?_ (sub_nil _)) <;> (rfl)) ?_ (by (exact st_sub))
      (try dsimp only)
      exact ⟨hkl, all_take hkl hoq (by (exact Or.inl (by simpa using hc34)))⟩
     ·(try simp only [sB] at hc34)
      refine WC.skip (WX.then_normal (WC.sr ?_))
      refine Kq rfl (rd_fa (q := 2) rfl rfl Tryz.underlying102 rfl (by kernel_rfl) rfl) ?_
      refine Kq rfl (ld rfl rfl .tc Tryz.underlying100 rfl (by rfl)) ?_
      refine Kq rfl (rd_mkf rfl rfl rfl) ?_
      refine Kh rfl (og_call rfl rfl (by kernel_rfl) (keep_val fun w hS => cfT_c (l := (s.es.getD k default).1.2.2) (fk := 168) (p := fun t => decide (s.vs.getD t.2.1.toNat default = [])) (hS.more (more := s.es.map qaF) _ (List.mem_map_of_mem hkm)) (by exact hlt1) (by kernel_rfl) (by exact fun x hx w' hb => by rw [fnc1]; exact kdt_c (fact_keep hS.os hb) (fact_keep hS.sl hb) (hfq.2 x hx).1.1 (hfq.2 x hx).1.2 hlv))) ?_
      intro _
      refine WL.set 38 rfl (v' := .bool (decide (¬ ∀ t ∈ (s.es.getD k default).1.2.2, s.vs.getD t.2.1.toNat default ≠ []))) (congrArg Value.bool (by exact any_dec' _ _)) ?_
      refine WL.nt ?_
      refine WC.cond rfl (fun hc38 => ?_) (fun hc38 => ?_)
      ·(try simp only [sB] at hc38)
       refine WC.sr (Ka rfl (WL.nt (WC.ret (WX.block_ret (WX.then_ret (WX.then_ret (WX.block_ret (WX.then_ret ?_))))))))
       exact WX.retN rfl (.tmp rfl .nil) fun w' hS => ⟨by rw [if_neg (fun h => h.elim hnv fun h => (h.2 _ (List.mem_map_of_mem hkm)).elim (fun h => h (by simpa using hc34)) fun h => hc38 h)]; rfl, hS.below⟩
      ·(try simp only [sB] at hc38)
       refine WC.skip (WX.block_normal (WX.then_normal (WC.region ?_)))
       (refine Kq rfl (rd_add64nl rfl rfl rfl ?_) ?_; (focus (omega)))
       refine Km rfl (WL.nil ?_)
       refine WX.loopP (k + 1) (by (try dsimp only); omega) (sub_cons rfl (sub_cons rfl (sub_cons rfl (sub_nil _)))) (by refine (sub_cons ?_ (sub_nil _)) <;> (rfl)) ?_ (by (exact st_sub))
       (try dsimp only)
       exact ⟨hkl, all_take hkl hoq (by (exact Or.inr (by simpa using hc38)))⟩
    ·(try simp only [sB] at hc24)
     refine WC.exit (WX.then_exit (WX.then_exit (WX.block_exit ?_)))
     obtain rfl : k = s.es.length := by omega
     rw [List.take_length] at hoq
     refine WX.then_normal (WC.sr (Ka rfl (WL.nt (WC.ret ?_))))
     exact WX.retN rfl (.tmp rfl .nil) fun w' hS => ⟨by rw [if_pos (show kdS s.core from Or.inr ⟨Decidable.not_not.1 hc19, forall_qa.2 hoq⟩)]; rfl, hS.below⟩
/-- the four checks -/
def chkF (i : Nat) : Nat := [113, 140, 141, 142].getD i default
def chkE (s : Sm) (i : Nat) : Int := [if formS s then 0 else 3, if sizeS s then 0 else 6, if elS s then 0 else 13, if kdS s then 0 else 10].getD i default
theorem chkF_goes {i : Nat} (h : i < 4) : goes Tryz.prog (chkF i) = true := by
 rcases i with _ | _ | _ | _ | i
 ·kernel_rfl
 ·kernel_rfl
 ·kernel_rfl
 ·kernel_rfl
 ·omega
theorem chkE_form {s : Sm} (h : chkE s 0 = 0) : formS s := by
 have h1 : (if formS s then (0 : Int) else 3) = 0 := h
 split at h1
 ·assumption
 ·simp at h1
theorem chkF_c {s : SA} {w : World} {ok : Nat → Prop} (h1 : (Fact.sl s.ga (gps s.gs)).holds ok w) (h2 : (Fact.sl s.va (vrs s.vs)).holds ok w) (h3 : (Fact.sl s.ea (qas s.es)).holds ok w) (hM : ∀ f ∈ s.es.map qaF, f.holds ok w) (hs : saL s) {i : Nat} (hi : i < 4) (h0 : ∀ j, j < i → chkE s.core j = 0) :
  Calls Tryz.prog (chkF i) #[saV s] w fun e w' => e = .returned (.int .i64 (chkE s.core i)) ∧ Below w.heap.size w w' := by
 rcases i with _ | _ | _ | _ | i
 ·exact form_c h1 h2 h3 hM hs
 ·exact sizes_c h1 h2 h3 hs
 ·exact elems_c h1 h3 hM hs (chkE_form (h0 0 (by decide)))
 ·exact kinds_c h1 h2 h3 hM hs (chkE_form (h0 0 (by decide)))
 ·omega
theorem chkS_at {s : Sm} {i : Nat} (hi : i < 4) (h0 : ∀ j, j < i → chkE s j = 0) (h1 : chkE s i ≠ 0) : chkS s = chkE s i := by
 have a0 := h0 0; have a1 := h0 1; have a2 := h0 2
 simp only [chkE, List.getD_cons_zero, List.getD_cons_succ] at a0 a1 a2
 unfold chkS
 rcases i with _ | _ | _ | _ | i
 ·simp only [chkE, List.getD_cons_zero] at h1 ⊢; by_cases h : formS s <;> simp [h] at h1 ⊢
 ·have f0 : formS s := Decidable.byContradiction fun h => by simp [h] at a0
  simp only [chkE, List.getD_cons_zero, List.getD_cons_succ] at h1 ⊢; by_cases h : sizeS s <;> simp [h, f0] at h1 ⊢
 ·have f0 : formS s := Decidable.byContradiction fun h => by simp [h] at a0
  have f1 : sizeS s := Decidable.byContradiction fun h => by simp [h] at a1
  simp only [chkE, List.getD_cons_zero, List.getD_cons_succ] at h1 ⊢; by_cases h : elS s <;> simp [h, f0, f1] at h1 ⊢
 ·have f0 : formS s := Decidable.byContradiction fun h => by simp [h] at a0
  have f1 : sizeS s := Decidable.byContradiction fun h => by simp [h] at a1
  have f2 : elS s := Decidable.byContradiction fun h => by simp [h] at a2
  simp only [chkE, List.getD_cons_zero, List.getD_cons_succ] at h1 ⊢; by_cases h : kdS s <;> simp [h, f0, f1, f2] at h1 ⊢
 ·omega
theorem chkS_ok {s : Sm} (h0 : ∀ j, j < 4 → chkE s j = 0) : chkS s = 0 := by
 have a0 := h0 0 (by decide); have a1 := h0 1 (by decide); have a2 := h0 2 (by decide); have a3 := h0 3 (by decide)
 simp only [chkE, List.getD_cons_zero, List.getD_cons_succ] at a0 a1 a2 a3
 have f0 : formS s := Decidable.byContradiction fun h => by simp [h] at a0
 have f1 : sizeS s := Decidable.byContradiction fun h => by simp [h] at a1
 have f2 : elS s := Decidable.byContradiction fun h => by simp [h] at a2
 have f3 : kdS s := Decidable.byContradiction fun h => by simp [h] at a3
 simp [chkS, f0, f1, f2, f3]
theorem fncall0 (v : Value) : (#[] : Array Value) ++ [v].toArray ++ #[] = #[v] := by simp
theorem lcheck_c {s : SA} {w : World} {ok : Nat → Prop} (hF1 : (Fact.sl s.ga (gps s.gs)).holds ok w) (hF2 : (Fact.sl s.va (vrs s.vs)).holds ok w) (hF3 : (Fact.sl s.ea (qas s.es)).holds ok w) (hM : ∀ f ∈ (s.es.map qaF), f.holds ok w) (hs : saL s) :
  Calls Tryz.prog 116 #[saV s] w fun e w' => e = .returned (.int .i64 (chkS s.core)) ∧ Below w.heap.size w w' := by
 refine enter (S := St (fun _ => True) w [] (Fact.sl s.ga (gps s.gs) :: Fact.sl s.va (vrs s.vs) :: Fact.sl s.ea (qas s.es) :: (s.es.map qaF))) (L := [(0, saV s)]) Tryz.func116 rfl Tryz.ntmps116 rfl (args_cons rfl (args_nil _)) (St.start (fun _ _ => trivial) (facts_cons (fact_any hF1) (facts_cons (fact_any hF2) (facts_cons (fact_any hF3) (facts_more hM))))) ?_
 refine WC.sr ?_
 refine Kh rfl (og_box rfl rfl (by (exact cells_agg _))) ?_
 intro b1
 refine Ka rfl (WL.nt (WC.seq (WC.sr ?_)))
 refine Kq rfl (rd_bld [[.nilFunc], [.nilFunc], [.nilFunc], [.nilFunc]] rfl rfl (by simp only [bld, fldv, Nat.beq, Value.cells, cond_true, cond_false, List.nil_append, List.cons_append, List.append_nil]; rfl) (fun w => by kernel_rfl)) ?_
 refine Km rfl (WL.nt (WC.block ?_))
 refine WC.loopP (σ := Nat) [(1, _), (6, _)] (fun gq => [(7, .int .i64 (gq : Int))]) (fun gq => gq ≤ 4 ∧ ∀ j, j < gq → chkE s.core j = 0) (fun gq => 4 - gq) (0) (sub_cons rfl (sub_cons rfl (sub_nil _))) (sub_cons rfl (sub_nil _)) (by (try dsimp only); exact ⟨Nat.zero_le _, fun _ h => absurd h (Nat.not_lt_zero _)⟩) ?_
 rintro i hinv1; (try dsimp only at hinv1 ⊢)
 obtain ⟨hi, hok⟩ := hinv1
 refine WC.sr (Kq rfl (rd_lss rfl rfl rfl) (WL.nt (WC.seq ?_)))
 refine WC.cond rfl (fun hc8 => ?_) (fun hc8 => ?_)
 ·(try simp only [sB] at hc8)
  have hil : i < 4 := by omega
  refine WC.skip (WX.then_normal (WC.seq (WC.block (WC.sr ?_))))
  refine Kq rfl (rd_aidx rfl rfl rfl Tryz.underlying166 Tryz.underlying150 rfl (by kernel_rfl) ?_ (by rw [Int.toNat_natCast]; exact map_getD [113, 140, 141, 142] (fun k : Nat => Value.func (.func k) #[] #[]) i hil)) ?_
  ·omega
  refine Ka rfl (WL.nt (WC.sr (Km rfl ?_)))
  refine Kq rfl (lda rfl rfl .tc Tryz.underlying35 rfl ?_) ?_
  ·kernel_rfl
  refine Kh rfl (og_callv rfl rfl rfl (chkF_goes hil) (fncall0 _) (keep_val fun w hS => chkF_c hS.sl hS.sl hS.sl hS.more hs hil hok)) ?_
  intro _
  refine Ka rfl (WL.nt (WC.sr (Km rfl (Kq rfl (rd_neq rfl rfl rfl) (WL.nt ?_)))))
  refine WC.cond rfl (fun hc14 => ?_) (fun hc14 => ?_)
  ·(try simp only [sB] at hc14)
   have hr := chkS_at hil hok hc14
   refine WC.sr (Km rfl (Ka rfl (WL.nt (WC.ret (WX.block_ret (WX.then_ret (WX.then_ret (WX.block_ret (WX.then_ret ?_)))))))))
   exact WX.retN rfl (.tmp rfl .nil) fun w' hS => ⟨by rw [hr]; rfl, hS.below⟩
  ·(try simp only [sB] at hc14)
   refine WC.skip (WX.block_normal (WX.then_normal (WC.region ?_)))
   (refine Kq rfl (rd_add64nl rfl rfl rfl ?_) ?_; (focus (omega)))
   refine Km rfl (WL.nil ?_)
   refine WX.loopP (i + 1) (by (try dsimp only); omega) (sub_cons rfl (sub_cons rfl (sub_nil _))) (by refine (sub_cons ?_ (sub_nil _)) <;> (rfl)) ?_ (by (exact fun _ h => h))
   (try dsimp only)
   exact ⟨hil, fun j hj => by rcases Nat.lt_succ_iff_lt_or_eq.1 hj with h | h; exact hok j h; subst h; simpa using hc14⟩
 ·(try simp only [sB] at hc8)
  refine WC.exit (WX.then_exit (WX.then_exit (WX.block_exit ?_)))
  obtain rfl : i = 4 := by omega
  refine WX.then_normal (WC.sr (Ka rfl (WL.nt (WC.ret ?_))))
  exact WX.retN rfl (.tmp rfl .nil) fun w' hS => ⟨by rw [chkS_ok hok]; rfl, hS.below⟩
theorem rdx_c {x : Zs} {w : World} :
  Calls Tryz.prog 115 #[.agg #[.bool x.1, .string (S x.2)]] w fun e w' => e = .returned (.bool (decide (¬ okZ x))) ∧ Below w.heap.size w w' := by
 refine enter (S := St (fun _ => True) w [] ([])) (L := [(0, .agg #[.bool x.1, .string (S x.2)])]) Tryz.func115 rfl Tryz.ntmps115 rfl (args_cons rfl (args_nil _)) (St.start (fun _ _ => trivial) facts_nil) ?_
 refine WC.sr ?_
 refine Kh rfl (og_box rfl rfl (by (exact cells_agg _))) ?_
 intro b1
 refine Ka rfl (WL.nt (WC.sr ?_))
 refine Kq rfl (lda rfl rfl .tc Tryz.underlying45 rfl ?_) ?_
 ·kernel_rfl
 refine Kh rfl (og_call rfl rfl (by kernel_rfl) (keep_val fun w hS => zvalid_c (x := x))) ?_
 intro _
 refine Kq rfl (rd_not rfl rfl) (Ka rfl (WL.nt (WC.ret ?_)))
 exact WX.retN rfl (.tmp rfl .nil) fun w' hS => ⟨by (simp [tup]; done), hS.below⟩
theorem ready_c {s : SA} {ws : List Zs} {a : Option Addr} {c : Nat} {w : World} {ok : Nat → Prop} (hF1 : (Fact.sl s.ga (gps s.gs)).holds ok w) (hF2 : (Fact.sl s.va (vrs s.vs)).holds ok w) (hF3 : (Fact.sl s.ea (qas s.es)).holds ok w) (hF4 : (Fact.sl a (ints ws)).holds ok w) (hM : ∀ f ∈ (s.es.map qaF), f.holds ok w) (hs : saL s) (hw : ws.length ≤ 100000) :
  Calls Tryz.prog 73 #[saV s, .slice a ws.length c] w fun e w' => e = .returned (.int .i64 (rdyS s.core ws)) ∧ Below w.heap.size w w' := by
 refine enter (S := St (fun _ => True) w [] (Fact.sl s.ga (gps s.gs) :: Fact.sl s.va (vrs s.vs) :: Fact.sl s.ea (qas s.es) :: Fact.sl a (ints ws) :: (s.es.map qaF))) (L := [(0, saV s), (1, .slice a ws.length c)]) Tryz.func73 rfl Tryz.ntmps73 rfl (args_cons rfl (args_cons rfl (args_nil _))) (St.start (fun _ _ => trivial) (facts_cons (fact_any hF1) (facts_cons (fact_any hF2) (facts_cons (fact_any hF3) (facts_cons (fact_any hF4) (facts_more hM)))))) ?_
 refine WC.sr ?_
 refine Kh rfl (og_box rfl rfl (by (exact cells_agg _))) ?_
 intro b2
 refine Ka rfl (WL.nt (WC.seq ?_))
 refine WC.joinP (σ := Unit) [(1, _), (2, _)] (fun gq => [(12, .bool (decide (¬ (formS s.core ∧ ∀ x ∈ ws, okZ x))))]) (fun gq => True) (sub_cons rfl (sub_cons rfl (sub_nil _))) ?_ ?_
 ·skip
  refine WC.region ?_
  refine Kq rfl (lda rfl rfl .tc Tryz.underlying35 rfl ?_) ?_
  ·kernel_rfl
  refine Kh rfl (og_call rfl rfl (by kernel_rfl) (keep_val fun w hS => form_c (s := s) (by (exact hS.sl)) (by (exact hS.sl)) (by (exact hS.sl)) (by (exact hS.more)) (by exact hs))) ?_
  intro _
  refine Kq rfl (rd_neq rfl rfl rfl) ?_
  refine WL.set 8 rfl (v' := .bool (decide (¬ formS s.core))) (congrArg Value.bool (by split <;> simp_all)) ?_
  refine Km rfl ?_
  refine WL.bool 9 rfl (fun hg9 => ?_) (fun hg9 => ?_)
  ·(try simp only [sB] at hg9)
   refine Kt rfl (Kt rfl (Kq rfl (rd_pickt rfl rfl rfl) (WL.nil ?_)))
   refine WX.joinP (()) (sub_cons rfl (sub_cons rfl (sub_nil _))) (by refine (sub_cons ?_ (sub_nil _)) <;> ((refine slot_b rfl ?_; (try dsimp only); (simp [*]; done)))) ?_ (by (exact fun _ h => h))
   (try dsimp only)
   done
  ·(try simp only [sB] at hg9)
   refine Km rfl ?_
   refine Kh rfl (og_call rfl rfl (by kernel_rfl) (keep_val fun w hS => cfZ_c (l := ws) (fk := 115) (cs := #[]) (p := fun x => decide (¬ okZ x)) (by (exact hS.sl)) (by exact hw) (by kernel_rfl) (by exact fun x hx w' hb => by rw [fnc0]; exact rdx_c))) ?_
   intro _
   refine WL.set 11 rfl (v' := .bool (decide (¬ ∀ x ∈ ws, okZ x))) (congrArg Value.bool (by exact any_dec _ _)) ?_
   refine Kq rfl (rd_pickf rfl rfl rfl) (WL.nil ?_)
   refine WX.joinP (()) (sub_cons rfl (sub_cons rfl (sub_nil _))) (by refine (sub_cons ?_ (sub_nil _)) <;> ((refine slot_b rfl ?_; (try dsimp only); (simp [*]; done)))) ?_ (by (exact fun _ h => h))
   (try dsimp only)
   done
 ·rintro _ hmeet; (try dsimp only at hmeet ⊢)
  refine WC.cond rfl (fun hc12 => ?_) (fun hc12 => ?_)
  ·(try simp only [sB] at hc12)
   have hr : rdyS s.core ws = 3 := by
    rw [rdyS]; by_cases h : formS s.core
    ·rw [if_neg (fun h2 => h2 h), if_pos (fun h2 => hc12 ⟨h, h2⟩)]
    ·rw [if_pos h]
   refine WC.sr (Ka rfl (WL.nt (WC.ret (WX.then_ret ?_))))
   exact WX.retN rfl (.tmp rfl .nil) fun w' hS => ⟨by rw [hr]; rfl, hS.below⟩
  ·(try simp only [sB] at hc12)
   obtain ⟨hf1, hz1⟩ := Decidable.not_not.1 hc12
   refine WC.skip (WX.then_normal (WC.seq (WC.sr ?_)))
   refine Kq rfl (lda rfl rfl .tc Tryz.underlying35 rfl ?_) ?_
   ·kernel_rfl
   refine Kh rfl (og_call rfl rfl (by kernel_rfl) (keep_val fun w hS => lcheck_c (s := s) (by (exact hS.sl)) (by (exact hS.sl)) (by (exact hS.sl)) (by (exact hS.more)) (by exact hs))) ?_
   intro _
   refine Ka rfl (WL.nt (WC.sr (Km rfl (Kq rfl (rd_neq rfl rfl rfl) (WL.nt ?_)))))
   refine WC.cond rfl (fun hc16 => ?_) (fun hc16 => ?_)
   ·(try simp only [sB] at hc16)
    refine WC.sr (Km rfl (Ka rfl (WL.nt (WC.ret (WX.then_ret ?_)))))
    exact WX.retN rfl (.tmp rfl .nil) fun w' hS => ⟨by rw [rdyS, if_neg (fun h => h hf1), if_neg (fun h => h hz1), if_pos (by simpa using hc16)]; rfl, hS.below⟩
   ·(try simp only [sB] at hc16)
    have hk0 : chkS s.core = 0 := by simpa using hc16
    refine WC.skip (WX.then_normal (WC.seq (WC.sr (Km rfl (Kq rfl (rd_len rfl rfl Tryz.underlying49) ?_)))))
    refine Kq rfl (rd_fa (q := 1) rfl rfl Tryz.underlying35 rfl (by kernel_rfl) rfl) ?_
    refine Kq rfl (ld rfl rfl .tc Tryz.underlying32 rfl (by rfl)) ?_
    refine Kq rfl (rd_len rfl rfl Tryz.underlying32) (Kq rfl (rd_neq rfl rfl rfl) (WL.nt ?_))
    refine WC.cond rfl (fun hc23 => ?_) (fun hc23 => ?_)
    ·(try simp only [sB] at hc23)
     refine WC.sr (Ka rfl (WL.nt (WC.ret (WX.then_ret ?_))))
     exact WX.retN rfl (.tmp rfl .nil) fun w' hS => ⟨by rw [rdyS, if_neg (fun h => h hf1), if_neg (fun h => h hz1), if_neg (fun h => h hk0), if_pos (fun h => hc23 (by rw [h]))]; rfl, hS.below⟩
    ·(try simp only [sB] at hc23)
     refine WC.skip (WX.then_normal (WC.sr (Ka rfl (WL.nt (WC.ret ?_)))))
     exact WX.retN rfl (.tmp rfl .nil) fun w' hS => ⟨by rw [rdyS, if_neg (fun h => h hf1), if_neg (fun h => h hz1), if_neg (fun h => h hk0), if_neg (fun h => h (show ws.length = s.vs.length by omega))]; rfl, hS.below⟩
end Go.Proofs.YtnimhldbblfgbaaGreat
