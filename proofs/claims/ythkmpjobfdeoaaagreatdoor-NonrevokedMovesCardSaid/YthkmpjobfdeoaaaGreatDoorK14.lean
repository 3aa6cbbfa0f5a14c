/-
  Parts of the walk: Opz Non1 Sin Non2 Non3 Sha Hash1 Hash2.
-/
import Derived.Test.YthkmpjobfdeoaaaGreatDoorK13
import Derived.SizedLaws
import Derived.Test.YthkmpjobfdeoaaaGreatDoorProg
namespace Go.Proofs.YthkmpjobfdeoaaaGreatDoor
set_option linter.unusedSimpArgs false
set_option linter.unusedVariables false
open Go.ChangeShapes Go.WideShapes Go.ChangeAt Go.RowKit
def Wt {H : Type} (P : Program) (t : TypeId) (d : DataW H) : Prop := ∀ n ∈ d.weights P t, n ≤ 140737488351232
theorem wt_all {H : Type} {P : Program} {ts : List TypeId} {ds : List (DataW H)} (h : (DataW.weightsEach P ts ds).all (· ≤ reachBytes) = true) {j : Nat} {t : TypeId} {d : DataW H} (ht : ts[j]? = some t) (hd : ds[j]? = some d) : Wt P t d := fun n hn => by
 have := List.all_eq_true.1 h n (DataW.weights_mem_each ht hd n hn)
 exact of_decide_eq_true this
theorem weightsAll_mem {H : Type} {P : Program} {e : TypeId} {d : DataW H} {n : Nat} : ∀ {l : List (DataW H)}, d ∈ l → n ∈ d.weights P e → n ∈ DataW.weightsAll P e l
 | [], h, _ => by cases h
 | x :: l, h, hn => by
  simp only [DataW.weightsAll, List.mem_append]
  rcases List.mem_cons.1 h with rfl | h
  ·exact .inl hn
  ·exact .inr (weightsAll_mem h hn)
theorem mapM_get {α β : Type} {f : α → Option β} : ∀ {l : List α} {r : List β}, l.mapM f = some r → ∀ (i : Nat) y, l[i]? = some y → ∃ z, f y = some z ∧ r[i]? = some z
 | [], _, _, i, y, hy => by simp at hy
 | a :: l, r, h, i, y, hy => by
  rw [List.mapM_cons] at h
  cases hf : f a with
  | none => simp [hf] at h
  | some z =>
   cases hr : l.mapM f with
   | none => simp [hf, hr] at h
   | some r' =>
    simp [hf, hr] at h
    subst h
    cases i with
    | zero => simp at hy; subst hy; exact ⟨z, hf, rfl⟩
    | succ i => simp at hy; simpa using mapM_get hr i y hy
theorem mapM_len {α β : Type} {f : α → Option β} : ∀ {l : List α} {r : List β}, l.mapM f = some r → r.length = l.length
 | [], r, h => by simp at h; subst h; rfl
 | a :: l, r, h => by
  rw [List.mapM_cons] at h
  cases hf : f a with
  | none => simp [hf] at h
  | some z =>
   cases hr : l.mapM f with
   | none => simp [hf, hr] at h
   | some r' => simp [hf, hr] at h; subst h; simp [mapM_len hr]
section
variable {H : Type} {enc : TypeId × Value → H} {P : Program} {w : World} {spare : Nat → Bool} {held : Bool} {fuel : Nat} {t e : TypeId} {cs : List Value} {x : DataW H × List MemPlace}
theorem opz_str (ht : P.underlying t = some .string) (h : DataW.trod enc P w 0 spare held fuel t cs = some x) (hz : Wt P t x.1) : ∃ s : List UInt8, cs = [.string (S s)] ∧ s.length ≤ 140737488351232 := by
 cases fuel with
 | zero => simp [DataW.trod] at h
 | succ n =>
  simp only [DataW.trod, ht] at h
  split at h <;> simp_all
  rename_i s
  obtain ⟨h1, rfl⟩ := h
  refine ⟨s.data.toList, (S_data s).symm, hz _ ?_⟩
  simp [DataW.weights]
theorem opz_struct {fs : Array Field} (ht : P.underlying t = some (.struct fs)) (h : DataW.trod enc P w 0 spare held fuel t cs = some x) (hz : Wt P t x.1) :
  cs.length = P.cellsOf t ∧ ∃ m, ∀ (j : Nat) f, fs.toList[j]? = some f → ∃ y, DataW.trod enc P w 0 spare held m f.type ((cs.drop f.offset).take (P.cellsOf f.type)) = some y ∧ Wt P f.type y.1 := by
 cases fuel with
 | zero => simp [DataW.trod] at h
 | succ n =>
  simp only [DataW.trod, ht] at h
  split at h
  ·rename_i hl
   refine ⟨hl, n, fun j f hf => ?_⟩
   obtain ⟨xs, hxs, rfl⟩ := Option.map_eq_some_iff.1 h
   obtain ⟨z, h1, h2⟩ := mapM_get hxs j f hf
   refine ⟨z, h1, fun n hn => hz n ?_⟩
   simp only [DataW.weights, ht]
   exact DataW.weights_mem_each (j := j) (by rw [List.getElem?_map, hf]; rfl) (by rw [List.getElem?_map, h2]; rfl) n hn
  ·cases h
theorem opz_array {n : Nat} (ht : P.underlying t = some (.array n e)) (h : DataW.trod enc P w 0 spare held fuel t cs = some x) (hz : Wt P t x.1) :
  cs.length = P.cellsOf t ∧ ∃ m, ∀ i, i < n → ∃ y, DataW.trod enc P w 0 spare held m e ((cs.drop (i * P.cellsOf e)).take (P.cellsOf e)) = some y ∧ Wt P e y.1 := by
 cases fuel with
 | zero => simp [DataW.trod] at h
 | succ q =>
  simp only [DataW.trod, ht] at h
  split at h
  ·rename_i hl
   refine ⟨hl, q, fun i hi => ?_⟩
   obtain ⟨xs, hxs, rfl⟩ := Option.map_eq_some_iff.1 h
   obtain ⟨z, h1, h2⟩ := mapM_get hxs i i (List.getElem?_range hi)
   refine ⟨z, h1, fun n hn => hz n ?_⟩
   simp only [DataW.weights, ht]
   exact weightsAll_mem (List.mem_map.2 ⟨z, List.mem_of_getElem? h2, rfl⟩) hn
  ·cases h
theorem opz_slice {α : Type} [Inhabited α] {cells : α → List Value} {F : α → Prop} (sz bz : Nat) (hbz : P.bytesOf e = bz) (ht : P.underlying t = some (.slice e)) (hc : P.cellsOf e = sz) (hsz : ∀ a, (cells a).length = sz)
  (hel : ∀ m cs (y : DataW H × List MemPlace), DataW.trod enc P w 0 (fun _ => true) held m e cs = some y → Wt P e y.1 → ∃ a : α, cs = cells a ∧ F a) (h : DataW.trod enc P w 0 (fun _ => true) held fuel t cs = some x) (hz : Wt P t x.1) :
  ∃ s : Sl α, cs = [s.val] ∧ s.l.length ≤ s.cap ∧ s.cap * bz ≤ 140737488351232 ∧ (Fact.sl s.a (s.l.flatMap cells)).holds (fun _ => True) w ∧ ∀ y ∈ s.l, F y := by
 cases fuel with
 | zero => simp [DataW.trod] at h
 | succ n =>
  simp only [DataW.trod, ht] at h
  split at h
  all_goals (try (rename_i hq; cases hq; done))
  all_goals (try (cases h; done))
  all_goals (try (rename_i hq _; cases hq; done))
  ·exact ⟨⟨none, [], 0⟩, rfl, Nat.le_refl _, by simp, .inl rfl, by simp⟩
  ·rename_i e' a len cap he
   cases he
   split at h <;> try cases h
   rename_i hb
   obtain ⟨elems, hm, h'⟩ := Option.bind_eq_some_iff.1 h
   simp only [if_true] at h'
   obtain ⟨rest, hr, rfl⟩ := Option.map_eq_some_iff.1 h'
   have hzl : ∀ n ∈ (DataW.slice (elems.map (·.1)) (rest.map (·.1))).weights P t, n ≤ 140737488351232 := hz
   simp only [DataW.weights, ht] at hzl
   have hcb : cap * bz ≤ 140737488351232 := by
    have h1 := hzl _ (List.mem_cons_self)
    have h2 := mapM_len hm
    have h3 := mapM_len hr
    simp only [List.length_map, List.length_range] at h1 h2 h3
    rw [hbz, h2, h3, show len + (cap - len) = cap by omega] at h1
    exact h1
   have hall : ∀ i, i < len → ∃ ys : List Value, w.cells? 0 (a.add (i * sz)) sz = some ys ∧ ∃ q : α, ys = cells q ∧ F q := fun i hi => by
    obtain ⟨z, hz1, hz2⟩ := mapM_get hm i i (List.getElem?_range hi)
    obtain ⟨ys, h1, h2⟩ := Option.bind_eq_some_iff.1 hz1
    rw [hc] at h1
    obtain ⟨q, hq, hF⟩ := hel _ _ _ h2 (fun n hn => hzl n (List.mem_cons_of_mem _ (List.mem_append_left _ (weightsAll_mem (List.mem_map.2 ⟨z, List.mem_of_getElem? hz2, rfl⟩) hn))))
    exact ⟨ys, h1, q, hq, hF⟩
   have hlist : ∀ k, k ≤ len → ∃ l : List α, l.length = k ∧ (∀ y ∈ l, F y) ∧ ∀ i, i < k → w.cells? 0 (a.add (i * sz)) sz = some (cells (l.getD i default)) := by
    intro k
    induction k with
    | zero => intro _; exact ⟨[], rfl, by simp, fun i hi => by omega⟩
    | succ k ih =>
     intro hk
     obtain ⟨l, h1, h2, h3⟩ := ih (by omega)
     obtain ⟨ys, hy, q, rfl, hF⟩ := hall k (by omega)
     refine ⟨l ++ [q], by simp [h1], fun y hy' => ?_, fun i hi => ?_⟩
     ·rcases List.mem_append.1 hy' with h | h
      ·exact h2 y h
      ·simp at h; subst h; exact hF
     ·by_cases hik : i = k
      ·subst hik; rw [hy]; simp [List.getD, ← h1]
      ·rw [h3 i (by omega)]; simp only [List.getD]; rw [List.getElem?_append_left (by omega)]
   obtain ⟨l, h1, h2, h3⟩ := hlist len (Nat.le_refl _)
   refine ⟨⟨some a, l, cap⟩, by simp [h1], by simp [h1]; exact hb.2.1, hcb, slfact_of fun i v hv => ?_, h2⟩
   have hlen := flatMap_len l cells sz hsz
   have hi : i < l.length * sz := by rw [← hlen]; exact (List.getElem?_eq_some_iff.1 hv).1
   have hs0 : 0 < sz := by rcases Nat.eq_zero_or_pos sz with h0 | h0; · subst h0; omega
                           ·exact h0
   have hj : i / sz < l.length := Nat.div_lt_of_lt_mul (by rw [Nat.mul_comm]; exact hi)
   obtain ⟨_, h5⟩ := cells?_get (h3 (i / sz) (by omega))
   have h6 := h5 (i % sz) v (by
    rw [← flatMap_at l cells sz hsz (i / sz) hj, List.getElem?_take, if_pos (Nat.mod_lt _ hs0), List.getElem?_drop, Nat.mul_comm, Nat.div_add_mod]; exact hv)
   have e1 : (a.add (i / sz * sz)).add (i % sz) = a.add i := by
    have h7 : i / sz * sz + i % sz = i := by rw [Nat.mul_comm]; exact Nat.div_add_mod i sz
    have h8 : ∀ p q : Nat, (a.add p).add q = a.add (p + q) := fun p q => by by_cases hp : p = 0 <;> by_cases hq : q = 0 <;> simp [Addr.add, hp, hq, Nat.add_assoc]
    rw [h8, h7]
   rw [e1] at h6; exact h6
end
end Go.Proofs.YthkmpjobfdeoaaaGreatDoor
namespace Go.Proofs.YthkmpjobfdeoaaaGreatDoor
open Go.RowKit
set_option linter.unusedSimpArgs false
set_option linter.unusedVariables false
set_option maxHeartbeats 600000
set_option maxRecDepth 20000
theorem new_nil {w w' : World} {T : TypeId} {fs : List Fact} {ok : Nat → Prop} (h : St ok w [] fs w') : St ok w [⟨none, [] ++ [], T⟩] [] w' := (h.nil T).sub (List.Sublist.refl _) (fun _ h => by cases h)
theorem wit_c {u m : Bs} {w : World} :
  Calls Tryz.prog 31 #[.string (S u), .string (S m)] w fun e w' => ∃ g : Rs, e = .returned (.tuple #[g.val (witS u m).1.length, .int .i64 (witS u m).2]) ∧ g.cap = (witS u m).1.length + g.sp.length ∧ St (fun _ => True) w [g.ent (ints (witS u m).1) 50] [] w' := by
 refine En [] [(0, .string (S u)), (1, .string (S m))] Tryz.func31 rfl Tryz.ntmps31 rfl (Ac rfl (Ac rfl (An _))) Fn ?_
 refine Cs (Ka rfl (Ka rfl (Nt (Cq ?_))))
 refine WC.joinP (σ := Unit) [(0, _), (1, _)] (fun gq => [(15, .bool (decide (¬ (okN u ∧ okN m))))]) (fun gq => True) (S2 rfl rfl) ?_ ?_
 ·skip
  refine Cg (Km rfl ?_)
  refine Ku rfl (Oc rfl rfl (Kv fun w hS => valid_c (a := u))) ?_
  refine Kq rfl (Rt rfl rfl) (Km rfl ?_)
  refine Nb 11 rfl (fun hg11 => ?_) (fun hg11 => ?_)
  ·(try simp only [sB] at hg11)
   refine Kt rfl (Kt rfl (Kt rfl (Kq rfl (Rp rfl rfl rfl) (Nn ?_))))
   refine WX.joinP (()) (S2 rfl rfl) (by refine (Sc ?_ (S0 _)) <;> ((refine slot_b rfl ?_; (try dsimp only); (simp [*]; done)))) ?_ (by (exact fun _ h => h))
   (try dsimp only)
   done
  ·(try simp only [sB] at hg11)
   refine Km rfl ?_
   refine Ku rfl (Oc rfl rfl (Kv fun w hS => valid_c (a := m))) ?_
   refine Kq rfl (Rt rfl rfl) (Kq rfl (Rq rfl rfl rfl) (Nn ?_))
   refine WX.joinP (()) (S2 rfl rfl) (by refine (Sc ?_ (S0 _)) <;> ((refine slot_b rfl ?_; (try dsimp only); (simp [*]; done)))) ?_ (by (exact fun _ h => h))
   (try dsimp only)
   done
 ·rintro _ hmeet; (try dsimp only at hmeet ⊢)
  refine Cd rfl (fun hc15 => ?_) (fun hc15 => ?_)
  ·(try simp only [sB] at hc15)
   have hr : witS u m = ([], 3) := by rw [witS, if_neg hc15]
   refine Cs (Ka rfl (Ka rfl (Nt (Ce (Xb ?_)))))
   exact Rn rfl (.tmp rfl (.tmp rfl .nil)) fun w' hS => ⟨⟨none, 0, []⟩, by rw [hr]; rfl, by rw [hr]; rfl, by rw [hr]; exact new_nil hS⟩
  ·(try simp only [sB] at hc15)
   have hok : okN u ∧ okN m := by simpa using hc15
   refine Ck (Xa (Cs (Km rfl (Km rfl ?_))))
   refine Ku rfl (Oc rfl rfl (Kv fun w hS => mul_c (a := u) (b := m))) ?_
   refine Km rfl (Kq rfl (Re rfl rfl rfl) (Kq rfl (Re rfl rfl rfl) (Ka rfl (Ka rfl (Nt (Cq (Cs (Km rfl (Kq rfl (rd_neq rfl rfl rfl) (Nt ?_))))))))))
   refine Cd rfl (fun hc23 => ?_) (fun hc23 => ?_)
   ·(try simp only [sB] at hc23)
    have hr : witS u m = ([], (mulN u m).2) := by rw [witS, if_pos hok, if_neg (by simpa using hc23)]
    refine Cs (Km rfl (Ka rfl (Ka rfl (Nt (Ce (Xb ?_))))))
    exact Rn rfl (.tmp rfl (.tmp rfl .nil)) fun w' hS => ⟨⟨none, 0, []⟩, by rw [hr]; rfl, by rw [hr]; rfl, by rw [hr]; exact new_nil hS⟩
   ·(try simp only [sB] at hc23)
    have h0 : (mulN u m).2 = 0 := by simpa using hc23
    have hr : witS u m = ([fromZ u, fromZ (mulN u m).1], 0) := by rw [witS, if_pos hok, if_pos h0]
    refine Ck (Xa (Cs (Km rfl ?_)))
    refine Ku rfl (Oc rfl rfl (Kv fun w hS => zfrom_c (a := u))) ?_
    refine Km rfl ?_
    refine Ku rfl (Oc rfl rfl (Kv fun w hS => zfrom_c (a := (mulN u m).1))) ?_
    refine Kh rfl (og_bsN rfl rfl u54 (by kernel_rfl : _ = some (some (.agg #[.bool false, .string (S [])]), 2, 24)) (by kernel_rfl) (by decide) rfl rfl (by (simp [Value.cells]; done)) (by (simp only [List.map, Value.cells, List.flatMap_cons, List.flatMap_nil, List.append_nil, List.toList_toArray]; rfl)) (by decide)) ?_
    intro b29
    refine Ka rfl (Ka rfl (Nt (Ce ?_)))
    exact Rn rfl (.tmp rfl (.tmp rfl .nil)) fun w' hS => ⟨⟨some b29, 2, []⟩, by rw [hr]; rfl, by rw [hr]; rfl, by rw [hr]; exact hS⟩
theorem unm_c {k : IK} {rv : Value} {x : Bs} {ws : List Zs} {a : Option Addr} {c : Nat} {w : World} {ok : Nat → Prop} (hF1 : (Fact.sl a (ints ws)).holds ok w) (hw : ws.length ≤ 100000) (hm8 : k.g.1.length ≤ 8) :
  Cw 19 #[ikV k rv, .string (S x), .slice a ws.length c] w (DE (unmS k x ws)) := by
 have h4 : (okN k.g.1 ∧ okN k.g.2 ∧ okN k.h ∧ okN x) ↔ ∀ y ∈ [k.g.1, k.g.2, k.h, x], okN y := by simp
 refine En [Fact.sl a (ints ws)] [(0, ikV k rv), (1, .string (S x)), (2, .slice a ws.length c)] Tryz.func19 rfl Tryz.ntmps19 rfl (Ac rfl (Ac rfl (Ac rfl (An _)))) (Fc (fact_any hF1) Fn) ?_
 refine Cs ?_
 refine Kh rfl (Oy rfl rfl) ?_
 intro b3
 refine Ka rfl (Ka rfl (Ka rfl (Nt (Cq (Cs (Kq rfl (Fa (q := 1) rfl rfl u33 rfl rfl) (Kq rfl (Fa (q := 1) rfl rfl u26 rfl rfl) (Kq rfl (Ld rfl rfl .tc u22) ?_))))))))
 refine Kq rfl (Fa (q := 1) rfl rfl u33 rfl rfl) (Kq rfl (Fa (q := 2) rfl rfl u26 rfl rfl) (Kq rfl (Ld rfl rfl .tc u22) ?_))
 refine Kq rfl (Fa (q := 7) rfl rfl u33 rfl rfl) (Kq rfl (Ld rfl rfl .tc u22) ?_)
 refine Km rfl (Kq rfl (Kb [[.string (S [])], [.string (S [])], [.string (S [])], [.string (S [])]] rfl rfl) (Km rfl (Nt (Cb ?_))))
 refine Lp (σ := Nat) [(1, _), (2, _), (3, _), (27, _)] (fun gq => [(28, .int .i64 (gq : Int))]) (fun gq => gq ≤ 4 ∧ ∀ y ∈ [k.g.1, k.g.2, k.h, x].take gq, okN y) (fun gq => 4 - gq) (0) (S4 rfl rfl rfl rfl) (S1 rfl) (by (try dsimp only); exact ⟨Nat.zero_le _, by simp⟩) ?_
 rintro i hinv1; (try dsimp only at hinv1 ⊢)
 obtain ⟨hi, hok⟩ := hinv1
 refine Cs (Kq rfl (rd_lss rfl rfl rfl) (Nt (Cq ?_)))
 refine Cd rfl (fun hc29 => ?_) (fun hc29 => ?_)
 ·(try simp only [sB] at hc29)
  have hil : i < [k.g.1, k.g.2, k.h, x].length := by show i < 4; omega
  refine Ck (Xa (Cq (Cb (Cs ?_))))
  refine Kq rfl (rd_aidx rfl rfl rfl u115 u22 rfl (by kernel_rfl) ?_ (by rw [Int.toNat_natCast]; exact map_getD [k.g.1, k.g.2, k.h, x] (fun s : Bs => Value.string (S s)) i hil)) ?_
  ·omega
  refine Ka rfl (Nt (Cs (Km rfl ?_)))
  refine Ku rfl (Oc rfl rfl (Kv fun w hS => valid_c (a := [k.g.1, k.g.2, k.h, x].getD i default))) ?_
  refine Kq rfl (Rt rfl rfl) (Nt ?_)
  refine Cd rfl (fun hc33 => ?_) (fun hc33 => ?_)
  ·(try simp only [sB] at hc33)
   refine Cs (Ka rfl (Ka rfl (Ka rfl (Nt (Ce (Xf (Xb (Xb (Xf (Xb ?_))))))))))
   exact R3 rfl rfl rfl rfl (by rw [unmS, if_pos (fun h => absurd (h4.1 h _ (getD_mem _ _ hil)) (by simpa using hc33))]; rfl)
  ·(try simp only [sB] at hc33)
   refine Ck (Xd (Xa (Cg (Kq rfl (Rz rfl rfl rfl (by omega)) (Km rfl (Nn ?_))))))
   refine Ly (i + 1) (by (try dsimp only); omega) (S4 rfl rfl rfl rfl) (by refine (Sc ?_ (S0 _)) <;> (rfl)) ?_ (by (exact fun _ h => h))
   (try dsimp only)
   exact ⟨hil, all_take hil hok (by simpa using hc33)⟩
 ·(try simp only [sB] at hc29)
  refine Cx (Xc (Xc (Xe ?_)))
  obtain rfl : i = 4 := by omega
  have hk4 := h4.2 hok
  clear hok
  refine Xa (Cq (Cs (Km rfl (Kq rfl (rd_len rfl rfl u54) (Km rfl (Nt (Cb ?_)))))))
  refine Lo (σ := Nat) [(1, _), (2, _), (3, _), (35, _), (36, _)] (fun gq => [(37, .int .i64 (gq : Int))]) (fun gq => gq ≤ ws.length ∧ ∀ z ∈ ws.take gq, okZ z) (fun gq => ws.length - gq) (fun gq => [⟨some b3, [.string (S k.name), .string (S k.g.1), .string (S k.g.2), .string (S k.z), .string (S k.s), rv, .string (S k.u), .string (S k.h)], 33⟩]) (fun gq => [Fact.sl a (ints ws)]) (0) (S5 rfl rfl rfl rfl rfl) (S1 rfl) (by (try dsimp only); exact ⟨Nat.zero_le _, by simp⟩) (by (exact fun _ h => h)) ?_
  rintro n hinv2; (try dsimp only at hinv2 ⊢)
  obtain ⟨hn, hokz⟩ := hinv2
  refine Cs (Kq rfl (rd_lss rfl rfl rfl) (Nt (Cq ?_)))
  refine Cd rfl (fun hc38 => ?_) (fun hc38 => ?_)
  ·(try simp only [sB] at hc38)
   have hnl : n < ws.length := by omega
   refine Ck (Xa (Cq (Cb (Cs ?_))))
   refine Kq rfl (Ia rfl rfl rfl u54 (by kernel_rfl : _ = some 2) (by omega) (by (rw [flatMap_len _ _ 2 (fun _ => rfl)]; omega))) ?_
   refine Kq rfl (ldma _ rfl rfl u50 rfl (by kernel_rfl : _ = some 2) (fun _ => rfl) (by decide) rfl (by assumption)) ?_
   refine Kh rfl (Oz [.bool false, .string (S [])] rfl) ?_
   intro b12
   refine Nu rfl rfl (Sa rfl rfl rfl .tc) ?_
   refine Nt (Cs ?_)
   refine Kq rfl (lda rfl rfl .tc u50 rfl ?_) ?_
   ·kernel_rfl
   refine Ku rfl (Oc rfl rfl (Kv fun w hS => zvalid_c (x := ws.getD n default))) ?_
   refine Kq rfl (Rt rfl rfl) (Nt ?_)
   refine Cd rfl (fun hc43 => ?_) (fun hc43 => ?_)
   ·(try simp only [sB] at hc43)
    refine Cs (Ka rfl (Ka rfl (Ka rfl (Nt (Ce (Xf (Xb (Xb (Xf (Xb ?_))))))))))
    exact R3 rfl rfl rfl rfl (by rw [unmS, if_neg (fun h => h hk4), if_pos (fun h => absurd (h _ (getD_mem _ _ hnl)) (by simpa using hc43))]; rfl)
   ·(try simp only [sB] at hc43)
    refine Ck (Xd (Xa (Cg (Kq rfl (Rz rfl rfl rfl (by omega)) (Km rfl (Nn ?_))))))
    refine Lx (n + 1) (by (try dsimp only); omega) (S5 rfl rfl rfl rfl rfl) (by refine (Sc ?_ (S0 _)) <;> (rfl)) ?_ (by (exact st_sub))
    (try dsimp only)
    exact ⟨hnl, all_take hnl hokz (by simpa using hc43)⟩
  ·(try simp only [sB] at hc38)
   refine Cx (Xc (Xc (Xe ?_)))
   obtain rfl : n = ws.length := by omega
   rw [List.take_length] at hokz
   refine Xa (Cq (Cs (Kq rfl (Fa (q := 1) rfl rfl u33 rfl rfl) ?_)))
   refine Kq rfl (ldp rfl rfl .tc u26 rfl (by kernel_rfl : _ = some 2) (by rfl) (by rfl)) ?_
   refine Ku rfl (Oc rfl rfl (Kv fun w hS => pcheck_c (g := k.g))) ?_
   refine Ka rfl (Nt (Cs (Km rfl (Kq rfl (rd_neq rfl rfl rfl) (Nt ?_)))))
   refine Cd rfl (fun hc49 => ?_) (fun hc49 => ?_)
   ·(try simp only [sB] at hc49)
    refine Cs (Km rfl (Ka rfl (Ka rfl (Ka rfl (Nt (Ce (Xb ?_)))))))
    exact R3 rfl rfl rfl rfl (by rw [unmS, if_neg (fun h => h hk4), if_neg (fun h => h hokz), if_pos (by simpa using hc49)]; rfl)
   ·(try simp only [sB] at hc49)
    have hg : chkG k.g = 0 := by simpa using hc49
    refine Ck (Xa (Cq (Cb ?_)))
    refine WC.joinP (σ := Unit) [(1, _), (2, _), (3, _)] (fun gq => [(51, .bool (decide (¬ (elG k.g k.h ∧ elG k.g x))))]) (fun gq => True) (S3 rfl rfl rfl) ?_ ?_
    ·skip
     refine Cg (Kq rfl (Fa (q := 1) rfl rfl u33 rfl rfl) ?_)
     refine Kq rfl (ldp rfl rfl .tc u26 rfl (by kernel_rfl : _ = some 2) (by rfl) (by rfl)) ?_
     refine Kq rfl (Fa (q := 7) rfl rfl u33 rfl rfl) (Kq rfl (Ld rfl rfl .tc u22) ?_)
     refine Ku rfl (Oc rfl rfl (Kv fun w hS => pwhas_c (g := k.g) (x := k.h) (by assumption))) ?_
     refine Ns 56 rfl (v' := .bool (decide (elG k.g k.h))) (congrArg Value.bool (by simp [hg])) ?_
     refine Kq rfl (Rt rfl rfl) (Km rfl ?_)
     refine Nb 58 rfl (fun hg58 => ?_) (fun hg58 => ?_)
     ·(try simp only [sB] at hg58)
      refine Kt rfl (Kt rfl (Kt rfl (Kt rfl (Kt rfl (Kq rfl (Rp rfl rfl rfl) (Ka rfl (Nn ?_)))))))
      refine WX.joinP (()) (S3 rfl rfl rfl) (by refine (Sc ?_ (S0 _)) <;> ((refine slot_b rfl ?_; (try dsimp only); (simp [*]; done)))) ?_ (by (exact fun _ h => h))
      (try dsimp only)
      done
     ·(try simp only [sB] at hg58)
      refine Kq rfl (Fa (q := 1) rfl rfl u33 rfl rfl) ?_
      refine Kq rfl (ldp rfl rfl .tc u26 rfl (by kernel_rfl : _ = some 2) (by rfl) (by rfl)) ?_
      refine Km rfl ?_
      refine Ku rfl (Oc rfl rfl (Kv fun w hS => pwhas_c (g := k.g) (x := x) (by assumption))) ?_
      refine Ns 62 rfl (v' := .bool (decide (elG k.g x))) (congrArg Value.bool (by simp [hg])) ?_
      refine Kq rfl (Rt rfl rfl) (Kq rfl (Rq rfl rfl rfl) (Ka rfl (Nn ?_)))
      refine WX.joinP (()) (S3 rfl rfl rfl) (by refine (Sc ?_ (S0 _)) <;> ((refine slot_b rfl ?_; (try dsimp only); (simp [*]; done)))) ?_ (by (exact fun _ h => h))
      (try dsimp only)
      done
    ·rintro _ hmeet; (try dsimp only at hmeet ⊢)
     refine Cd rfl (fun hc51 => ?_) (fun hc51 => ?_)
     ·(try simp only [sB] at hc51)
      refine Cs (Ka rfl (Ka rfl (Ka rfl (Nt (Ce (Xf (Xb ?_)))))))
      exact R3 rfl rfl rfl rfl (by rw [unmS, if_neg (fun h => h hk4), if_neg (fun h => h hokz), if_neg (fun h => h hg), if_pos hc51]; rfl)
     ·(try simp only [sB] at hc51)
      have hel : elG k.g k.h ∧ elG k.g x := Decidable.not_not.1 hc51
      refine Cs (Km rfl (Kq rfl (rd_len rfl rfl u54) (Kq rfl (rd_neq rfl rfl rfl) (Ka rfl (Nt ?_)))))
      refine Cd rfl (fun hc65 => ?_) (fun hc65 => ?_)
      ·(try simp only [sB] at hc65)
       refine Cs (Ka rfl (Ka rfl (Ka rfl (Nt (Ce (Xf (Xb ?_)))))))
       exact R3 rfl rfl rfl rfl (by rw [unmS, if_neg (fun h => h hk4), if_neg (fun h => h hokz), if_neg (fun h => h hg), if_neg (fun h => h hel), if_pos (by omega)]; rfl)
      ·(try simp only [sB] at hc65)
       have hw2 : ws.length = 2 := by omega
       have hw0 : 0 < ws.length := by omega
       have hw1 : 1 < ws.length := by omega
       obtain ⟨z0, hz0⟩ : ∃ z, Keep (z = ws.getD 0 default) := ⟨_, rfl⟩
       refine WC.joinP (σ := Unit) [(1, _), (2, _), (3, _)] (fun gq => [(69, .bool (decide (z0.1 = true ∨ z0.2 = [])))]) (fun gq => True) (S3 rfl rfl rfl) ?_ ?_
       ·skip
        refine Cg (Km rfl ?_)
        refine Kq rfl (Ia rfl rfl rfl u54 (by kernel_rfl : _ = some 2) (by omega) (by (rw [flatMap_len _ _ 2 (fun _ => rfl)]; omega))) ?_
        (refine Kq rfl (faf rfl rfl u50 rfl (by kernel_rfl) (by (try simp only [sN, Int.reduceToNat, Nat.reduceAdd, Nat.reduceMul, Nat.reduceSub]); rfl)) ?_)
        refine Kq rfl (ldmf (l := ws) (f := zc) (sz := 2) 0 0 rfl rfl u4 rfl (fun _ => rfl) rfl hw0 (by decide) rfl) ?_
        refine Ns 73 rfl (v' := .bool (z0.1)) (congrArg Value.bool (by rw [show z0 = _ from hz0])) ?_
        refine Km rfl ?_
        refine Nb 74 rfl (fun hg74 => ?_) (fun hg74 => ?_)
        ·(try simp only [sB] at hg74)
         refine Kt rfl (Kt rfl (Kt rfl (Kt rfl (Kt rfl (Kq rfl (Rp rfl rfl rfl) (Ka rfl (Nn ?_)))))))
         refine WX.joinP (()) (S3 rfl rfl rfl) (by refine (Sc ?_ (S0 _)) <;> ((refine slot_b rfl ?_; (try dsimp only); (simp [*]; done)))) ?_ (by (exact fun _ h => h))
         (try dsimp only)
         done
        ·(try simp only [sB] at hg74)
         refine Km rfl ?_
         refine Kq rfl (Ia rfl rfl rfl u54 (by kernel_rfl : _ = some 2) (by omega) (by (rw [flatMap_len _ _ 2 (fun _ => rfl)]; omega))) ?_
         (refine Kq rfl (faf rfl rfl u50 rfl (by kernel_rfl) (by (try simp only [sN, Int.reduceToNat, Nat.reduceAdd, Nat.reduceMul, Nat.reduceSub]); rfl)) ?_)
         refine Kq rfl (ldmf (l := ws) (f := zc) (sz := 2) 0 1 rfl rfl u22 rfl (fun _ => rfl) rfl hw0 (by decide) rfl) ?_
         refine Ns 78 rfl (v' := .string (S (z0.2))) (congrArg (fun l => Value.string (S l)) (by rw [show z0 = _ from hz0])) ?_
         refine Kq rfl (rd_seq rfl rfl rfl) (Kq rfl (Rq rfl rfl rfl) (Ka rfl (Nn ?_)))
         refine WX.joinP (()) (S3 rfl rfl rfl) (by refine (Sc ?_ (S0 _)) <;> ((refine slot_b rfl ?_; (try dsimp only); (simp [*]; done)))) ?_ (by (exact fun _ h => h))
         (try dsimp only)
         done
       ·rintro _ hmeet; (try dsimp only at hmeet ⊢)
        refine Cd rfl (fun hc69 => ?_) (fun hc69 => ?_)
        ·(try simp only [sB] at hc69)
         rw [show z0 = _ from hz0] at hc69
         refine Cs (Ka rfl (Ka rfl (Ka rfl (Nt (Ce (Xf (Xb ?_)))))))
         exact R3 rfl rfl rfl rfl (by rw [unmS, if_neg (fun h => h hk4), if_neg (fun h => h hokz), if_neg (fun h => h hg), if_neg (fun h => h hel), if_neg (fun h => h hw2), if_pos hc69]; rfl)
        ·(try simp only [sB] at hc69)
         rw [show z0 = _ from hz0] at hc69
         refine Ck (Xd (Xa (Cq ?_)))
         refine Cf [0, 1, 2, 3, 4, 5, 6, 7, 8, 10, 11, 9, 12] [] [0, 0, 0, 0, 0, 0, 1, 0, 0, 0, 3, 1, 0] (by kernel_rfl) (by kernel_rfl) rfl ?_
         refine Kj rfl (Rm rfl rfl) ?_
         refine Kj rfl (Ia rfl rfl rfl u54 (by kernel_rfl : _ = some 2) (by omega) (by (rw [flatMap_len _ _ 2 (fun _ => rfl)]; omega))) ?_
         refine Kj rfl (ldma (l := ws) (f := zc) (sz := 2) 1 rfl rfl u50 rfl (by kernel_rfl : _ = some 2) (fun _ => rfl) (by decide) rfl hw1) ?_
         refine Kj rfl (Rm rfl rfl) ?_
         refine Kj rfl (Ia rfl rfl rfl u54 (by kernel_rfl : _ = some 2) (by omega) (by (rw [flatMap_len _ _ 2 (fun _ => rfl)]; omega))) ?_
         refine Kj rfl (ldma (l := ws) (f := zc) (sz := 2) 0 rfl rfl u50 rfl (by kernel_rfl : _ = some 2) (fun _ => rfl) (by decide) rfl hw0) ?_
         refine Jv rfl rfl rfl rfl rfl (fun ext => Oc rfl rfl (Kv fun w hS => zdivide_c (x := ws.getD 1 default) (y := ws.getD 0 default))) ?_
         refine Kj rfl (Rm rfl rfl) (Kj rfl (Re rfl rfl rfl) ?_)
         refine Jf rfl rfl rfl rfl rfl (fr_alloc rfl (v := (.agg #[.bool false, .string (S [])])) (cs := [.bool false, .string (S [])]) (by kernel_rfl) rfl) ?_
         intro b14
         refine WJ.st rfl rfl rfl rfl (staJ rfl rfl rfl ?_ ?_ ?_) ?_
         ·kernel_rfl
         ·simp [Value.oneCell']
         ·rfl
         refine Kj rfl (Re rfl rfl rfl) (Kj rfl (Ra rfl rfl) ?_)
         refine WJ.nil ?_
         refine Nt (Cq (Cs (Km rfl (Kq rfl (rd_neq rfl rfl rfl) (Nt ?_)))))
         refine Cd rfl (fun hc92 => ?_) (fun hc92 => ?_)
         ·(try simp only [sB] at hc92)
          have hr : unmS k x ws = (([], []), 17) := by rw [unmS, if_neg (fun h => h hk4), if_neg (fun h => h hokz), if_neg (fun h => h hg), if_neg (fun h => h hel), if_neg (fun h => h hw2), if_neg hc69, if_pos (by simpa using hc92)]
          refine Cs (Ka rfl (Ka rfl (Ka rfl (Nt (Ce (Xb ?_))))))
          exact R3 rfl rfl rfl rfl (by rw [hr]; rfl)
         ·(try simp only [sB] at hc92)
          have hr : unmS k x ws = (((prodS k.g [x, k.h] [ofZ 1, negZ (divZ (ws.getD 1 default) (ws.getD 0 default)).1]).1, (ws.getD 0 default).2), 0) := by rw [unmS, if_neg (fun h => h hk4), if_neg (fun h => h hokz), if_neg (fun h => h hg), if_neg (fun h => h hel), if_neg (fun h => h hw2), if_neg hc69, if_neg (by simpa using hc92)]
          refine Ck (Xa (Cq ?_))
          refine Cf [6, 7, 8, 0, 1, 2, 3, 4, 5, 9, 10, 11, 12, 13, 14, 15] [] [0, 0, 0, 0, 0, 3, 1, 0, 1, 3, 1, 0, 0, 0, 0, 0] (by kernel_rfl) (by kernel_rfl) rfl ?_
          refine Jv rfl rfl rfl rfl rfl (fun ext => Oc rfl rfl (Kv fun w hS => zof_c (n := 1) (by omega) (by omega))) ?_
          refine Kj rfl (lda rfl rfl .tc u50 rfl ?_) ?_
          ·kernel_rfl
          refine Jv rfl rfl rfl rfl rfl (fun ext => Oc rfl rfl (Kv fun w hS => zneg_c (x := (divZ (ws.getD 1 default) (ws.getD 0 default)).1))) ?_
          refine Kj rfl (Fa (q := 1) rfl rfl u33 rfl rfl) ?_
          refine Kj rfl (ldp rfl rfl .tc u26 rfl (by kernel_rfl : _ = some 2) (by rfl) (by rfl)) ?_
          refine Kj rfl (Rm rfl rfl) (Kj rfl (Fa (q := 7) rfl rfl u33 rfl rfl) (Kj rfl (Ld rfl rfl .tc u22) ?_))
          refine Jf rfl rfl rfl rfl rfl (fr_bs1 rfl rfl u31 (by kernel_rfl : _ = some (some (.string (S [])), 1, 16)) rfl (by simp only [List.map]; rfl) rfl rfl ?_ (by decide)) ?_
          ·simp [Value.cells]
          intro b99
          refine Jf rfl rfl rfl rfl rfl (fr_bsN rfl rfl u54 (by kernel_rfl : _ = some (some (.agg #[.bool false, .string (S [])]), 2, 24)) (by kernel_rfl) (by decide) rfl rfl (by (simp [Value.cells]; done)) (by (simp only [List.map, Value.cells, List.flatMap_cons, List.flatMap_nil, List.append_nil, List.toList_toArray]; rfl)) (by decide)) ?_
          intro b103
          refine Jv rfl rfl rfl rfl rfl (fun ext => Oc rfl rfl (Kv fun w hS => pproduct_c (g := k.g) (l := [x, k.h]) (es := [ofZ 1, negZ (divZ (ws.getD 1 default) (ws.getD 0 default)).1]) (by (exact hS.os)) (by (exact hS.os)) (by (simp <;> omega)) (by (simp <;> omega)) (by assumption))) ?_
          refine Kj rfl (Rm rfl rfl) (Kj rfl (Re rfl rfl rfl) (Kj rfl (Re rfl rfl rfl) (Kj rfl (Ra rfl rfl) (Kj rfl (Ra rfl rfl) ?_))))
          refine WJ.nil ?_
          refine Nt (Cq ?_)
          refine Cf [0, 1, 2, 3, 4, 5, 6, 7] [] [0, 0, 0, 0, 0, 0, 0, 0] (by kernel_rfl) (by kernel_rfl) rfl ?_
          refine Kj rfl (Rm rfl rfl) (Kj rfl (Rm rfl rfl) ?_)
          refine Kj rfl (Ia rfl rfl rfl u54 (by kernel_rfl : _ = some 2) (by omega) (by (rw [flatMap_len _ _ 2 (fun _ => rfl)]; omega))) ?_
          (refine Kj rfl (faf rfl rfl u50 rfl (by kernel_rfl) (by (try simp only [sN, Int.reduceToNat, Nat.reduceAdd, Nat.reduceMul, Nat.reduceSub]); rfl)) ?_)
          refine Kj rfl (ldmf (l := ws) (f := zc) (sz := 2) 0 1 rfl rfl u22 rfl (fun _ => rfl) rfl hw0 (by decide) rfl) ?_
          refine Kj rfl (Ra rfl rfl) (Kj rfl (Ra rfl rfl) (Kj rfl (Ra rfl rfl) ?_))
          refine WJ.nil ?_
          refine Nt (Ce ?_)
          exact R3 rfl rfl rfl rfl (by rw [hr]; rfl)
theorem same_c {x y : List Zs} {a b : Option Addr} {c d : Nat} {w : World} {ok : Nat → Prop} (hF1 : (Fact.sl a (ints x)).holds ok w) (hF2 : (Fact.sl b (ints y)).holds ok w) (hx : x.length ≤ 100000) :
  Cw 37 #[.slice a x.length c, .slice b y.length d] w (.bool (decide (x = y))) := by
 refine En [Fact.sl a (ints x), Fact.sl b (ints y)] [(0, .slice a x.length c), (1, .slice b y.length d)] Tryz.func37 rfl Tryz.ntmps37 rfl (Ac rfl (Ac rfl (An _))) (Fc (fact_any hF1) (Fc (fact_any hF2) Fn)) ?_
 refine Cs (Ka rfl (Nt (Cq (Cs (Km rfl (Kq rfl (rd_len rfl rfl u54) (Km rfl (Kq rfl (rd_len rfl rfl u54) (Kq rfl (rd_neq rfl rfl rfl) (Nt ?_))))))))))
 refine Cd rfl (fun hc10 => ?_) (fun hc10 => ?_)
 ·(try simp only [sB] at hc10)
  have hne : ¬ x = y := fun h => by rw [h] at hc10; omega
  refine Cs (Ka rfl (Nt (Ce (Xb ?_))))
  exact R1 rfl rfl (by rw [decide_eq_false hne]; rfl)
 ·(try simp only [sB] at hc10)
  have hle : x.length = y.length := by omega
  refine Ck (Xa (Cq (Cs (Ka rfl (Nt (Cb ?_))))))
  refine Lp (σ := Nat) [(0, _), (1, _)] (fun gq => [(5, .int .i64 (gq : Int))]) (fun gq => gq ≤ x.length ∧ x.take gq = y.take gq) (fun gq => x.length - gq) (0) (S2 rfl rfl) (S1 rfl) (by (try dsimp only); exact ⟨Nat.zero_le _, by simp⟩) ?_
  rintro i hinv1; (try dsimp only at hinv1 ⊢)
  obtain ⟨hi, ht⟩ := hinv1
  refine Cq (Cs (Km rfl (Km rfl (Kq rfl (rd_len rfl rfl u54) (Kq rfl (rd_lss rfl rfl rfl) (Nt ?_))))))
  refine Cd rfl (fun hc14 => ?_) (fun hc14 => ?_)
  ·(try simp only [sB] at hc14)
   have hil : i < x.length := by omega
   have hiy : i < y.length := by omega
   have hyt : ∀ l : List Zs, i < l.length → l.take (i + 1) = l.take i ++ [l.getD i default] := fun l h => by
    rw [List.take_add_one, List.getElem?_eq_getElem h, List.getD_eq_getElem?_getD, List.getElem?_eq_getElem h]; rfl
   refine Ck (Xa (Cq (Cb (Cq ?_))))
   refine Cf [0, 1, 2, 3, 4, 5, 6, 7, 8] [] [0, 0, 0, 0, 0, 0, 0, 0, 0] (by kernel_rfl) (by kernel_rfl) rfl ?_
   refine Kj rfl (Rm rfl rfl) (Kj rfl (Rm rfl rfl) ?_)
   refine Kj rfl (Ia rfl rfl rfl u54 (by kernel_rfl : _ = some 2) (by omega) (by (rw [flatMap_len _ _ 2 (fun _ => rfl)]; omega))) ?_
   refine Kj rfl (ldma _ rfl rfl u50 rfl (by kernel_rfl : _ = some 2) (fun _ => rfl) (by decide) rfl (by assumption)) ?_
   refine Kj rfl (Rm rfl rfl) (Kj rfl (Rm rfl rfl) ?_)
   refine Kj rfl (Ia rfl rfl rfl u54 (by kernel_rfl : _ = some 2) (by omega) (by (rw [flatMap_len _ _ 2 (fun _ => rfl)]; omega))) ?_
   refine Kj rfl (ldma _ rfl rfl u50 rfl (by kernel_rfl : _ = some 2) (fun _ => rfl) (by decide) rfl (by assumption)) ?_
   refine Kj rfl (rd_neA rfl rfl rfl (by kernel_rfl) (fun w => eql_api_Int _ _ _ _ w)) ?_
   refine WJ.nil ?_
   refine Nt ?_
   refine Cd rfl (fun hc25 => ?_) (fun hc25 => ?_)
   ·(try simp only [sB] at hc25)
    have hne : ¬ x = y := fun h => by rw [h] at hc25; simp at hc25
    refine Cs (Ka rfl (Nt (Ce (Xf (Xb (Xb (Xf (Xb ?_))))))))
    exact R1 rfl rfl (by rw [decide_eq_false hne]; rfl)
   ·(try simp only [sB] at hc25)
    refine Ck (Xd (Xa (Cg (Km rfl (Kq rfl (Rz rfl rfl rfl (by omega)) (Ka rfl (Nn ?_)))))))
    refine Ly (i + 1) (by (try dsimp only); omega) (S2 rfl rfl) (by refine (Sc ?_ (S0 _)) <;> (rfl)) ?_ (by (exact fun _ h => h))
    (try dsimp only)
    exact ⟨hil, by
     rw [hyt x hil, hyt y hiy, ht]; congr 2; exact Prod.ext_iff.2 (by simpa using hc25)⟩
  ·(try simp only [sB] at hc14)
   refine Cx (Xc (Xc (Xe ?_)))
   obtain rfl : i = x.length := by omega
   have heq : x = y := by rw [List.take_length, hle, List.take_length] at ht; exact ht
   refine Xa (Cs (Ka rfl (Nt (Ce ?_))))
   exact R1 rfl rfl (by rw [decide_eq_true heq]; rfl)
def unmOk (k : IK) (x : Bs) (ws : List Zs) (n : Nat) : Prop := (okN k.g.1 ∧ okN k.g.2 ∧ okN k.h ∧ okN x) ∧ ∀ z ∈ ws.take n, okZ z
instance (k : IK) (x : Bs) (ws : List Zs) (n : Nat) : Decidable (unmOk k x ws n) := inferInstanceAs (Decidable (_ ∧ _))
def shortP (n : Int) (l : List Bs) : Prop := ∀ x ∈ l, (x.length : Int) ≤ n
instance (n : Int) (l : List Bs) : Decidable (shortP n l) := inferInstanceAs (Decidable (∀ x ∈ l, _))
theorem short30_c {n : Int} {l : List Bs} {a : Option Addr} {c : Nat} {w : World} {ok : Nat → Prop} (hF1 : (Fact.sl a (strs l)).holds ok w) (hl : l.length ≤ 140737488351232) :
  Cw 79 #[.int .i64 n, .slice a l.length c] w (.bool (decide (shortP n l))) := by
 refine En [Fact.sl a (strs l)] [(0, .int .i64 n), (1, .slice a l.length c)] Tryz.func79 rfl Tryz.ntmps79 rfl (Ac rfl (Ac rfl (An _))) (Fc (fact_any hF1) Fn) ?_
 refine Cs (Ka rfl (Nt (Cq (Cs (Ka rfl (Nt (Cb ?_)))))))
 refine Lp (σ := Nat) [(0, _), (1, _)] (fun gq => [(5, .int .i64 (gq : Int))]) (fun gq => gq ≤ l.length ∧ ∀ x ∈ l.take gq, (x.length : Int) ≤ n) (fun gq => l.length - gq) (0) (S2 rfl rfl) (S1 rfl) (by (try dsimp only); exact ⟨Nat.zero_le _, by simp⟩) ?_
 rintro i hinv1; (try dsimp only at hinv1 ⊢)
 obtain ⟨hi, hok⟩ := hinv1
 refine Cq (Cs (Km rfl (Km rfl (Kq rfl (rd_len rfl rfl u31) (Kq rfl (rd_lss rfl rfl rfl) (Nt ?_))))))
 refine Cd rfl (fun hc9 => ?_) (fun hc9 => ?_)
 ·(try simp only [sB] at hc9)
  have hil : i < l.length := by omega
  obtain ⟨y, hy⟩ : ∃ y, Keep (y = l.getD i default) := ⟨_, rfl⟩
  refine Ck (Xa (Cq (Cb (Cs (Km rfl (Km rfl ?_))))))
  refine Kq rfl (Ib rfl rfl rfl u31 (by omega) (by (rw [List.length_map]; omega))) ?_
  refine Kq rfl (ldm rfl rfl u22 rfl (by assumption)) ?_
  refine Ns 15 rfl (v' := .string (S (y))) (congrArg (fun l => Value.string (S l)) (by rw [show y = _ from hy])) ?_
  refine Kq rfl (rd_slen rfl rfl u22) (Km rfl (Kq rfl (rd_gtr rfl rfl rfl) (Nt ?_)))
  refine Cd rfl (fun hc18 => ?_) (fun hc18 => ?_)
  ·(try simp only [sB] at hc18)
   have hn : ¬ shortP n l := fun h => by have := h _ (getD_mem l i hil); rw [← show y = _ from hy] at this; omega
   refine Cs (Ka rfl (Nt (Ce (Xf (Xb (Xb (Xf (Xb ?_))))))))
   exact R1 rfl rfl (by rw [decide_eq_false hn]; rfl)
  ·(try simp only [sB] at hc18)
   refine Ck (Xd (Xa (Cg (Km rfl (Kq rfl (Rz rfl rfl rfl (by omega)) (Ka rfl (Nn ?_)))))))
   refine Ly (i + 1) (by (try dsimp only); omega) (S2 rfl rfl) (by refine (Sc ?_ (S0 _)) <;> (rfl)) ?_ (by (exact fun _ h => h))
   (try dsimp only)
   exact ⟨hil, all_take hil hok (by rw [← show y = _ from hy]; omega)⟩
 ·(try simp only [sB] at hc9)
  refine Cx (Xc (Xc (Xe ?_)))
  obtain rfl : i = l.length := by omega
  rw [List.take_length] at hok
  refine Xa (Cs (Ka rfl (Nt (Ce ?_))))
  exact R1 rfl rfl (by rw [decide_eq_true (show shortP n l from hok)]; rfl)
def fewK (k : IK) : Prop := shortP 8 [k.g.1, k.g.2] ∧ shortP 9 [k.z, k.s, k.u, k.h] ∧ (k.r.length : Int) ≤ 6 ∧ shortP 9 k.r ∧ (k.name.length : Int) ≤ 60
instance (k : IK) : Decidable (fewK k) := inferInstanceAs (Decidable (_ ∧ _))
theorem fewkey_c {k : IK} {a : Option Addr} {c : Nat} {w : World} {ok : Nat → Prop} (hF1 : (Fact.sl a (strs k.r)).holds ok w) (hl : k.r.length ≤ 140737488351232) :
  Cw 34 #[ikV k (.slice a k.r.length c)] w (.bool (decide (fewK k))) := by
 refine En [Fact.sl a (strs k.r)] [(0, ikV k (.slice a k.r.length c))] Tryz.func34 rfl Tryz.ntmps34 rfl (Ac rfl (An _)) (Fc (fact_any hF1) Fn) ?_
 refine Cs ?_
 refine Kh rfl (Oy rfl rfl) ?_
 intro b1
 refine Ka rfl (Nt (Cs (Kq rfl (Fa (q := 1) rfl rfl u33 rfl rfl) (Kq rfl (Fa (q := 1) rfl rfl u26 rfl rfl) (Kq rfl (Ld rfl rfl .tc u22) ?_)))))
 refine Kq rfl (Fa (q := 1) rfl rfl u33 rfl rfl) (Kq rfl (Fa (q := 2) rfl rfl u26 rfl rfl) (Kq rfl (Ld rfl rfl .tc u22) ?_))
 refine Kh rfl (og_bs1 rfl rfl u31 (by kernel_rfl : _ = some (some (.string (S [])), 1, 16)) rfl (by simp only [List.map]; rfl) rfl rfl ?_ (by decide)) ?_
 ·simp [Value.cells]
 intro b9
 refine Ku rfl (Oc rfl rfl (Kv fun w hS => short30_c (n := 8) (l := [k.g.1, k.g.2]) (by (exact hS.os)) (by (simp <;> omega)))) ?_
 refine Km rfl ?_
 refine Nb 11 rfl (fun hg11 => ?_) (fun hg11 => ?_)
 ·(try simp only [sB] at hg11)
  refine Kq rfl (Fa (q := 3) rfl rfl u33 rfl rfl) (Kq rfl (Ld rfl rfl .tc u22) ?_)
  refine Kq rfl (Fa (q := 4) rfl rfl u33 rfl rfl) (Kq rfl (Ld rfl rfl .tc u22) ?_)
  refine Kq rfl (Fa (q := 6) rfl rfl u33 rfl rfl) (Kq rfl (Ld rfl rfl .tc u22) ?_)
  refine Kq rfl (Fa (q := 7) rfl rfl u33 rfl rfl) (Kq rfl (Ld rfl rfl .tc u22) ?_)
  refine Kh rfl (og_bs1 rfl rfl u31 (by kernel_rfl : _ = some (some (.string (S [])), 1, 16)) rfl (by simp only [List.map]; rfl) rfl rfl ?_ (by decide)) ?_
  ·simp [Value.cells]
  intro b20
  refine Ku rfl (Oc rfl rfl (Kv fun w hS => short30_c (n := 9) (l := [k.z, k.s, k.u, k.h]) (by (exact hS.os)) (by (simp <;> omega)))) ?_
  refine Kq rfl (Rp rfl rfl rfl) (Km rfl ?_)
  refine Nb 23 rfl (fun hg23 => ?_) (fun hg23 => ?_)
  ·(try simp only [sB] at hg23)
   refine Kq rfl (Fa (q := 5) rfl rfl u33 rfl rfl) (Kq rfl (Ld rfl rfl .tc u31) ?_)
   refine Kq rfl (rd_len rfl rfl u31) (Kq rfl (rd_leq rfl rfl rfl) (Kq rfl (Rp rfl rfl rfl) (Km rfl ?_)))
   refine Nb 29 rfl (fun hg29 => ?_) (fun hg29 => ?_)
   ·(try simp only [sB] at hg29)
    refine Kq rfl (Fa (q := 5) rfl rfl u33 rfl rfl) (Kq rfl (Ld rfl rfl .tc u31) ?_)
    refine Ku rfl (Oc rfl rfl (Kv fun w hS => short30_c (n := 9) (l := k.r) (by (exact hS.sl)) (by assumption))) ?_
    refine Kq rfl (Rp rfl rfl rfl) (Km rfl ?_)
    refine Nb 34 rfl (fun hg34 => ?_) (fun hg34 => ?_)
    ·(try simp only [sB] at hg34)
     refine Kq rfl (Fa (q := 0) rfl rfl u33 rfl rfl) (Kq rfl (Ld rfl rfl .tc u9) ?_)
     refine Kq rfl (rd_slen rfl rfl u9) (Kq rfl (rd_leq rfl rfl rfl) (Kq rfl (Rp rfl rfl rfl) (Ka rfl (Nt (Ce ?_)))))
     exact R1 rfl rfl (by (simp [*, tup, fewK]; done))
    ·(try simp only [sB] at hg34)
     refine Kt rfl (Kt rfl (Kt rfl (Kt rfl (Kq rfl (Rq rfl rfl rfl) (Ka rfl (Nt (Ce ?_)))))))
     exact R1 rfl rfl (by (simp [*, tup, fewK]; done))
   ·(try simp only [sB] at hg29)
    refine Kt rfl (Kt rfl (Kt rfl (Kq rfl (Rq rfl rfl rfl) (Km rfl (Kt rfl (Kt rfl (Kt rfl (Kt rfl (Kq rfl (Rq rfl rfl rfl) (Ka rfl (Nt (Ce ?_))))))))))))
    exact R1 rfl rfl (by (simp [*, tup, fewK]; intros; omega))
  ·(try simp only [sB] at hg23)
   refine Kt rfl (Kt rfl (Kt rfl (Kt rfl (Kq rfl (Rq rfl rfl rfl) (Km rfl (Kt rfl (Kt rfl (Kt rfl (Kq rfl (Rq rfl rfl rfl) (Km rfl (Kt rfl (Kt rfl (Kt rfl (Kt rfl (Kq rfl (Rq rfl rfl rfl) (Ka rfl (Nt (Ce ?_))))))))))))))))))
   exact R1 rfl rfl (by (simp [*, tup, fewK]; done))
 ·(try simp only [sB] at hg11)
  refine Kt rfl (Kt rfl (Kt rfl (Kt rfl (Kt rfl (Kt rfl (Kt rfl (Kt rfl (Kt rfl (Kt rfl (Kq rfl (Rq rfl rfl rfl) (Km rfl (Kt rfl (Kt rfl (Kt rfl (Kt rfl (Kq rfl (Rq rfl rfl rfl) (Km rfl (Kt rfl (Kt rfl (Kt rfl (Kq rfl (Rq rfl rfl rfl) (Km rfl (Kt rfl (Kt rfl (Kt rfl (Kt rfl (Kq rfl (Rq rfl rfl rfl) (Ka rfl (Nt (Ce ?_))))))))))))))))))))))))))))))
  exact R1 rfl rfl (by (simp [*, tup, fewK]; done))
theorem ints_c {l : List Int} {a : Option Addr} {c : Nat} {w : World} {ok : Nat → Prop} (hF1 : (Fact.sl a (l.map fun n => .int .i64 n)).holds ok w) (hl : l.length ≤ 1000) (hr : ∀ n ∈ l, -9223372036854775808 ≤ n ∧ n ≤ 9223372036854775807) :
  Calls Tryz.prog 36 #[.slice a l.length c] w fun e w' => ∃ gx : Rs, e = .returned (gx.val l.length) ∧ (True) ∧ Below w.heap.size w w' ∧ ∀ x ∈ ([Fact.sl gx.a (ints (l.map ofZ))] : List Fact), x.holds (fun b => ok b ∨ w.heap.size ≤ b) w' := by
 refine enter (S := St (fun b => ok b ∨ w.heap.size ≤ b) w [] ([Fact.sl a (l.map fun n => .int .i64 n)])) (L := [(0, .slice a l.length c)]) Tryz.func36 rfl Tryz.ntmps36 rfl (Ac rfl (An _)) (St.start (fun _ h => Or.inr h) (facts_or (Fc hF1 Fn))) ?_
 refine Cs (Ka rfl (Nt (Cs (Ka rfl (Nt (Cq (Cs (Ka rfl (Nt (Cb ?_))))))))))
 refine Lo (σ := Nat × (Option Nat) × Nat × (List Value)) [(0, _)] (fun gq => [(3, .slice (gq.2.1.map fun b => ⟨b, 0, none⟩) gq.1 gq.2.2.1), (4, .int .i64 (gq.1 : Int))]) (fun gq => gq.1 ≤ l.length ∧ gq.2.2.1 * 2 = gq.1 * 2 + gq.2.2.2.length) (fun gq => l.length - gq.1) (fun gq => [⟨gq.2.1, ints ((l.take gq.1).map ofZ) ++ gq.2.2.2, 50⟩]) (fun gq => [Fact.sl a (l.map fun n => .int .i64 n)]) (0, none, 0, []) (S1 rfl) (S2 rfl rfl) (by (try dsimp only); exact ⟨Nat.zero_le _, rfl⟩) (by exact fun w h => h.nil _) ?_
 rintro ⟨i, o, cp, sp⟩ hinv1; (try dsimp only at hinv1 ⊢)
 obtain ⟨hi, hcp⟩ := hinv1
 refine Cq (Cs (Km rfl (Km rfl (Kq rfl (rd_len rfl rfl u140) (Kq rfl (rd_lss rfl rfl rfl) (Nt ?_))))))
 refine Cd rfl (fun hc8 => ?_) (fun hc8 => ?_)
 ·(try simp only [sB] at hc8)
  have hil : i < l.length := by omega
  have hrr := hr _ (getD_mem l i hil)
  have htk : l.take (i + 1) = l.take i ++ [l.getD i default] := by
   rw [List.take_add_one, List.getElem?_eq_getElem hil, List.getD_eq_getElem?_getD, List.getElem?_eq_getElem hil]; rfl
  have hln : (ints ((l.take i).map ofZ)).length = i * 2 := by rw [flatMap_len _ _ 2 (fun _ => rfl), List.length_map, List.length_take]; omega
  refine Ck (Xa (Cq (Cb (Cg (Km rfl (Km rfl (Km rfl ?_)))))))
  refine Kq rfl (Ib rfl rfl rfl u140 (by omega) (by (rw [List.length_map]; omega))) ?_
  refine Kq rfl (ldm rfl rfl u2 rfl (by assumption)) ?_
  refine Ku rfl (Oc rfl rfl (Kv fun w hS => zof_c (n := l.getD i default) (by exact hrr.1) (by exact hrr.2))) ?_
  refine Kh rfl (og_bsN rfl rfl u54 (by kernel_rfl : _ = some (some (.agg #[.bool false, .string (S [])]), 2, 24)) (by kernel_rfl) (by decide) rfl rfl (by (simp [Value.cells]; done)) (by (exact cells_one _)) (by decide)) ?_
  intro b17
  refine Kh rfl (appgN rfl u54 (by kernel_rfl : _ = some (some (.agg #[.bool false, .string (S [])]), 2, 24)) (by kernel_rfl) (by decide) .tc rfl rfl (fun w hS => by (exact hS.os)) (by rfl) (by refine ⟨?_, ?_, ?_, ?_⟩ <;> first | exact hln | omega) (by (simp [Value.oneCell']; done))) ?_
  rintro ⟨o18, c18, s18⟩
  refine WL.pu ?_
  intro hg18; (try dsimp only at hg18 ⊢)
  refine Ka rfl (Nn (Xd (Xa (Cg (Km rfl (Kq rfl (Rz rfl rfl rfl (by omega)) (Ka rfl (Nn ?_))))))))
  refine Lx ((i + 1, o18, c18, s18)) (by (try dsimp only); omega) (S1 rfl) (by refine (Sc ?_ (Sc ?_ (S0 _))) <;> (rfl)) ?_ (by exact fun w h => by rw [htk, List.map_append, show ints ((l.take i).map ofZ ++ [l.getD i default].map ofZ) = ints ((l.take i).map ofZ) ++ zc (ofZ (l.getD i default)) by simp]; exact st_sub _ h)
  (try dsimp only)
  exact ⟨hil, by omega⟩
 ·(try simp only [sB] at hc8)
  refine Cx (Xc (Xc (Xe ?_)))
  obtain rfl : i = l.length := by omega
  rw [List.take_length]
  refine Xa (Cs (Km rfl (Ka rfl (Nt (Ce ?_)))))
  exact Rn rfl (.tmp rfl .nil) fun w' hS => ⟨⟨o, cp, sp⟩, rfl, trivial, hS.below, Fc hS.ock Fn⟩
def keyS : IK := ⟨[], (canon 77, []), [], [], [], [], canon 16⟩
theorem key38_c {w : World} :
  Cw 35 #[] w (ikV keyS (.slice none 0 0)) := by
 refine En [] [] Tryz.func35 rfl Tryz.ntmps35 rfl (An _) Fn ?_
 refine Cs ?_
 refine Kh rfl (Oz [.string (S []), .string (S []), .string (S []), .string (S []), .string (S []), .slice none 0 0, .string (S []), .string (S [])] rfl) ?_
 intro b0
 refine Nt (Cs ?_)
 refine Ku rfl (Oc rfl rfl (Kv fun w hS => of_c (n := 77) (by omega))) ?_
 refine Kq rfl (Kb [[.string (S [])], [.string (S [])]] rfl rfl) ?_
 refine Ku rfl (Oc rfl rfl (Kv fun w hS => of_c (n := 16) (by omega))) ?_
 refine Kq rfl (Kb [[.string (S [])], [.string (S []), .string (S [])], [.string (S [])], [.string (S [])], [.slice none 0 0], [.string (S [])], [.string (S [])]] rfl rfl) ?_
 refine Nu rfl rfl (Sa rfl rfl rfl .tc) ?_
 refine Nt (Ce ?_)
 exact Rn rfl (.agg rfl .tc u33 rfl (by kernel_rfl) .nil) fun w' hS => ⟨by rfl, hS.below⟩
theorem aw_w : witS (canon 7) (canon 3) = ([ofZ 7, ofZ 21], 0) := by decide +kernel
theorem aw_u : unmS keyS (canon 16) [ofZ 7, ofZ 21] = ((canon 37, canon 7), 0) := by decide +kernel
theorem aw_v : unmS keyS (canon 16) [ofZ 7, ofZ 20] = (([], []), 17) := by decide +kernel
theorem awake38_c {w : World} :
  Cw 10 #[] w (.bool true) := by
 refine En [] [] Tryz.func10 rfl Tryz.ntmps10 rfl (An _) Fn ?_
 refine Cs (Ka rfl (Nt (Cs ?_)))
 refine Ku rfl (Oc rfl rfl (Kv fun w hS => of_c (n := 7) (by omega))) ?_
 refine Ku rfl (Oc rfl rfl (Kv fun w hS => of_c (n := 3) (by omega))) ?_
 refine Kh rfl (Oc rfl rfl (keep_f1 (val := fun g => .tuple #[g.val 2, .int .i64 0]) (p := fun g => g.cap = 2 + g.sp.length) (xs := ints [ofZ 7, ofZ 21]) (T := 50) fun w hS => (by have := wit_c (w := w) (u := canon 7) (m := canon 3); rw [aw_w] at this; exact this))) ?_
 intro g12; refine WL.pu ?_; intro hg12
 refine Km rfl (Kq rfl (Re rfl rfl rfl) (Kq rfl (Re rfl rfl rfl) (Ka rfl (Ka rfl (Nt (Cs ?_))))))
 refine Ku rfl (Oc rfl rfl (Kv fun w hS => key38_c)) ?_
 refine Ku rfl (Oc rfl rfl (Kv fun w hS => of_c (n := 16) (by omega))) ?_
 refine Kh rfl (og_bs1 rfl rfl u140 (by kernel_rfl : _ = some (some (.int .i64 0), 1, 8)) rfl (by simp only [List.map]; rfl) rfl rfl ?_ (by decide)) ?_
 ·simp [Value.cells]
 intro b18
 refine WL.st (fun w h => h.freeze (off := 0) (xs := [.int .i64 7, .int .i64 21]) (fun i hi => by rw [Nat.zero_add])) ?_
 refine Kh rfl (Oc rfl rfl (keep_ff fun w hS => ints_c (l := [7, 21]) (by (exact hS.slo)) (by (simp <;> omega)) (by (simp <;> omega)))) ?_
 rintro g19
 refine WL.pu ?_
 intro hg19; (try dsimp only [List.cons_append, List.nil_append] at hg19 ⊢)
 refine Ku rfl (Oc rfl rfl (Kv fun w hS => (by have := unm_c (w := w) (k := keyS) (rv := .slice none 0 0) (x := canon 16) (ws := [ofZ 7, ofZ 21]) (a := g19.a) (c := g19.cap) hS.sl (by decide) (by decide +kernel); rw [aw_u] at this; exact this))) ?_
 refine Km rfl (Kq rfl (Re rfl rfl rfl) (Kq rfl (Re rfl rfl rfl) (Kq rfl (Re rfl rfl rfl) (Ka rfl (Ka rfl (Ka rfl (Nt (Cs ?_))))))))
 refine Ku rfl (Oc rfl rfl (Kv fun w hS => key38_c)) ?_
 refine Ku rfl (Oc rfl rfl (Kv fun w hS => of_c (n := 16) (by omega))) ?_
 refine Kh rfl (og_bs1 rfl rfl u140 (by kernel_rfl : _ = some (some (.int .i64 0), 1, 8)) rfl (by simp only [List.map]; rfl) rfl rfl ?_ (by decide)) ?_
 ·simp [Value.cells]
 intro b27
 refine WL.st (fun w h => h.freeze (off := 0) (xs := [.int .i64 7, .int .i64 20]) (fun i hi => by rw [Nat.zero_add])) ?_
 refine Kh rfl (Oc rfl rfl (keep_ff fun w hS => ints_c (l := [7, 20]) (by (exact hS.slo)) (by (simp <;> omega)) (by (simp <;> omega)))) ?_
 rintro g28
 refine WL.pu ?_
 intro hg28; (try dsimp only [List.cons_append, List.nil_append] at hg28 ⊢)
 refine Ku rfl (Oc rfl rfl (Kv fun w hS => (by have := unm_c (w := w) (k := keyS) (rv := .slice none 0 0) (x := canon 16) (ws := [ofZ 7, ofZ 20]) (a := g28.a) (c := g28.cap) hS.sl (by decide) (by decide +kernel); rw [aw_v] at this; exact this))) ?_
 refine Km rfl (Kq rfl (Re rfl rfl rfl) (Kq rfl (Re rfl rfl rfl) (Kq rfl (Re rfl rfl rfl) (Ka rfl (Ka rfl (Ka rfl (Nt (Cs (Km rfl (Kq rfl (rd_eql rfl rfl rfl) (Km rfl ?_)))))))))))
 refine Ns 35 rfl (v' := .bool true) (by rfl) ?_
 refine Km rfl ?_
 refine Kh rfl (og_bs1 rfl rfl u140 (by kernel_rfl : _ = some (some (.int .i64 0), 1, 8)) rfl (by simp only [List.map]; rfl) rfl rfl ?_ (by decide)) ?_
 ·simp [Value.cells]
 intro b37
 refine WL.st (fun w h => h.freeze (off := 0) (xs := [.int .i64 7, .int .i64 21]) (fun i hi => by rw [Nat.zero_add])) ?_
 refine Kh rfl (Oc rfl rfl (keep_ff fun w hS => ints_c (l := [7, 21]) (by (exact hS.slo)) (by (simp <;> omega)) (by (simp <;> omega)))) ?_
 rintro g38
 refine WL.pu ?_
 intro hg38; (try dsimp only [List.cons_append, List.nil_append] at hg38 ⊢)
 refine Ku rfl (Oc rfl rfl (Kv fun w hS => same_c (x := [ofZ 7, ofZ 21]) (y := [ofZ 7, ofZ 21]) (by (exact hS.sl)) (by (exact hS.sl)) (by (simp <;> omega)))) ?_
 refine Kq rfl (Rp rfl rfl rfl) (Km rfl ?_)
 refine Ns 41 rfl (v' := .bool true) (by rfl) ?_
 refine Km rfl (Kq rfl (rd_eql rfl rfl rfl) (Kq rfl (Rp rfl rfl rfl) (Km rfl ?_)))
 refine Ns 45 rfl (v' := .bool true) (by rfl) ?_
 refine Km rfl ?_
 refine Ku rfl (Oc rfl rfl (Kv fun w hS => of_c (n := 37) (by omega))) ?_
 refine Kq rfl (rd_seq rfl rfl rfl) (Kq rfl (Rp rfl rfl rfl) (Km rfl ?_))
 refine Ns 50 rfl (v' := .bool true) (by rfl) ?_
 refine Km rfl ?_
 refine Ku rfl (Oc rfl rfl (Kv fun w hS => of_c (n := 7) (by omega))) ?_
 refine Kq rfl (rd_seq rfl rfl rfl) (Kq rfl (Rp rfl rfl rfl) (Km rfl ?_))
 refine Ns 55 rfl (v' := .bool true) (by rfl) ?_
 refine Km rfl (Kq rfl (rd_eql rfl rfl rfl) (Kq rfl (Rp rfl rfl rfl) (Ka rfl (Nt (Ce ?_)))))
 exact R1 rfl rfl (by rfl)
end Go.Proofs.YthkmpjobfdeoaaaGreatDoor
namespace Go.Proofs.YthkmpjobfdeoaaaGreatDoor
set_option linter.unusedSimpArgs false
set_option linter.unusedVariables false
set_option maxRecDepth 20000
abbrev W := BitVec 32
def rr (x : W) (n : Nat) : W := x >>> n ||| x <<< (32 - n)
def u32 (x : W) : Value := .int .u32 (x.toNat : Int)
def s0 (x : W) : W := (rr x 7 ^^^ rr x 18) ^^^ x >>> 3
def s1 (y : W) : W := (rr y 17 ^^^ rr y 19) ^^^ y >>> 10
section
variable {ds : List Deferred} {ρ : Option Nat} {P : Program} {o : Oper} {n : Nat} {L : Slots} {Z : World → Prop} {x y : Operand} {t t2 : TypeId} {a b : W}
end
end Go.Proofs.YthkmpjobfdeoaaaGreatDoor
namespace Go.Proofs.YthkmpjobfdeoaaaGreatDoor
open Go.RowKit
set_option linter.unusedSimpArgs false
set_option linter.unusedVariables false
set_option maxHeartbeats 600000
set_option maxRecDepth 20000
end Go.Proofs.YthkmpjobfdeoaaaGreatDoor
