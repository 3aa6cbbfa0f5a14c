/-
  Parts of the walk: Opz Non1 Sin Non2 Non3 Sha Hash1 Hash2.
-/
import Derived.Test.YthkmpjobfdeoaaaGreatDoorJ13
import Derived.SizedLaws
import Derived.Test.YthkmpjobfdeoaaaGreatDoorProg
namespace Go.Proofs.YthkmpjobfdeoaaaGreatDoor
set_option linter.unusedSimpArgs false
set_option linter.unusedVariables false
open Go.ChangeShapes Go.WideShapes Go.ChangeAt Go.RowKit
def Wt {H : Type} (P : Program) (t : TypeId) (d : DataW H) : Prop := ∀ n ∈ d.weights P t, n ≤ 140737488351232
theorem wt_all {H : Type} {P : Program} {ts : List TypeId} {ds : List (DataW H)} (h : (DataW.weightsEach P ts ds).all (· ≤ reachBytes) = true) {j : Nat} {t : TypeId} {d : DataW H} (ht : ts[j]? = some t) (hd : ds[j]? = some d) : Wt P t d := fun n hn => by
 have := List.all_eq_true.1 h n (DataW.weights_mem_each ht hd n hn)
 exact of_decide_eq_true this
theorem weightsAll_mem {H : Type} {P : Program} {e : TypeId} {d : DataW H} {n : Nat} : ∀ {l : List (DataW H)}, d ∈ l → n ∈ d.weights P e → n ∈ DataW.weightsAll P e l
 | [], h, _ => by cases h
 | x :: l, h, hn => by
  simp only [DataW.weightsAll, List.mem_append]
  rcases List.mem_cons.1 h with rfl | h
  ·exact .inl hn
  ·exact .inr (weightsAll_mem h hn)
theorem mapM_get {α β : Type} {f : α → Option β} : ∀ {l : List α} {r : List β}, l.mapM f = some r → ∀ (i : Nat) y, l[i]? = some y → ∃ z, f y = some z ∧ r[i]? = some z
 | [], _, _, i, y, hy => by simp at hy
 | a :: l, r, h, i, y, hy => by
  rw [List.mapM_cons] at h
  cases hf : f a with
  | none => simp [hf] at h
  | some z =>
   cases hr : l.mapM f with
   | none => simp [hf, hr] at h
   | some r' =>
    simp [hf, hr] at h
    subst h
    cases i with
    | zero => simp at hy; subst hy; exact ⟨z, hf, rfl⟩
    | succ i => simp at hy; simpa using mapM_get hr i y hy
theorem mapM_len {α β : Type} {f : α → Option β} : ∀ {l : List α} {r : List β}, l.mapM f = some r → r.length = l.length
 | [], r, h => by simp at h; subst h; rfl
 | a :: l, r, h => by
  rw [List.mapM_cons] at h
  cases hf : f a with
  | none => simp [hf] at h
  | some z =>
   cases hr : l.mapM f with
   | none => simp [hf, hr] at h
   | some r' => simp [hf, hr] at h; subst h; simp [mapM_len hr]
section
variable {H : Type} {enc : TypeId × Value → H} {P : Program} {w : World} {spare : Nat → Bool} {held : Bool} {fuel : Nat} {t e : TypeId} {cs : List Value} {x : DataW H × List MemPlace}
theorem opz_str (ht : P.underlying t = some .string) (h : DataW.trod enc P w 0 spare held fuel t cs = some x) (hz : Wt P t x.1) : ∃ s : List UInt8, cs = [.string (S s)] ∧ s.length ≤ 140737488351232 := by
 cases fuel with
 | zero => simp [DataW.trod] at h
 | succ n =>
  simp only [DataW.trod, ht] at h
  split at h <;> simp_all
  rename_i s
  obtain ⟨h1, rfl⟩ := h
  refine ⟨s.data.toList, (S_data s).symm, hz _ ?_⟩
  simp [DataW.weights]
theorem opz_struct {fs : Array Field} (ht : P.underlying t = some (.struct fs)) (h : DataW.trod enc P w 0 spare held fuel t cs = some x) (hz : Wt P t x.1) :
  cs.length = P.cellsOf t ∧ ∃ m, ∀ (j : Nat) f, fs.toList[j]? = some f → ∃ y, DataW.trod enc P w 0 spare held m f.type ((cs.drop f.offset).take (P.cellsOf f.type)) = some y ∧ Wt P f.type y.1 := by
 cases fuel with
 | zero => simp [DataW.trod] at h
 | succ n =>
  simp only [DataW.trod, ht] at h
  split at h
  ·rename_i hl
   refine ⟨hl, n, fun j f hf => ?_⟩
   obtain ⟨xs, hxs, rfl⟩ := Option.map_eq_some_iff.1 h
   obtain ⟨z, h1, h2⟩ := mapM_get hxs j f hf
   refine ⟨z, h1, fun n hn => hz n ?_⟩
   simp only [DataW.weights, ht]
   exact DataW.weights_mem_each (j := j) (by rw [List.getElem?_map, hf]; rfl) (by rw [List.getElem?_map, h2]; rfl) n hn
  ·cases h
theorem opz_slice {α : Type} [Inhabited α] {cells : α → List Value} {F : α → Prop} (sz bz : Nat) (hbz : P.bytesOf e = bz) (ht : P.underlying t = some (.slice e)) (hc : P.cellsOf e = sz) (hsz : ∀ a, (cells a).length = sz)
  (hel : ∀ m cs (y : DataW H × List MemPlace), DataW.trod enc P w 0 (fun _ => true) held m e cs = some y → Wt P e y.1 → ∃ a : α, cs = cells a ∧ F a) (h : DataW.trod enc P w 0 (fun _ => true) held fuel t cs = some x) (hz : Wt P t x.1) :
  ∃ s : Sl α, cs = [s.val] ∧ s.l.length ≤ s.cap ∧ s.cap * bz ≤ 140737488351232 ∧ (Fact.sl s.a (s.l.flatMap cells)).holds (fun _ => True) w ∧ ∀ y ∈ s.l, F y := by
 cases fuel with
 | zero => simp [DataW.trod] at h
 | succ n =>
  simp only [DataW.trod, ht] at h
  split at h
  all_goals (try (rename_i hq; cases hq; done))
  all_goals (try (cases h; done))
  all_goals (try (rename_i hq _; cases hq; done))
  ·exact ⟨⟨none, [], 0⟩, rfl, Nat.le_refl _, by simp, .inl rfl, by simp⟩
  ·rename_i e' a len cap he
   cases he
   split at h <;> try cases h
   rename_i hb
   obtain ⟨elems, hm, h'⟩ := Option.bind_eq_some_iff.1 h
   simp only [if_true] at h'
   obtain ⟨rest, hr, rfl⟩ := Option.map_eq_some_iff.1 h'
   have hzl : ∀ n ∈ (DataW.slice (elems.map (·.1)) (rest.map (·.1))).weights P t, n ≤ 140737488351232 := hz
   simp only [DataW.weights, ht] at hzl
   have hcb : cap * bz ≤ 140737488351232 := by
    have h1 := hzl _ (List.mem_cons_self)
    have h2 := mapM_len hm
    have h3 := mapM_len hr
    simp only [List.length_map, List.length_range] at h1 h2 h3
    rw [hbz, h2, h3, show len + (cap - len) = cap by omega] at h1
    exact h1
   have hall : ∀ i, i < len → ∃ ys : List Value, w.cells? 0 (a.add (i * sz)) sz = some ys ∧ ∃ q : α, ys = cells q ∧ F q := fun i hi => by
    obtain ⟨z, hz1, hz2⟩ := mapM_get hm i i (List.getElem?_range hi)
    obtain ⟨ys, h1, h2⟩ := Option.bind_eq_some_iff.1 hz1
    rw [hc] at h1
    obtain ⟨q, hq, hF⟩ := hel _ _ _ h2 (fun n hn => hzl n (List.mem_cons_of_mem _ (List.mem_append_left _ (weightsAll_mem (List.mem_map.2 ⟨z, List.mem_of_getElem? hz2, rfl⟩) hn))))
    exact ⟨ys, h1, q, hq, hF⟩
   have hlist : ∀ k, k ≤ len → ∃ l : List α, l.length = k ∧ (∀ y ∈ l, F y) ∧ ∀ i, i < k → w.cells? 0 (a.add (i * sz)) sz = some (cells (l.getD i default)) := by
    intro k
    induction k with
    | zero => intro _; exact ⟨[], rfl, by simp, fun i hi => by omega⟩
    | succ k ih =>
     intro hk
     obtain ⟨l, h1, h2, h3⟩ := ih (by omega)
     obtain ⟨ys, hy, q, rfl, hF⟩ := hall k (by omega)
     refine ⟨l ++ [q], by simp [h1], fun y hy' => ?_, fun i hi => ?_⟩
     ·rcases List.mem_append.1 hy' with h | h
      ·exact h2 y h
      ·simp at h; subst h; exact hF
     ·by_cases hik : i = k
      ·subst hik; rw [hy]; simp [List.getD, ← h1]
      ·rw [h3 i (by omega)]; simp only [List.getD]; rw [List.getElem?_append_left (by omega)]
   obtain ⟨l, h1, h2, h3⟩ := hlist len (Nat.le_refl _)
   refine ⟨⟨some a, l, cap⟩, by simp [h1], by simp [h1]; exact hb.2.1, hcb, slfact_of fun i v hv => ?_, h2⟩
   have hlen := flatMap_len l cells sz hsz
   have hi : i < l.length * sz := by rw [← hlen]; exact (List.getElem?_eq_some_iff.1 hv).1
   have hs0 : 0 < sz := by rcases Nat.eq_zero_or_pos sz with h0 | h0; · subst h0; omega
                           ·exact h0
   have hj : i / sz < l.length := Nat.div_lt_of_lt_mul (by rw [Nat.mul_comm]; exact hi)
   obtain ⟨_, h5⟩ := cells?_get (h3 (i / sz) (by omega))
   have h6 := h5 (i % sz) v (by
    rw [← flatMap_at l cells sz hsz (i / sz) hj, List.getElem?_take, if_pos (Nat.mod_lt _ hs0), List.getElem?_drop, Nat.mul_comm, Nat.div_add_mod]; exact hv)
   have e1 : (a.add (i / sz * sz)).add (i % sz) = a.add i := by
    have h7 : i / sz * sz + i % sz = i := by rw [Nat.mul_comm]; exact Nat.div_add_mod i sz
    have h8 : ∀ p q : Nat, (a.add p).add q = a.add (p + q) := fun p q => by by_cases hp : p = 0 <;> by_cases hq : q = 0 <;> simp [Addr.add, hp, hq, Nat.add_assoc]
    rw [h8, h7]
   rw [e1] at h6; exact h6
end
end Go.Proofs.YthkmpjobfdeoaaaGreatDoor
namespace Go.Proofs.YthkmpjobfdeoaaaGreatDoor
open Go.RowKit
set_option linter.unusedSimpArgs false
set_option linter.unusedVariables false
set_option maxHeartbeats 600000
set_option maxRecDepth 20000
theorem new_nil {w w' : World} {T : TypeId} {fs : List Fact} {ok : Nat → Prop} (h : St ok w [] fs w') : St ok w [⟨none, [] ++ [], T⟩] [] w' := (h.nil T).sub (List.Sublist.refl _) (fun _ h => by cases h)
theorem wit_c {u m : Bs} {w : World} :
  Calls Tryz.prog 31 #[.string (S u), .string (S m)] w fun e w' => ∃ g : Rs, e = .returned (.tuple #[g.val (witS u m).1.length, .int .i64 (witS u m).2]) ∧ g.cap = (witS u m).1.length + g.sp.length ∧ St (fun _ => True) w [g.ent (ints (witS u m).1) 50] [] w' := by
 refine En [] [(0, .string (S u)), (1, .string (S m))] Tryz.func31 rfl Tryz.ntmps31 rfl (Ac rfl (Ac rfl (An _))) Fn ?_
 refine Cs (Ka rfl (Ka rfl (Nt (Cq ?_))))
 refine WC.joinP (σ := Unit) [(0, _), (1, _)] (fun gq => [(15, .bool (decide (¬ (okN u ∧ okN m))))]) (fun gq => True) (S2 rfl rfl) ?_ ?_
 ·skip
  refine Cg (Km rfl ?_)
  refine Ku rfl (Oc rfl rfl (Kv fun w hS => valid_c (a := u))) ?_
  refine Kq rfl (Rt rfl rfl) (Km rfl ?_)
  refine Nb 11 rfl (fun hg11 => ?_) (fun hg11 => ?_)
  ·(try simp only [sB] at hg11)
   refine Kt rfl (Kt rfl (Kt rfl (Kq rfl (Rp rfl rfl rfl) (Nn ?_))))
   refine WX.joinP (()) (S2 rfl rfl) (by refine (Sc ?_ (S0 _)) <;> ((refine slot_b rfl ?_; (try dsimp only); (simp [*]; done)))) ?_ (by (exact fun _ h => h))
   (try dsimp only)
   done
  ·(try simp only [sB] at hg11)
   refine Km rfl ?_
   refine Ku rfl (Oc rfl rfl (Kv fun w hS => valid_c (a := m))) ?_
   refine Kq rfl (Rt rfl rfl) (Kq rfl (Rq rfl rfl rfl) (Nn ?_))
   refine WX.joinP (()) (S2 rfl rfl) (by refine (Sc ?_ (S0 _)) <;> ((refine slot_b rfl ?_; (try dsimp only); (simp [*]; done)))) ?_ (by (exact fun _ h => h))
   (try dsimp only)
   done
 ·rintro _ hmeet; (try dsimp only at hmeet ⊢)
  refine Cd rfl (fun hc15 => ?_) (fun hc15 => ?_)
  ·(try simp only [sB] at hc15)
   have hr : witS u m = ([], 3) := by rw [witS, if_neg hc15]
   refine Cs (Ka rfl (Ka rfl (Nt (Ce (Xb ?_)))))
   exact Rn rfl (.tmp rfl (.tmp rfl .nil)) fun w' hS => ⟨⟨none, 0, []⟩, by rw [hr]; rfl, by rw [hr]; rfl, by rw [hr]; exact new_nil hS⟩
  ·(try simp only [sB] at hc15)
   have hok : okN u ∧ okN m := by simpa using hc15
   refine Ck (Xa (Cs (Km rfl (Km rfl ?_))))
   refine Ku rfl (Oc rfl rfl (Kv fun w hS => mul_c (a := u) (b := m))) ?_
   refine Km rfl (Kq rfl (Re rfl rfl rfl) (Kq rfl (Re rfl rfl rfl) (Ka rfl (Ka rfl (Nt (Cq (Cs (Km rfl (Kq rfl (rd_neq rfl rfl rfl) (Nt ?_))))))))))
   refine Cd rfl (fun hc23 => ?_) (fun hc23 => ?_)
   ·(try simp only [sB] at hc23)
    have hr : witS u m = ([], (mulN u m).2) := by rw [witS, if_pos hok, if_neg (by simpa using hc23)]
    refine Cs (Km rfl (Ka rfl (Ka rfl (Nt (Ce (Xb ?_))))))
    exact Rn rfl (.tmp rfl (.tmp rfl .nil)) fun w' hS => ⟨⟨none, 0, []⟩, by rw [hr]; rfl, by rw [hr]; rfl, by rw [hr]; exact new_nil hS⟩
   ·(try simp only [sB] at hc23)
    have h0 : (mulN u m).2 = 0 := by simpa using hc23
    have hr : witS u m = ([fromZ u, fromZ (mulN u m).1], 0) := by rw [witS, if_pos hok, if_pos h0]
    refine Ck (Xa (Cs (Km rfl ?_)))
    refine Ku rfl (Oc rfl rfl (Kv fun w hS => zfrom_c (a := u))) ?_
    refine Km rfl ?_
    refine Ku rfl (Oc rfl rfl (Kv fun w hS => zfrom_c (a := (mulN u m).1))) ?_
    refine Kh rfl (og_bsN rfl rfl u54 (by kernel_rfl : _ = some (some (.agg #[.bool false, .string (S [])]), 2, 24)) (by kernel_rfl) (by decide) rfl rfl (by (simp [Value.cells]; done)) (by (simp only [List.map, Value.cells, List.flatMap_cons, List.flatMap_nil, List.append_nil, List.toList_toArray]; rfl)) (by decide)) ?_
    intro b29
    refine Ka rfl (Ka rfl (Nt (Ce ?_)))
    exact Rn rfl (.tmp rfl (.tmp rfl .nil)) fun w' hS => ⟨⟨some b29, 2, []⟩, by rw [hr]; rfl, by rw [hr]; rfl, by rw [hr]; exact hS⟩
theorem unm_c {k : IK} {rv : Value} {x : Bs} {ws : List Zs} {a : Option Addr} {c : Nat} {w : World} {ok : Nat → Prop} (hF1 : (Fact.sl a (ints ws)).holds ok w) (hw : ws.length ≤ 100000) (hm8 : k.g.1.length ≤ 8) :
  Cw 19 #[ikV k rv, .string (S x), .slice a ws.length c] w (DE (unmS k x ws)) := by
 have h4 : (okN k.g.1 ∧ okN k.g.2 ∧ okN k.h ∧ okN x) ↔ ∀ y ∈ [k.g.1, k.g.2, k.h, x], okN y := by simp
 refine En [Fact.sl a (ints ws)] [(0, ikV k rv), (1, .string (S x)), (2, .slice a ws.length c)] Tryz.func19 rfl Tryz.ntmps19 rfl (Ac rfl (Ac rfl (Ac rfl (An _)))) (Fc (fact_any hF1) Fn) ?_
 refine Cs ?_
 refine Kh rfl (Oy rfl rfl) ?_
 intro b3
 refine Ka rfl (Ka rfl (Ka rfl (Nt (Cq (Cs (Kq rfl (Fa (q := 1) rfl rfl u33 rfl rfl) (Kq rfl (Fa (q := 1) rfl rfl u26 rfl rfl) (Kq rfl (Ld rfl rfl .tc u22) ?_))))))))
 refine Kq rfl (Fa (q := 1) rfl rfl u33 rfl rfl) (Kq rfl (Fa (q := 2) rfl rfl u26 rfl rfl) (Kq rfl (Ld rfl rfl .tc u22) ?_))
 refine Kq rfl (Fa (q := 7) rfl rfl u33 rfl rfl) (Kq rfl (Ld rfl rfl .tc u22) ?_)
 refine Km rfl (Kq rfl (Kb [[.string (S [])], [.string (S [])], [.string (S [])], [.string (S [])]] rfl rfl) (Km rfl (Nt (Cb ?_))))
 refine Lp (σ := Nat) [(1, _), (2, _), (3, _), (27, _)] (fun gq => [(28, .int .i64 (gq : Int))]) (fun gq => gq ≤ 4 ∧ ∀ y ∈ [k.g.1, k.g.2, k.h, x].take gq, okN y) (fun gq => 4 - gq) (0) (S4 rfl rfl rfl rfl) (S1 rfl) (by (try dsimp only); exact ⟨Nat.zero_le _, by simp⟩) ?_
 rintro i hinv1; (try dsimp only at hinv1 ⊢)
 obtain ⟨hi, hok⟩ := hinv1
 refine Cs (Kq rfl (rd_lss rfl rfl rfl) (Nt (Cq ?_)))
 refine Cd rfl (fun hc29 => ?_) (fun hc29 => ?_)
 ·(try simp only [sB] at hc29)
  have hil : i < [k.g.1, k.g.2, k.h, x].length := by show i < 4; omega
  refine Ck (Xa (Cq (Cb (Cs ?_))))
  refine Kq rfl (rd_aidx rfl rfl rfl u115 u22 rfl (by kernel_rfl) ?_ (by rw [Int.toNat_natCast]; exact map_getD [k.g.1, k.g.2, k.h, x] (fun s : Bs => Value.string (S s)) i hil)) ?_
  ·omega
  refine Ka rfl (Nt (Cs (Km rfl ?_)))
  refine Ku rfl (Oc rfl rfl (Kv fun w hS => valid_c (a := [k.g.1, k.g.2, k.h, x].getD i default))) ?_
  refine Kq rfl (Rt rfl rfl) (Nt ?_)
  refine Cd rfl (fun hc33 => ?_) (fun hc33 => ?_)
  ·(try simp only [sB] at hc33)
   refine Cs (Ka rfl (Ka rfl (Ka rfl (Nt (Ce (Xf (Xb (Xb (Xf (Xb ?_))))))))))
   exact R3 rfl rfl rfl rfl (by rw [unmS, if_pos (fun h => absurd (h4.1 h _ (getD_mem _ _ hil)) (by simpa using hc33))]; rfl)
  ·(try simp only [sB] at hc33)
   refine Ck (Xd (Xa (Cg (Kq rfl (Rz rfl rfl rfl (by omega)) (Km rfl (Nn ?_))))))
   refine Ly (i + 1) (by (try dsimp only); omega) (S4 rfl rfl rfl rfl) (by refine (Sc ?_ (S0 _)) <;> (rfl)) ?_ (by (exact fun _ h => h))
   (try dsimp only)
   exact ⟨hil, all_take hil hok (by simpa using hc33)⟩
 ·(try simp only [sB] at hc29)
  refine Cx (Xc (Xc (Xe ?_)))
  obtain rfl : i = 4 := by omega
  have hk4 := h4.2 hok
  clear hok
  refine Xa (Cq (Cs (Km rfl (Kq rfl (rd_len rfl rfl u54) (Km rfl (Nt (Cb ?_)))))))
  refine Lo (σ := Nat) [(1, _), (2, _), (3, _), (35, _), (36, _)] (fun gq => [(37, .int .i64 (gq : Int))]) (fun gq => gq ≤ ws.length ∧ ∀ z ∈ ws.take gq, okZ z) (fun gq => ws.length - gq) (fun gq => [⟨some b3, [.string (S k.name), .string (S k.g.1), .string (S k.g.2), .string (S k.z), .string (S k.s), rv, .string (S k.u), .string (S k.h)], 33⟩]) (fun gq => [Fact.sl a (ints ws)]) (0) (S5 rfl rfl rfl rfl rfl) (S1 rfl) (by (try dsimp only); exact ⟨Nat.zero_le _, by simp⟩) (by (exact fun _ h => h)) ?_
  rintro n hinv2; (try dsimp only at hinv2 ⊢)
  obtain ⟨hn, hokz⟩ := hinv2
  refine Cs (Kq rfl (rd_lss rfl rfl rfl) (Nt (Cq ?_)))
  refine Cd rfl (fun hc38 => ?_) (fun hc38 => ?_)
  ·(try simp only [sB] at hc38)
   have hnl : n < ws.length := by omega
   refine Ck (Xa (Cq (Cb (Cs ?_))))
   refine Kq rfl (Ia rfl rfl rfl u54 (by kernel_rfl : _ = some 2) (by omega) (by (rw [flatMap_len _ _ 2 (fun _ => rfl)]; omega))) ?_
   refine Kq rfl (ldma _ rfl rfl u50 rfl (by kernel_rfl : _ = some 2) (fun _ => rfl) (by decide) rfl (by assumption)) ?_
   refine Kh rfl (Oz [.bool false, .string (S [])] rfl) ?_
   intro b12
   refine Nu rfl rfl (Sa rfl rfl rfl .tc) ?_
   refine Nt (Cs ?_)
   refine Kq rfl (lda rfl rfl .tc u50 rfl ?_) ?_
   ·kernel_rfl
   refine Ku rfl (Oc rfl rfl (Kv fun w hS => zvalid_c (x := ws.getD n default))) ?_
   refine Kq rfl (Rt rfl rfl) (Nt ?_)
   refine Cd rfl (fun hc43 => ?_) (fun hc43 => ?_)
   ·(try simp only [sB] at hc43)
    refine Cs (Ka rfl (Ka rfl (Ka rfl (Nt (Ce (Xf (Xb (Xb (Xf (Xb ?_))))))))))
    exact R3 rfl rfl rfl rfl (by rw [unmS, if_neg (fun h => h hk4), if_pos (fun h => absurd (h _ (getD_mem _ _ hnl)) (by simpa using hc43))]; rfl)
   ·(try simp only [sB] at hc43)
    refine Ck (Xd (Xa (Cg (Kq rfl (Rz rfl rfl rfl (by omega)) (Km rfl (Nn ?_))))))
    refine Lx (n + 1) (by (try dsimp only); omega) (S5 rfl rfl rfl rfl rfl) (by refine (Sc ?_ (S0 _)) <;> (rfl)) ?_ (by (exact st_sub))
    (try dsimp only)
    exact ⟨hnl, all_take hnl hokz (by simpa using hc43)⟩
  ·(try simp only [sB] at hc38)
   refine Cx (Xc (Xc (Xe ?_)))
   obtain rfl : n = ws.length := by omega
   rw [List.take_length] at hokz
   refine Xa (Cq (Cs (Kq rfl (Fa (q := 1) rfl rfl u33 rfl rfl) ?_)))
   refine Kq rfl (ldp rfl rfl .tc u26 rfl (by kernel_rfl : _ = some 2) (by rfl) (by rfl)) ?_
   refine Ku rfl (Oc rfl rfl (Kv fun w hS => pcheck_c (g := k.g))) ?_
   refine Ka rfl (Nt (Cs (Km rfl (Kq rfl (rd_neq rfl rfl rfl) (Nt ?_)))))
   refine Cd rfl (fun hc49 => ?_) (fun hc49 => ?_)
   ·(try simp only [sB] at hc49)
    refine Cs (Km rfl (Ka rfl (Ka rfl (Ka rfl (Nt (Ce (Xb ?_)))))))
    exact R3 rfl rfl rfl rfl (by rw [unmS, if_neg (fun h => h hk4), if_neg (fun h => h hokz), if_pos (by simpa using hc49)]; rfl)
   ·(try simp only [sB] at hc49)
    have hg : chkG k.g = 0 := by simpa using hc49
    refine Ck (Xa (Cq (Cb ?_)))
    refine WC.joinP (σ := Unit) [(1, _), (2, _), (3, _)] (fun gq => [(51, .bool (decide (¬ (elG k.g k.h ∧ elG k.g x))))]) (fun gq => True) (S3 rfl rfl rfl) ?_ ?_
    ·skip
     refine Cg (Kq rfl (Fa (q := 1) rfl rfl u33 rfl rfl) ?_)
     refine Kq rfl (ldp rfl rfl .tc u26 rfl (by kernel_rfl : _ = some 2) (by rfl) (by rfl)) ?_
     refine Kq rfl (Fa (q := 7) rfl rfl u33 rfl rfl) (Kq rfl (Ld rfl rfl .tc u22) ?_)
     refine Ku rfl (Oc rfl rfl (Kv fun w hS => pwhas_c (g := k.g) (x := k.h) (by assumption))) ?_
     refine Ns 56 rfl (v' := .bool (decide (elG k.g k.h))) (congrArg Value.bool (by simp [hg])) ?_
     refine Kq rfl (Rt rfl rfl) (Km rfl ?_)
     refine Nb 58 rfl (fun hg58 => ?_) (fun hg58 => ?_)
     ·(try simp only [sB] at hg58)
      refine Kt rfl (Kt rfl (Kt rfl (Kt rfl (Kt rfl (Kq rfl (Rp rfl rfl rfl) (Ka rfl (Nn ?_)))))))
      refine WX.joinP (()) (S3 rfl rfl rfl) (by refine (Sc ?_ (S0 _)) <;> ((refine slot_b rfl ?_; (try dsimp only); (simp [*]; done)))) ?_ (by (exact fun _ h => h))
      (try dsimp only)
      done
     ·(try simp only [sB] at hg58)
      refine Kq rfl (Fa (q := 1) rfl rfl u33 rfl rfl) ?_
      refine Kq rfl (ldp rfl rfl .tc u26 rfl (by kernel_rfl : _ = some 2) (by rfl) (by rfl)) ?_
      refine Km rfl ?_
      refine Ku rfl (Oc rfl rfl (Kv fun w hS => pwhas_c (g := k.g) (x := x) (by assumption))) ?_
      refine Ns 62 rfl (v' := .bool (decide (elG k.g x))) (congrArg Value.bool (by simp [hg])) ?_
      refine Kq rfl (Rt rfl rfl) (Kq rfl (Rq rfl rfl rfl) (Ka rfl (Nn ?_)))
      refine WX.joinP (()) (S3 rfl rfl rfl) (by refine (Sc ?_ (S0 _)) <;> ((refine slot_b rfl ?_; (try dsimp only); (simp [*]; done)))) ?_ (by (exact fun _ h => h))
      (try dsimp only)
      done
    ·rintro _ hmeet; (try dsimp only at hmeet ⊢)
     refine Cd rfl (fun hc51 => ?_) (fun hc51 => ?_)
     ·(try simp only [sB] at hc51)
      refine Cs (Ka rfl (Ka rfl (Ka rfl (Nt (Ce (Xf (Xb ?_)))))))
      exact R3 rfl rfl rfl rfl (by rw [unmS, if_neg (fun h => h hk4), if_neg (fun h => h hokz), if_neg (fun h => h hg), if_pos hc51]; rfl)
     ·(try simp only [sB] at hc51)
      have hel : elG k.g k.h ∧ elG k.g x := Decidable.not_not.1 hc51
      refine Cs (Km rfl (Kq rfl (rd_len rfl rfl u54) (Kq rfl (rd_neq rfl rfl rfl) (Ka rfl (Nt ?_)))))
      refine Cd rfl (fun hc65 => ?_) (fun hc65 => ?_)
      ·(try simp only [sB] at hc65)
       refine Cs (Ka rfl (Ka rfl (Ka rfl (Nt (Ce (Xf (Xb ?_)))))))
       exact R3 rfl rfl rfl rfl (by rw [unmS, if_neg (fun h => h hk4), if_neg (fun h => h hokz), if_neg (fun h => h hg), if_neg (fun h => h hel), if_pos (by omega)]; rfl)
      ·(try simp only [sB] at hc65)
       have hw2 : ws.length = 2 := by omega
       have hw0 : 0 < ws.length := by omega
       have hw1 : 1 < ws.length := by omega
       obtain ⟨z0, hz0⟩ : ∃ z, Keep (z = ws.getD 0 default) := ⟨_, rfl⟩
       refine WC.joinP (σ := Unit) [(1, _), (2, _), (3, _)] (fun gq => [(69, .bool (decide (z0.1 = true ∨ z0.2 = [])))]) (fun gq => True) (S3 rfl rfl rfl) ?_ ?_
       ·skip
        refine Cg (Km rfl ?_)
        refine Kq rfl (Ia rfl rfl rfl u54 (by kernel_rfl : _ = some 2) (by omega) (by (rw [flatMap_len _ _ 2 (fun _ => rfl)]; omega))) ?_
        (refine Kq rfl (faf rfl rfl u50 rfl (by kernel_rfl) (by (try simp only [sN, Int.reduceToNat, Nat.reduceAdd, Nat.reduceMul, Nat.reduceSub]); rfl)) ?_)
        refine Kq rfl (ldmf (l := ws) (f := zc) (sz := 2) 0 0 rfl rfl u4 rfl (fun _ => rfl) rfl hw0 (by decide) rfl) ?_
        refine Ns 73 rfl (v' := .bool (z0.1)) (congrArg Value.bool (by rw [show z0 = _ from hz0])) ?_
        refine Km rfl ?_
        refine Nb 74 rfl (fun hg74 => ?_) (fun hg74 => ?_)
        ·(try simp only [sB] at hg74)
         refine Kt rfl (Kt rfl (Kt rfl (Kt rfl (Kt rfl (Kq rfl (Rp rfl rfl rfl) (Ka rfl (Nn ?_)))))))
         refine WX.joinP (()) (S3 rfl rfl rfl) (by refine (Sc ?_ (S0 _)) <;> ((refine slot_b rfl ?_; (try dsimp only); (simp [*]; done)))) ?_ (by (exact fun _ h => h))
         (try dsimp only)
         done
        ·(try simp only [sB] at hg74)
         refine Km rfl ?_
         refine Kq rfl (Ia rfl rfl rfl u54 (by kernel_rfl : _ = some 2) (by omega) (by (rw [flatMap_len _ _ 2 (fun _ => rfl)]; omega))) ?_
         (refine Kq rfl (faf rfl rfl u50 rfl (by kernel_rfl) (by (try simp only [sN, Int.reduceToNat, Nat.reduceAdd, Nat.reduceMul, Nat.reduceSub]); rfl)) ?_)
         refine Kq rfl (ldmf (l := ws) (f := zc) (sz := 2) 0 1 rfl rfl u22 rfl (fun _ => rfl) rfl hw0 (by decide) rfl) ?_
         refine Ns 78 rfl (v' := .string (S (z0.2))) (congrArg (fun l => Value.string (S l)) (by rw [show z0 = _ from hz0])) ?_
         refine Kq rfl (rd_seq rfl rfl rfl) (Kq rfl (Rq rfl rfl rfl) (Ka rfl (Nn ?_)))
         refine WX.joinP (()) (S3 rfl rfl rfl) (by refine (Sc ?_ (S0 _)) <;> ((refine slot_b rfl ?_; (try dsimp only); (simp [*]; done)))) ?_ (by (exact fun _ h => h))
         (try dsimp only)
         done
       ·rintro _ hmeet; (try dsimp only at hmeet ⊢)
        refine Cd rfl (fun hc69 => ?_) (fun hc69 => ?_)
        ·(try simp only [sB] at hc69)
         rw [show z0 = _ from hz0] at hc69
         refine Cs (Ka rfl (Ka rfl (Ka rfl (Nt (Ce (Xf (Xb ?_)))))))
         exact R3 rfl rfl rfl rfl (by rw [unmS, if_neg (fun h => h hk4), if_neg (fun h => h hokz), if_neg (fun h => h hg), if_neg (fun h => h hel), if_neg (fun h => h hw2), if_pos hc69]; rfl)
        ·(try simp only [sB] at hc69)
         rw [show z0 = _ from hz0] at hc69
         refine Ck (Xd (Xa (Cq ?_)))
         refine Cf [0, 1, 2, 3, 4, 5, 6, 7, 8, 10, 11, 9, 12] [] [0, 0, 0, 0, 0, 0, 1, 0, 0, 0, 3, 1, 0] (by kernel_rfl) (by kernel_rfl) rfl ?_
         refine Kj rfl (Rm rfl rfl) ?_
         refine Kj rfl (Ia rfl rfl rfl u54 (by kernel_rfl : _ = some 2) (by omega) (by (rw [flatMap_len _ _ 2 (fun _ => rfl)]; omega))) ?_
         refine Kj rfl (ldma (l := ws) (f := zc) (sz := 2) 1 rfl rfl u50 rfl (by kernel_rfl : _ = some 2) (fun _ => rfl) (by decide) rfl hw1) ?_
         refine Kj rfl (Rm rfl rfl) ?_
         refine Kj rfl (Ia rfl rfl rfl u54 (by kernel_rfl : _ = some 2) (by omega) (by (rw [flatMap_len _ _ 2 (fun _ => rfl)]; omega))) ?_
         refine Kj rfl (ldma (l := ws) (f := zc) (sz := 2) 0 rfl rfl u50 rfl (by kernel_rfl : _ = some 2) (fun _ => rfl) (by decide) rfl hw0) ?_
         refine Jv rfl rfl rfl rfl rfl (fun ext => Oc rfl rfl (Kv fun w hS => zdivide_c (x := ws.getD 1 default) (y := ws.getD 0 default))) ?_
         refine Kj rfl (Rm rfl rfl) (Kj rfl (Re rfl rfl rfl) ?_)
         refine Jf rfl rfl rfl rfl rfl (fr_alloc rfl (v := (.agg #[.bool false, .string (S [])])) (cs := [.bool false, .string (S [])]) (by kernel_rfl) rfl) ?_
         intro b14
         refine WJ.st rfl rfl rfl rfl (staJ rfl rfl rfl ?_ ?_ ?_) ?_
         ·kernel_rfl
         ·simp [Value.oneCell']
         ·rfl
         refine Kj rfl (Re rfl rfl rfl) (Kj rfl (Ra rfl rfl) ?_)
         refine WJ.nil ?_
         refine Nt (Cq (Cs (Km rfl (Kq rfl (rd_neq rfl rfl rfl) (Nt ?_)))))
         refine Cd rfl (fun hc92 => ?_) (fun hc92 => ?_)
         ·(try simp only [sB] at hc92)
          have hr : unmS k x ws = (([], []), 17) := by rw [unmS, if_neg (fun h => h hk4), if_neg (fun h => h hokz), if_neg (fun h => h hg), if_neg (fun h => h hel), if_neg (fun h => h hw2), if_neg hc69, if_pos (by simpa using hc92)]
          refine Cs (Ka rfl (Ka rfl (Ka rfl (Nt (Ce (Xb ?_))))))
          exact R3 rfl rfl rfl rfl (by rw [hr]; rfl)
         ·(try simp only [sB] at hc92)
          have hr : unmS k x ws = (((prodS k.g [x, k.h] [ofZ 1, negZ (divZ (ws.getD 1 default) (ws.getD 0 default)).1]).1, (ws.getD 0 default).2), 0) := by rw [unmS, if_neg (fun h => h hk4), if_neg (fun h => h hokz), if_neg (fun h => h hg), if_neg (fun h => h hel), if_neg (fun h => h hw2), if_neg hc69, if_neg (by simpa using hc92)]
          refine Ck (Xa (Cq ?_))
          refine Cf [6, 7, 8, 0, 1, 2, 3, 4, 5, 9, 10, 11, 12, 13, 14, 15] [] [0, 0, 0, 0, 0, 3, 1, 0, 1, 3, 1, 0, 0, 0, 0, 0] (by kernel_rfl) (by kernel_rfl) rfl ?_
          refine Jv rfl rfl rfl rfl rfl (fun ext => Oc rfl rfl (Kv fun w hS => zof_c (n := 1) (by omega) (by omega))) ?_
          refine Kj rfl (lda rfl rfl .tc u50 rfl ?_) ?_
          ·kernel_rfl
          refine Jv rfl rfl rfl rfl rfl (fun ext => Oc rfl rfl (Kv fun w hS => zneg_c (x := (divZ (ws.getD 1 default) (ws.getD 0 default)).1))) ?_
          refine Kj rfl (Fa (q := 1) rfl rfl u33 rfl rfl) ?_
          refine Kj rfl (ldp rfl rfl .tc u26 rfl (by kernel_rfl : _ = some 2) (by rfl) (by rfl)) ?_
          refine Kj rfl (Rm rfl rfl) (Kj rfl (Fa (q := 7) rfl rfl u33 rfl rfl) (Kj rfl (Ld rfl rfl .tc u22) ?_))
          refine Jf rfl rfl rfl rfl rfl (fr_bs1 rfl rfl u31 (by kernel_rfl : _ = some (some (.string (S [])), 1, 16)) rfl (by simp only [List.map]; rfl) rfl rfl ?_ (by decide)) ?_
          ·simp [Value.cells]
          intro b99
          refine Jf rfl rfl rfl rfl rfl (fr_bsN rfl rfl u54 (by kernel_rfl : _ = some (some (.agg #[.bool false, .string (S [])]), 2, 24)) (by kernel_rfl) (by decide) rfl rfl (by (simp [Value.cells]; done)) (by (simp only [List.map, Value.cells, List.flatMap_cons, List.flatMap_nil, List.append_nil, List.toList_toArray]; rfl)) (by decide)) ?_
          intro b103
          refine Jv rfl rfl rfl rfl rfl (fun ext => Oc rfl rfl (Kv fun w hS => pproduct_c (g := k.g) (l := [x, k.h]) (es := [ofZ 1, negZ (divZ (ws.getD 1 default) (ws.getD 0 default)).1]) (by (exact hS.os)) (by (exact hS.os)) (by (simp <;> omega)) (by (simp <;> omega)) (by assumption))) ?_
          refine Kj rfl (Rm rfl rfl) (Kj rfl (Re rfl rfl rfl) (Kj rfl (Re rfl rfl rfl) (Kj rfl (Ra rfl rfl) (Kj rfl (Ra rfl rfl) ?_))))
          refine WJ.nil ?_
          refine Nt (Cq ?_)
          refine Cf [0, 1, 2, 3, 4, 5, 6, 7] [] [0, 0, 0, 0, 0, 0, 0, 0] (by kernel_rfl) (by kernel_rfl) rfl ?_
          refine Kj rfl (Rm rfl rfl) (Kj rfl (Rm rfl rfl) ?_)
          refine Kj rfl (Ia rfl rfl rfl u54 (by kernel_rfl : _ = some 2) (by omega) (by (rw [flatMap_len _ _ 2 (fun _ => rfl)]; omega))) ?_
          (refine Kj rfl (faf rfl rfl u50 rfl (by kernel_rfl) (by (try simp only [sN, Int.reduceToNat, Nat.reduceAdd, Nat.reduceMul, Nat.reduceSub]); rfl)) ?_)
          refine Kj rfl (ldmf (l := ws) (f := zc) (sz := 2) 0 1 rfl rfl u22 rfl (fun _ => rfl) rfl hw0 (by decide) rfl) ?_
          refine Kj rfl (Ra rfl rfl) (Kj rfl (Ra rfl rfl) (Kj rfl (Ra rfl rfl) ?_))
          refine WJ.nil ?_
          refine Nt (Ce ?_)
          exact R3 rfl rfl rfl rfl (by rw [hr]; rfl)
theorem same_c {x y : List Zs} {a b : Option Addr} {c d : Nat} {w : World} {ok : Nat → Prop} (hF1 : (Fact.sl a (ints x)).holds ok w) (hF2 : (Fact.sl b (ints y)).holds ok w) (hx : x.length ≤ 100000) :
  Cw 37 #[.slice a x.length c, .slice b y.length d] w (.bool (decide (x = y))) := by
 refine En [Fact.sl a (ints x), Fact.sl b (ints y)] [(0, .slice a x.length c), (1, .slice b y.length d)] Tryz.func37 rfl Tryz.ntmps37 rfl (Ac rfl (Ac rfl (An _))) (Fc (fact_any hF1) (Fc (fact_any hF2) Fn)) ?_
 refine Cs (Ka rfl (Nt (Cq (Cs (Km rfl (Kq rfl (rd_len rfl rfl u54) (Km rfl (Kq rfl (rd_len rfl rfl u54) (Kq rfl (rd_neq rfl rfl rfl) (Nt ?_))))))))))
 refine Cd rfl (fun hc10 => ?_) (fun hc10 => ?_)
 ·(try simp only [sB] at hc10)
  have hne : ¬ x = y := fun h => by rw [h] at hc10; omega
  refine Cs (Ka rfl (Nt (Ce (Xb ?_))))
  exact R1 rfl rfl (by rw [decide_eq_false hne]; rfl)
 ·(try simp only [sB] at hc10)
  have hle : x.length = y.length := by omega
  refine Ck (Xa (Cq (Cs (Ka rfl (Nt (Cb ?_))))))
  refine Lp (σ := Nat) [(0, _), (1, _)] (fun gq => [(5, .int .i64 (gq : Int))]) (fun gq => gq ≤ x.length ∧ x.take gq = y.take gq) (fun gq => x.length - gq) (0) (S2 rfl rfl) (S1 rfl) (by (try dsimp only); exact ⟨Nat.zero_le _, by simp⟩) ?_
  rintro i hinv1; (try dsimp only at hinv1 ⊢)
  obtain ⟨hi, ht⟩ := hinv1
  refine Cq (Cs (Km rfl (Km rfl (Kq rfl (rd_len rfl rfl u54) (Kq rfl (rd_lss rfl rfl rfl) (Nt ?_))))))
  refine Cd rfl (fun hc14 => ?_) (fun hc14 => ?_)
  ·(try simp only [sB] at hc14)
   have hil : i < x.length := by omega
   have hiy : i < y.length := by omega
   have hyt : ∀ l : List Zs, i < l.length → l.take (i + 1) = l.take i ++ [l.getD i default] := fun l h => by
    rw [List.take_add_one, List.getElem?_eq_getElem h, List.getD_eq_getElem?_getD, List.getElem?_eq_getElem h]; rfl
   refine Ck (Xa (Cq (Cb (Cq ?_))))
   refine Cf [0, 1, 2, 3, 4, 5, 6, 7, 8] [] [0, 0, 0, 0, 0, 0, 0, 0, 0] (by kernel_rfl) (by kernel_rfl) rfl ?_
   refine Kj rfl (Rm rfl rfl) (Kj rfl (Rm rfl rfl) ?_)
   refine Kj rfl (Ia rfl rfl rfl u54 (by kernel_rfl : _ = some 2) (by omega) (by (rw [flatMap_len _ _ 2 (fun _ => rfl)]; omega))) ?_
   refine Kj rfl (ldma _ rfl rfl u50 rfl (by kernel_rfl : _ = some 2) (fun _ => rfl) (by decide) rfl (by assumption)) ?_
   refine Kj rfl (Rm rfl rfl) (Kj rfl (Rm rfl rfl) ?_)
   refine Kj rfl (Ia rfl rfl rfl u54 (by kernel_rfl : _ = some 2) (by omega) (by (rw [flatMap_len _ _ 2 (fun _ => rfl)]; omega))) ?_
   refine Kj rfl (ldma _ rfl rfl u50 rfl (by kernel_rfl : _ = some 2) (fun _ => rfl) (by decide) rfl (by assumption)) ?_
   refine Kj rfl (rd_neA rfl rfl rfl (by kernel_rfl) (fun w => eql_api_Int _ _ _ _ w)) ?_
   refine WJ.nil ?_
   refine Nt ?_
   refine Cd rfl (fun hc25 => ?_) (fun hc25 => ?_)
   ·(try simp only [sB] at hc25)
    have hne : ¬ x = y := fun h => by rw [h] at hc25; simp at hc25
    refine Cs (Ka rfl (Nt (Ce (Xf (Xb (Xb (Xf (Xb ?_))))))))
    exact R1 rfl rfl (by rw [decide_eq_false hne]; rfl)
   ·(try simp only [sB] at hc25)
    refine Ck (Xd (Xa (Cg (Km rfl (Kq rfl (Rz rfl rfl rfl (by omega)) (Ka rfl (Nn ?_)))))))
    refine Ly (i + 1) (by (try dsimp only); omega) (S2 rfl rfl) (by refine (Sc ?_ (S0 _)) <;> (rfl)) ?_ (by (exact fun _ h => h))
    (try dsimp only)
    exact ⟨hil, by
     rw [hyt x hil, hyt y hiy, ht]; congr 2; exact Prod.ext_iff.2 (by simpa using hc25)⟩
  ·(try simp only [sB] at hc14)
   refine Cx (Xc (Xc (Xe ?_)))
   obtain rfl : i = x.length := by omega
   have heq : x = y := by rw [List.take_length, hle, List.take_length] at ht; exact ht
   refine Xa (Cs (Ka rfl (Nt (Ce ?_))))
   exact R1 rfl rfl (by rw [decide_eq_true heq]; rfl)
def unmOk (k : IK) (x : Bs) (ws : List Zs) (n : Nat) : Prop := (okN k.g.1 ∧ okN k.g.2 ∧ okN k.h ∧ okN x) ∧ ∀ z ∈ ws.take n, okZ z
instance (k : IK) (x : Bs) (ws : List Zs) (n : Nat) : Decidable (unmOk k x ws n) := inferInstanceAs (Decidable (_ ∧ _))
def shortP (n : Int) (l : List Bs) : Prop := ∀ x ∈ l, (x.length : Int) ≤ n
instance (n : Int) (l : List Bs) : Decidable (shortP n l) := inferInstanceAs (Decidable (∀ x ∈ l, _))
theorem short30_c {n : Int} {l : List Bs} {a : Option Addr} {c : Nat} {w : World} {ok : Nat → Prop} (hF1 : (Fact.sl a (strs l)).holds ok w) (hl : l.length ≤ 140737488351232) :
  Cw 79 #[.int .i64 n, .slice a l.length c] w (.bool (decide (shortP n l))) := by
 refine En [Fact.sl a (strs l)] [(0, .int .i64 n), (1, .slice a l.length c)] Tryz.func79 rfl Tryz.ntmps79 rfl (Ac rfl (Ac rfl (An _))) (Fc (fact_any hF1) Fn) ?_
 refine Cs (Ka rfl (Nt (Cq (Cs (Ka rfl (Nt (Cb ?_)))))))
 refine Lp (σ := Nat) [(0, _), (1, _)] (fun gq => [(5, .int .i64 (gq : Int))]) (fun gq => gq ≤ l.length ∧ ∀ x ∈ l.take gq, (x.length : Int) ≤ n) (fun gq => l.length - gq) (0) (S2 rfl rfl) (S1 rfl) (by (try dsimp only); exact ⟨Nat.zero_le _, by simp⟩) ?_
 rintro i hinv1; (try dsimp only at hinv1 ⊢)
 obtain ⟨hi, hok⟩ := hinv1
 refine Cq (Cs (Km rfl (Km rfl (Kq rfl (rd_len rfl rfl u31) (Kq rfl (rd_lss rfl rfl rfl) (Nt ?_))))))
 refine Cd rfl (fun hc9 => ?_) (fun hc9 => ?_)
 ·(try simp only [sB] at hc9)
  have hil : i < l.length := by omega
  obtain ⟨y, hy⟩ : ∃ y, Keep (y = l.getD i default) := ⟨_, rfl⟩
  refine Ck (Xa (Cq (Cb (Cs (Km rfl (Km rfl ?_))))))
  refine Kq rfl (Ib rfl rfl rfl u31 (by omega) (by (rw [List.length_map]; omega))) ?_
  refine Kq rfl (ldm rfl rfl u22 rfl (by assumption)) ?_
  refine Ns 15 rfl (v' := .string (S (y))) (congrArg (fun l => Value.string (S l)) (by rw [show y = _ from hy])) ?_
  refine Kq rfl (rd_slen rfl rfl u22) (Km rfl (Kq rfl (rd_gtr rfl rfl rfl) (Nt ?_)))
  refine Cd rfl (fun hc18 => ?_) (fun hc18 => ?_)
  ·(try simp only [sB] at hc18)
   have hn : ¬ shortP n l := fun h => by have := h _ (getD_mem l i hil); rw [← show y = _ from hy] at this; omega
   refine Cs (Ka rfl (Nt (Ce (Xf (Xb (Xb (Xf (Xb ?_))))))))
   exact R1 rfl rfl (by rw [decide_eq_false hn]; rfl)
  ·(try simp only [sB] at hc18)
   refine Ck (Xd (Xa (Cg (Km rfl (Kq rfl (Rz rfl rfl rfl (by omega)) (Ka rfl (Nn ?_)))))))
   refine Ly (i + 1) (by (try dsimp only); omega) (S2 rfl rfl) (by refine (Sc ?_ (S0 _)) <;> (rfl)) ?_ (by (exact fun _ h => h))
   (try dsimp only)
   exact ⟨hil, all_take hil hok (by rw [← show y = _ from hy]; omega)⟩
 ·(try simp only [sB] at hc9)
  refine Cx (Xc (Xc (Xe ?_)))
  obtain rfl : i = l.length := by omega
  rw [List.take_length] at hok
  refine Xa (Cs (Ka rfl (Nt (Ce ?_))))
  exact R1 rfl rfl (by rw [decide_eq_true (show shortP n l from hok)]; rfl)
def fewK (k : IK) : Prop := shortP 8 [k.g.1, k.g.2] ∧ shortP 9 [k.z, k.s, k.u, k.h] ∧ (k.r.length : Int) ≤ 6 ∧ shortP 9 k.r ∧ (k.name.length : Int) ≤ 60
instance (k : IK) : Decidable (fewK k) := inferInstanceAs (Decidable (_ ∧ _))
theorem fewkey_c {k : IK} {a : Option Addr} {c : Nat} {w : World} {ok : Nat → Prop} (hF1 : (Fact.sl a (strs k.r)).holds ok w) (hl : k.r.length ≤ 140737488351232) :
  Cw 34 #[ikV k (.slice a k.r.length c)] w (.bool (decide (fewK k))) := by
 refine En [Fact.sl a (strs k.r)] [(0, ikV k (.slice a k.r.length c))] Tryz.func34 rfl Tryz.ntmps34 rfl (Ac rfl (An _)) (Fc (fact_any hF1) Fn) ?_
 refine Cs ?_
 refine Kh rfl (Oy rfl rfl) ?_
 intro b1
 refine Ka rfl (Nt (Cs (Kq rfl (Fa (q := 1) rfl rfl u33 rfl rfl) (Kq rfl (Fa (q := 1) rfl rfl u26 rfl rfl) (Kq rfl (Ld rfl rfl .tc u22) ?_)))))
 refine Kq rfl (Fa (q := 1) rfl rfl u33 rfl rfl) (Kq rfl (Fa (q := 2) rfl rfl u26 rfl rfl) (Kq rfl (Ld rfl rfl .tc u22) ?_))
 refine Kh rfl (og_bs1 rfl rfl u31 (by kernel_rfl : _ = some (some (.string (S [])), 1, 16)) rfl (by simp only [List.map]; rfl) rfl rfl ?_ (by decide)) ?_
 ·simp [Value.cells]
 intro b9
 refine Ku rfl (Oc rfl rfl (Kv fun w hS => short30_c (n := 8) (l := [k.g.1, k.g.2]) (by (exact hS.os)) (by (simp <;> omega)))) ?_
 refine Km rfl ?_
 refine Nb 11 rfl (fun hg11 => ?_) (fun hg11 => ?_)
 ·(try simp only [sB] at hg11)
  refine Kq rfl (Fa (q := 3) rfl rfl u33 rfl rfl) (Kq rfl (Ld rfl rfl .tc u22) ?_)
  refine Kq rfl (Fa (q := 4) rfl rfl u33 rfl rfl) (Kq rfl (Ld rfl rfl .tc u22) ?_)
  refine Kq rfl (Fa (q := 6) rfl rfl u33 rfl rfl) (Kq rfl (Ld rfl rfl .tc u22) ?_)
  refine Kq rfl (Fa (q := 7) rfl rfl u33 rfl rfl) (Kq rfl (Ld rfl rfl .tc u22) ?_)
  refine Kh rfl (og_bs1 rfl rfl u31 (by kernel_rfl : _ = some (some (.string (S [])), 1, 16)) rfl (by simp only [List.map]; rfl) rfl rfl ?_ (by decide)) ?_
  ·simp [Value.cells]
  intro b20
  refine Ku rfl (Oc rfl rfl (Kv fun w hS => short30_c (n := 9) (l := [k.z, k.s, k.u, k.h]) (by (exact hS.os)) (by (simp <;> omega)))) ?_
  refine Kq rfl (Rp rfl rfl rfl) (Km rfl ?_)
  refine Nb 23 rfl (fun hg23 => ?_) (fun hg23 => ?_)
  ·(try simp only [sB] at hg23)
   refine Kq rfl (Fa (q := 5) rfl rfl u33 rfl rfl) (Kq rfl (Ld rfl rfl .tc u31) ?_)
   refine Kq rfl (rd_len rfl rfl u31) (Kq rfl (rd_leq rfl rfl rfl) (Kq rfl (Rp rfl rfl rfl) (Km rfl ?_)))
   refine Nb 29 rfl (fun hg29 => ?_) (fun hg29 => ?_)
   ·(try simp only [sB] at hg29)
    refine Kq rfl (Fa (q := 5) rfl rfl u33 rfl rfl) (Kq rfl (Ld rfl rfl .tc u31) ?_)
    refine Ku rfl (Oc rfl rfl (Kv fun w hS => short30_c (n := 9) (l := k.r) (by (exact hS.sl)) (by assumption))) ?_
    refine Kq rfl (Rp rfl rfl rfl) (Km rfl ?_)
    refine Nb 34 rfl (fun hg34 => ?_) (fun hg34 => ?_)
    ·(try simp only [sB] at hg34)
     refine Kq rfl (Fa (q := 0) rfl rfl u33 rfl rfl) (Kq rfl (Ld rfl rfl .tc u9) ?_)
     refine Kq rfl (rd_slen rfl rfl u9) (Kq rfl (rd_leq rfl rfl rfl) (Kq rfl (Rp rfl rfl rfl) (Ka rfl (Nt (Ce ?_)))))
     exact R1 rfl rfl (by (simp [*, tup, fewK]; done))
    ·(try simp only [sB] at hg34)
     refine Kt rfl (Kt rfl (Kt rfl (Kt rfl (Kq rfl (Rq rfl rfl rfl) (Ka rfl (Nt (Ce ?_)))))))
     exact R1 rfl rfl (by (simp [*, tup, fewK]; done))
   ·(try simp only [sB] at hg29)
    refine Kt rfl (Kt rfl (Kt rfl (Kq rfl (Rq rfl rfl rfl) (Km rfl (Kt rfl (Kt rfl (Kt rfl (Kt rfl (Kq rfl (Rq rfl rfl rfl) (Ka rfl (Nt (Ce ?_))))))))))))
    exact R1 rfl rfl (by (simp [*, tup, fewK]; intros; omega))
  ·(try simp only [sB] at hg23)
   refine Kt rfl (Kt rfl (Kt rfl (Kt rfl (Kq rfl (Rq rfl rfl rfl) (Km rfl (Kt rfl (Kt rfl (Kt rfl (Kq rfl (Rq rfl rfl rfl) (Km rfl (Kt rfl (Kt rfl (Kt rfl (Kt rfl (Kq rfl (Rq rfl rfl rfl) (Ka rfl (Nt (Ce ?_))))))))))))))))))
   exact R1 rfl rfl (by (simp [*, tup, fewK]; done))
 ·(try simp only [sB] at hg11)
  refine Kt rfl (Kt rfl (Kt rfl (Kt rfl (Kt rfl (Kt rfl (Kt rfl (Kt rfl (Kt rfl (Kt rfl (Kq rfl (Rq rfl rfl rfl) (Km rfl (Kt rfl (Kt rfl (Kt rfl (Kt rfl (Kq rfl (Rq rfl rfl rfl) (Km rfl (Kt rfl (Kt rfl (Kt rfl (Kq rfl (Rq rfl rfl rfl) (Km rfl (Kt rfl (Kt rfl (Kt rfl (Kt rfl (Kq rfl (Rq rfl rfl rfl) (Ka rfl (Nt (Ce ?_))))))))))))))))))))))))))))))
  exact R1 rfl rfl (by (simp [*, tup, fewK]; done))
theorem ints_c {l : List Int} {a : Option Addr} {c : Nat} {w : World} {ok : Nat → Prop} (hF1 : (Fact.sl a (l.map fun n => .int .i64 n)).holds ok w) (hl : l.length ≤ 1000) (hr : ∀ n ∈ l, -9223372036854775808 ≤ n ∧ n ≤ 9223372036854775807) :
  Calls Tryz.prog 36 #[.slice a l.length c] w fun e w' => ∃ gx : Rs, e = .returned (gx.val l.length) ∧ (True) ∧ Below w.heap.size w w' ∧ ∀ x ∈ ([Fact.sl gx.a (ints (l.map ofZ))] : List Fact), x.holds (fun b => ok b ∨ w.heap.size ≤ b) w' := by
 refine enter (S := St (fun b => ok b ∨ w.heap.size ≤ b) w [] ([Fact.sl a (l.map fun n => .int .i64 n)])) (L := [(0, .slice a l.length c)]) Tryz.func36 rfl Tryz.ntmps36 rfl (Ac rfl (An _)) (St.start (fun _ h => Or.inr h) (facts_or (Fc hF1 Fn))) ?_
 refine Cs (Ka rfl (Nt (Cs (Ka rfl (Nt (Cq (Cs (Ka rfl (Nt (Cb ?_))))))))))
 refine Lo (σ := Nat × (Option Nat) × Nat × (List Value)) [(0, _)] (fun gq => [(3, .slice (gq.2.1.map fun b => ⟨b, 0, none⟩) gq.1 gq.2.2.1), (4, .int .i64 (gq.1 : Int))]) (fun gq => gq.1 ≤ l.length ∧ gq.2.2.1 * 2 = gq.1 * 2 + gq.2.2.2.length) (fun gq => l.length - gq.1) (fun gq => [⟨gq.2.1, ints ((l.take gq.1).map ofZ) ++ gq.2.2.2, 50⟩]) (fun gq => [Fact.sl a (l.map fun n => .int .i64 n)]) (0, none, 0, []) (S1 rfl) (S2 rfl rfl) (by (try dsimp only); exact ⟨Nat.zero_le _, rfl⟩) (by exact fun w h => h.nil _) ?_
 rintro ⟨i, o, cp, sp⟩ hinv1; (try dsimp only at hinv1 ⊢)
 obtain ⟨hi, hcp⟩ := hinv1
 refine Cq (Cs (Km rfl (Km rfl (Kq rfl (rd_len rfl rfl u140) (Kq rfl (rd_lss rfl rfl rfl) (Nt ?_))))))
 refine Cd rfl (fun hc8 => ?_) (fun hc8 => ?_)
 ·(try simp only [sB] at hc8)
  have hil : i < l.length := by omega
  have hrr := hr _ (getD_mem l i hil)
  have htk : l.take (i + 1) = l.take i ++ [l.getD i default] := by
   rw [List.take_add_one, List.getElem?_eq_getElem hil, List.getD_eq_getElem?_getD, List.getElem?_eq_getElem hil]; rfl
  have hln : (ints ((l.take i).map ofZ)).length = i * 2 := by rw [flatMap_len _ _ 2 (fun _ => rfl), List.length_map, List.length_take]; omega
  refine Ck (Xa (Cq (Cb (Cg (Km rfl (Km rfl (Km rfl ?_)))))))
  refine Kq rfl (Ib rfl rfl rfl u140 (by omega) (by (rw [List.length_map]; omega))) ?_
  refine Kq rfl (ldm rfl rfl u2 rfl (by assumption)) ?_
  refine Ku rfl (Oc rfl rfl (Kv fun w hS => zof_c (n := l.getD i default) (by exact hrr.1) (by exact hrr.2))) ?_
  refine Kh rfl (og_bsN rfl rfl u54 (by kernel_rfl : _ = some (some (.agg #[.bool false, .string (S [])]), 2, 24)) (by kernel_rfl) (by decide) rfl rfl (by (simp [Value.cells]; done)) (by (exact cells_one _)) (by decide)) ?_
  intro b17
  refine Kh rfl (appgN rfl u54 (by kernel_rfl : _ = some (some (.agg #[.bool false, .string (S [])]), 2, 24)) (by kernel_rfl) (by decide) .tc rfl rfl (fun w hS => by (exact hS.os)) (by rfl) (by refine ⟨?_, ?_, ?_, ?_⟩ <;> first | exact hln | omega) (by (simp [Value.oneCell']; done))) ?_
  rintro ⟨o18, c18, s18⟩
  refine WL.pu ?_
  intro hg18; (try dsimp only at hg18 ⊢)
  refine Ka rfl (Nn (Xd (Xa (Cg (Km rfl (Kq rfl (Rz rfl rfl rfl (by omega)) (Ka rfl (Nn ?_))))))))
  refine Lx ((i + 1, o18, c18, s18)) (by (try dsimp only); omega) (S1 rfl) (by refine (Sc ?_ (Sc ?_ (S0 _))) <;> (rfl)) ?_ (by exact fun w h => by rw [htk, List.map_append, show ints ((l.take i).map ofZ ++ [l.getD i default].map ofZ) = ints ((l.take i).map ofZ) ++ zc (ofZ (l.getD i default)) by simp]; exact st_sub _ h)
  (try dsimp only)
  exact ⟨hil, by omega⟩
 ·(try simp only [sB] at hc8)
  refine Cx (Xc (Xc (Xe ?_)))
  obtain rfl : i = l.length := by omega
  rw [List.take_length]
  refine Xa (Cs (Km rfl (Ka rfl (Nt (Ce ?_)))))
  exact Rn rfl (.tmp rfl .nil) fun w' hS => ⟨⟨o, cp, sp⟩, rfl, trivial, hS.below, Fc hS.ock Fn⟩
def keyS : IK := ⟨[], (canon 77, []), [], [], [], [], canon 16⟩
theorem key38_c {w : World} :
  Cw 35 #[] w (ikV keyS (.slice none 0 0)) := by
 refine En [] [] Tryz.func35 rfl Tryz.ntmps35 rfl (An _) Fn ?_
 refine Cs ?_
 refine Kh rfl (Oz [.string (S []), .string (S []), .string (S []), .string (S []), .string (S []), .slice none 0 0, .string (S []), .string (S [])] rfl) ?_
 intro b0
 refine Nt (Cs ?_)
 refine Ku rfl (Oc rfl rfl (Kv fun w hS => of_c (n := 77) (by omega))) ?_
 refine Kq rfl (Kb [[.string (S [])], [.string (S [])]] rfl rfl) ?_
 refine Ku rfl (Oc rfl rfl (Kv fun w hS => of_c (n := 16) (by omega))) ?_
 refine Kq rfl (Kb [[.string (S [])], [.string (S []), .string (S [])], [.string (S [])], [.string (S [])], [.slice none 0 0], [.string (S [])], [.string (S [])]] rfl rfl) ?_
 refine Nu rfl rfl (Sa rfl rfl rfl .tc) ?_
 refine Nt (Ce ?_)
 exact Rn rfl (.agg rfl .tc u33 rfl (by kernel_rfl) .nil) fun w' hS => ⟨by rfl, hS.below⟩
theorem aw_w : witS (canon 7) (canon 3) = ([ofZ 7, ofZ 21], 0) := by decide +kernel
theorem aw_u : unmS keyS (canon 16) [ofZ 7, ofZ 21] = ((canon 37, canon 7), 0) := by decide +kernel
theorem aw_v : unmS keyS (canon 16) [ofZ 7, ofZ 20] = (([], []), 17) := by decide +kernel
theorem awake38_c {w : World} :
  Cw 10 #[] w (.bool true) := by
 refine En [] [] Tryz.func10 rfl Tryz.ntmps10 rfl (An _) Fn ?_
 refine Cs (Ka rfl (Nt (Cs ?_)))
 refine Ku rfl (Oc rfl rfl (Kv fun w hS => of_c (n := 7) (by omega))) ?_
 refine Ku rfl (Oc rfl rfl (Kv fun w hS => of_c (n := 3) (by omega))) ?_
 refine Kh rfl (Oc rfl rfl (keep_f1 (val := fun g => .tuple #[g.val 2, .int .i64 0]) (p := fun g => g.cap = 2 + g.sp.length) (xs := ints [ofZ 7, ofZ 21]) (T := 50) fun w hS => (by have := wit_c (w := w) (u := canon 7) (m := canon 3); rw [aw_w] at this; exact this))) ?_
 intro g12; refine WL.pu ?_; intro hg12
 refine Km rfl (Kq rfl (Re rfl rfl rfl) (Kq rfl (Re rfl rfl rfl) (Ka rfl (Ka rfl (Nt (Cs ?_))))))
 refine Ku rfl (Oc rfl rfl (Kv fun w hS => key38_c)) ?_
 refine Ku rfl (Oc rfl rfl (Kv fun w hS => of_c (n := 16) (by omega))) ?_
 refine Kh rfl (og_bs1 rfl rfl u140 (by kernel_rfl : _ = some (some (.int .i64 0), 1, 8)) rfl (by simp only [List.map]; rfl) rfl rfl ?_ (by decide)) ?_
 ·simp [Value.cells]
 intro b18
 refine WL.st (fun w h => h.freeze (off := 0) (xs := [.int .i64 7, .int .i64 21]) (fun i hi => by rw [Nat.zero_add])) ?_
 refine Kh rfl (Oc rfl rfl (keep_ff fun w hS => ints_c (l := [7, 21]) (by (exact hS.slo)) (by (simp <;> omega)) (by (simp <;> omega)))) ?_
 rintro g19
 refine WL.pu ?_
 intro hg19; (try dsimp only [List.cons_append, List.nil_append] at hg19 ⊢)
 refine Ku rfl (Oc rfl rfl (Kv fun w hS => (by have := unm_c (w := w) (k := keyS) (rv := .slice none 0 0) (x := canon 16) (ws := [ofZ 7, ofZ 21]) (a := g19.a) (c := g19.cap) hS.sl (by decide) (by decide +kernel); rw [aw_u] at this; exact this))) ?_
 refine Km rfl (Kq rfl (Re rfl rfl rfl) (Kq rfl (Re rfl rfl rfl) (Kq rfl (Re rfl rfl rfl) (Ka rfl (Ka rfl (Ka rfl (Nt (Cs ?_))))))))
 refine Ku rfl (Oc rfl rfl (Kv fun w hS => key38_c)) ?_
 refine Ku rfl (Oc rfl rfl (Kv fun w hS => of_c (n := 16) (by omega))) ?_
 refine Kh rfl (og_bs1 rfl rfl u140 (by kernel_rfl : _ = some (some (.int .i64 0), 1, 8)) rfl (by simp only [List.map]; rfl) rfl rfl ?_ (by decide)) ?_
 ·simp [Value.cells]
 intro b27
 refine WL.st (fun w h => h.freeze (off := 0) (xs := [.int .i64 7, .int .i64 20]) (fun i hi => by rw [Nat.zero_add])) ?_
 refine Kh rfl (Oc rfl rfl (keep_ff fun w hS => ints_c (l := [7, 20]) (by (exact hS.slo)) (by (simp <;> omega)) (by (simp <;> omega)))) ?_
 rintro g28
 refine WL.pu ?_
 intro hg28; (try dsimp only [List.cons_append, List.nil_append] at hg28 ⊢)
 refine Ku rfl (Oc rfl rfl (Kv fun w hS => (by have := unm_c (w := w) (k := keyS) (rv := .slice none 0 0) (x := canon 16) (ws := [ofZ 7, ofZ 20]) (a := g28.a) (c := g28.cap) hS.sl (by decide) (by decide +kernel); rw [aw_v] at this; exact this))) ?_
 refine Km rfl (Kq rfl (Re rfl rfl rfl) (Kq rfl (Re rfl rfl rfl) (Kq rfl (Re rfl rfl rfl) (Ka rfl (Ka rfl (Ka rfl (Nt (Cs (Km rfl (Kq rfl (rd_eql rfl rfl rfl) (Km rfl ?_)))))))))))
 refine Ns 35 rfl (v' := .bool true) (by rfl) ?_
 refine Km rfl ?_
 refine Kh rfl (og_bs1 rfl rfl u140 (by kernel_rfl : _ = some (some (.int .i64 0), 1, 8)) rfl (by simp only [List.map]; rfl) rfl rfl ?_ (by decide)) ?_
 ·simp [Value.cells]
 intro b37
 refine WL.st (fun w h => h.freeze (off := 0) (xs := [.int .i64 7, .int .i64 21]) (fun i hi => by rw [Nat.zero_add])) ?_
 refine Kh rfl (Oc rfl rfl (keep_ff fun w hS => ints_c (l := [7, 21]) (by (exact hS.slo)) (by (simp <;> omega)) (by (simp <;> omega)))) ?_
 rintro g38
 refine WL.pu ?_
 intro hg38; (try dsimp only [List.cons_append, List.nil_append] at hg38 ⊢)
 refine Ku rfl (Oc rfl rfl (Kv fun w hS => same_c (x := [ofZ 7, ofZ 21]) (y := [ofZ 7, ofZ 21]) (by (exact hS.sl)) (by (exact hS.sl)) (by (simp <;> omega)))) ?_
 refine Kq rfl (Rp rfl rfl rfl) (Km rfl ?_)
 refine Ns 41 rfl (v' := .bool true) (by rfl) ?_
 refine Km rfl (Kq rfl (rd_eql rfl rfl rfl) (Kq rfl (Rp rfl rfl rfl) (Km rfl ?_)))
 refine Ns 45 rfl (v' := .bool true) (by rfl) ?_
 refine Km rfl ?_
 refine Ku rfl (Oc rfl rfl (Kv fun w hS => of_c (n := 37) (by omega))) ?_
 refine Kq rfl (rd_seq rfl rfl rfl) (Kq rfl (Rp rfl rfl rfl) (Km rfl ?_))
 refine Ns 50 rfl (v' := .bool true) (by rfl) ?_
 refine Km rfl ?_
 refine Ku rfl (Oc rfl rfl (Kv fun w hS => of_c (n := 7) (by omega))) ?_
 refine Kq rfl (rd_seq rfl rfl rfl) (Kq rfl (Rp rfl rfl rfl) (Km rfl ?_))
 refine Ns 55 rfl (v' := .bool true) (by rfl) ?_
 refine Km rfl (Kq rfl (rd_eql rfl rfl rfl) (Kq rfl (Rp rfl rfl rfl) (Ka rfl (Nt (Ce ?_)))))
 exact R1 rfl rfl (by rfl)
end Go.Proofs.YthkmpjobfdeoaaaGreatDoor
namespace Go.Proofs.YthkmpjobfdeoaaaGreatDoor
set_option linter.unusedSimpArgs false
set_option linter.unusedVariables false
set_option maxRecDepth 20000
abbrev W := BitVec 32
def rr (x : W) (n : Nat) : W := x >>> n ||| x <<< (32 - n)
def u32 (x : W) : Value := .int .u32 (x.toNat : Int)
def s0 (x : W) : W := (rr x 7 ^^^ rr x 18) ^^^ x >>> 3
def s1 (y : W) : W := (rr y 17 ^^^ rr y 19) ^^^ y >>> 10
def word (a b c d : UInt8) : W := BitVec.ofNat 32 (a.toNat * 16777216 + b.toNat * 65536 + c.toNat * 256 + d.toNat)
def words : List UInt8 → List W
 | a :: b :: c :: d :: r => word a b c d :: words r
 | _ => []
def nextW (w : List W) : W := ((w.getD (w.length - 16) 0 + s0 (w.getD (w.length - 15) 0)) + w.getD (w.length - 7) 0) + s1 (w.getD (w.length - 2) 0)
def sched : Nat → List W → List W
 | 0, w => w
 | n + 1, w => sched n w ++ [nextW (sched n w)]
def tt (e f g h k w : W) : W := (((h + ((rr e 6 ^^^ rr e 11) ^^^ rr e 25)) + ((e &&& f) ^^^ (~~~e &&& g))) + k) + w
def uu (a b c : W) : W := ((rr a 2 ^^^ rr a 13) ^^^ rr a 22) + (((a &&& b) ^^^ (a &&& c)) ^^^ (b &&& c))
def rnd (k w : W) : List W → List W
 | [a, b, c, d, e, f, g, h] => [tt e f g h k w + uu a b c, a, b, c, d + tt e f g h k w, e, f, g]
 | l => l
def rounds (ks ws : List W) : Nat → List W → List W
 | 0, x => x
 | n + 1, x => rnd (ks.getD n 0) (ws.getD n 0) (rounds ks ws n x)
def KK : List W := [0x428a2f98#32, 0x71374491#32, 0xb5c0fbcf#32, 0xe9b5dba5#32, 0x3956c25b#32, 0x59f111f1#32, 0x923f82a4#32, 0xab1c5ed5#32,
 0xd807aa98#32, 0x12835b01#32, 0x243185be#32, 0x550c7dc3#32, 0x72be5d74#32, 0x80deb1fe#32, 0x9bdc06a7#32, 0xc19bf174#32,
 0xe49b69c1#32, 0xefbe4786#32, 0x0fc19dc6#32, 0x240ca1cc#32, 0x2de92c6f#32, 0x4a7484aa#32, 0x5cb0a9dc#32, 0x76f988da#32,
 0x983e5152#32, 0xa831c66d#32, 0xb00327c8#32, 0xbf597fc7#32, 0xc6e00bf3#32, 0xd5a79147#32, 0x06ca6351#32, 0x14292967#32,
 0x27b70a85#32, 0x2e1b2138#32, 0x4d2c6dfc#32, 0x53380d13#32, 0x650a7354#32, 0x766a0abb#32, 0x81c2c92e#32, 0x92722c85#32,
 0xa2bfe8a1#32, 0xa81a664b#32, 0xc24b8b70#32, 0xc76c51a3#32, 0xd192e819#32, 0xd6990624#32, 0xf40e3585#32, 0x106aa070#32,
 0x19a4c116#32, 0x1e376c08#32, 0x2748774c#32, 0x34b0bcb5#32, 0x391c0cb3#32, 0x4ed8aa4a#32, 0x5b9cca4f#32, 0x682e6ff3#32,
 0x748f82ee#32, 0x78a5636f#32, 0x84c87814#32, 0x8cc70208#32, 0x90befffa#32, 0xa4506ceb#32, 0xbef9a3f7#32, 0xc67178f2#32]
def H0 : List W := [0x6a09e667#32, 0xbb67ae85#32, 0x3c6ef372#32, 0xa54ff53a#32, 0x510e527f#32, 0x9b05688c#32, 0x1f83d9ab#32, 0x5be0cd19#32]
def addW : List W → List W → List W
 | a :: x, b :: y => (a + b) :: addW x y
 | _, _ => []
def compress (x : List W) (blk : List UInt8) : List W := addW (rounds KK (sched 48 (words blk)) 64 x) x
def chunks : Nat → List W → List UInt8 → List W
 | 0, x, _ => x
 | n + 1, x, m => chunks n (compress x (m.take 64)) (m.drop 64)
def byteAt (n i : Nat) : UInt8 := UInt8.ofNat (n / 2 ^ (8 * i) % 256)
def len8 (n : Nat) : List UInt8 := [byteAt n 7, byteAt n 6, byteAt n 5, byteAt n 4, byteAt n 3, byteAt n 2, byteAt n 1, byteAt n 0]
def zeros (n : Nat) : Nat := (119 - n % 64) % 64
def pad (s : List UInt8) : List UInt8 := s ++ [128] ++ List.replicate (zeros s.length) 0 ++ len8 (8 * s.length)
def bytes4 (x : W) : List UInt8 := [byteAt x.toNat 3, byteAt x.toNat 2, byteAt x.toNat 1, byteAt x.toNat 0]
def outW (x : List W) : List UInt8 := x.flatMap bytes4
def sha (s : List UInt8) : List UInt8 := outW (chunks ((pad s).length / 64) H0 (pad s))
def keyOf (key : List UInt8) : List UInt8 := if key.length > 64 then sha key else key
def xorKey (key : List UInt8) (x : UInt8) : List UInt8 := (key ++ List.replicate (64 - key.length) 0).map (· ^^^ x)
def mac (key s : List UInt8) : List UInt8 := sha (xorKey (keyOf key) 92 ++ sha (xorKey (keyOf key) 54 ++ s))
theorem wrap_W (n : Nat) : IntKind.u32.wrap (n : Int) = ((BitVec.ofNat 32 n).toNat : Int) := by
 rw [IntKind.wrap_u32]; simp [BitVec.toNat_ofNat]
theorem add_W (x y : W) : IntKind.u32.wrap ((x.toNat : Int) + (y.toNat : Int)) = ((x + y).toNat : Int) := by
 rw [IntKind.wrap_u32, BitVec.toNat_add]; omega
theorem ofInt_W (x : W) : BitVec.ofInt 32 (x.toNat : Int) = x := by
 apply BitVec.eq_of_toNat_eq; simp
theorem xor_W (x y : W) : bits .xor .u32 (x.toNat : Int) (y.toNat : Int) = ((x ^^^ y).toNat : Int) := by
 unfold bits
 show IntKind.u32.wrap ((BitVec.ofInt 32 (x.toNat : Int) ^^^ BitVec.ofInt 32 (y.toNat : Int)).toNat : Int) = _
 rw [ofInt_W, ofInt_W, wrap_W]; simp
theorem and_W (x y : W) : bits .and .u32 (x.toNat : Int) (y.toNat : Int) = ((x &&& y).toNat : Int) := by
 unfold bits
 show IntKind.u32.wrap ((BitVec.ofInt 32 (x.toNat : Int) &&& BitVec.ofInt 32 (y.toNat : Int)).toNat : Int) = _
 rw [ofInt_W, ofInt_W, wrap_W]; simp
theorem or_W (x y : W) : bits .or .u32 (x.toNat : Int) (y.toNat : Int) = ((x ||| y).toNat : Int) := by
 unfold bits
 show IntKind.u32.wrap ((BitVec.ofInt 32 (x.toNat : Int) ||| BitVec.ofInt 32 (y.toNat : Int)).toNat : Int) = _
 rw [ofInt_W, ofInt_W, wrap_W]; simp
theorem com_W (x : W) : bits .xor .u32 (if IntKind.u32.signed then -1 else IntKind.u32.max) (x.toNat : Int) = ((~~~x).toNat : Int) := by
 have e : (if IntKind.u32.signed then -1 else IntKind.u32.max) = ((BitVec.allOnes 32).toNat : Int) := by decide
 rw [e, xor_W, BitVec.allOnes_xor]
theorem shl_W (x : W) (n : Nat) (h : n ≤ 32) : IntKind.u32.wrap ((x.toNat : Int) * 2 ^ n) = ((x <<< n).toNat : Int) := by
 rw [IntKind.wrap_u32, BitVec.toNat_shiftLeft, Nat.shiftLeft_eq]
 have : ((2 : Int) ^ n) = ((2 ^ n : Nat) : Int) := by simp
 rw [this]; omega
theorem shr_W (x : W) (n : Nat) : (x.toNat : Int).fdiv (2 ^ n) = ((x >>> n).toNat : Int) := by
 rw [BitVec.toNat_ushiftRight, Nat.shiftRight_eq_div_pow]
 have : ((2 : Int) ^ n) = ((2 ^ n : Nat) : Int) := by simp
 rw [this, Int.fdiv_eq_ediv_of_nonneg _ (Int.natCast_nonneg _)]; exact (Int.natCast_ediv _ _).symm
theorem rot_W (x : W) (n : Nat) (h0 : 0 < n) (h : n < 32) : bits .or .u32 (IntKind.u32.wrap ((x.toNat : Int) * 2 ^ (32 - n))) ((x.toNat : Int).fdiv (2 ^ n)) = ((rr x n).toNat : Int) := by
 rw [shl_W x (32 - n) (by omega), shr_W, or_W, rr, BitVec.or_comm]
theorem and31 (n : Nat) (h0 : 0 < n) (h : n < 32) : bits .and .u64 (IntKind.u64.wrap (0 - (n : Int))) 31 = 32 - (n : Int) := by
 have : ∀ k : Fin 32, 0 < k.val → bits .and .u64 (IntKind.u64.wrap (0 - (k.val : Int))) 31 = 32 - (k.val : Int) := by decide
 exact this ⟨n, h⟩ h0
theorem fill_set {α : Type} (l : List α) (f : α → Value) (z : Value) (n k : Nat) (x : α) (hk : k < n) (hx : l[k]? = some x) :
  ((l.take k).map f ++ List.replicate (n - k) z).set k (f x) = (l.take (k + 1)).map f ++ List.replicate (n - (k + 1)) z := by
 have hl : k < l.length := (List.getElem?_eq_some_iff.1 hx).1
 have hlen : ((l.take k).map f).length = k := by simp; omega
 rw [List.set_append_right _ _ (by omega), hlen, Nat.sub_self, List.take_add_one, hx]
 have : n - k = (n - (k + 1)) + 1 := by omega
 rw [this, List.replicate_succ]
 simp
theorem words_get : ∀ (k : Nat) (bs : List UInt8) (c0 c1 c2 c3 : UInt8), bs[4 * k]? = some c0 → bs[4 * k + 1]? = some c1 → bs[4 * k + 2]? = some c2 → bs[4 * k + 3]? = some c3 → (words bs)[k]? = some (word c0 c1 c2 c3)
 | 0, bs, c0, c1, c2, c3, h0, h1, h2, h3 => by
  match bs, h0, h1, h2, h3 with
  | a :: b :: c :: d :: r, h0, h1, h2, h3 => simp at h0 h1 h2 h3; simp [words, h0, h1, h2, h3]
 | k + 1, bs, c0, c1, c2, c3, h0, h1, h2, h3 => by
  match bs, h3 with
  | a :: b :: c :: d :: r, h3 =>
   have e : ∀ q, (a :: b :: c :: d :: r)[4 * (k + 1) + q]? = r[4 * k + q]? := fun q => by
    rw [show 4 * (k + 1) + q = (4 * k + q) + 4 by omega]; simp
   have e0 := e 0
   simp only [Nat.add_zero] at e0
   simp only [words, List.getElem?_cons_succ]
   exact words_get k r c0 c1 c2 c3 (e0 ▸ h0) (e 1 ▸ h1) (e 2 ▸ h2) (e 3 ▸ h3)
  | [], h3 => simp at h3
  | [_], h3 => simp at h3
  | [_, _], h3 => simp at h3
  | [_, _, _], h3 => simp at h3
theorem words_len : ∀ (n : Nat) (bs : List UInt8), bs.length = 4 * n → (words bs).length = n
 | 0, bs, h => by have : bs = [] := List.eq_nil_of_length_eq_zero (by omega); subst this; rfl
 | n + 1, bs, h => by
  match bs, h with
  | a :: b :: c :: d :: r, h => simp only [words, List.length_cons]; rw [words_len n r (by simp at h; omega)]
  | [], h => simp at h
  | [_], h => simp at h; omega
  | [_, _], h => simp at h; omega
  | [_, _, _], h => simp at h; omega
theorem sched_len (n : Nat) (w : List W) : (sched n w).length = w.length + n := by
 induction n with
 | zero => rfl
 | succ n ih => simp [sched, ih]; omega
theorem u8_W (c : UInt8) : IntKind.u32.wrap (c.toNat : Int) = ((BitVec.ofNat 32 c.toNat).toNat : Int) := wrap_W c.toNat
theorem word_W (c0 c1 c2 c3 : UInt8) : ((BitVec.ofNat 32 c0.toNat <<< 24 ||| BitVec.ofNat 32 c1.toNat <<< 16) ||| BitVec.ofNat 32 c2.toNat <<< 8) ||| BitVec.ofNat 32 c3.toNat = word c0 c1 c2 c3 := by
 have h0 := c0.toNat_lt; have h1 := c1.toNat_lt; have h2 := c2.toNat_lt; have h3 := c3.toNat_lt
 apply BitVec.eq_of_toNat_eq
 simp only [word, BitVec.toNat_or, BitVec.toNat_shiftLeft, BitVec.toNat_ofNat, Nat.shiftLeft_eq]
 rw [Nat.mod_eq_of_lt (by omega : c0.toNat < 2 ^ 32), Nat.mod_eq_of_lt (by omega : c1.toNat < 2 ^ 32), Nat.mod_eq_of_lt (by omega : c2.toNat < 2 ^ 32), Nat.mod_eq_of_lt (by omega : c3.toNat < 2 ^ 32)]
 rw [Nat.mod_eq_of_lt (by omega : c0.toNat * 2 ^ 24 < 2 ^ 32), Nat.mod_eq_of_lt (by omega : c1.toNat * 2 ^ 16 < 2 ^ 32), Nat.mod_eq_of_lt (by omega : c2.toNat * 2 ^ 8 < 2 ^ 32), Nat.mod_eq_of_lt (by omega)]
 have e1 := Nat.two_pow_add_eq_or_of_lt (i := 24) (b := c1.toNat * 2 ^ 16) (by omega) c0.toNat
 have e2 := Nat.two_pow_add_eq_or_of_lt (i := 16) (b := c2.toNat * 2 ^ 8) (by omega) (c0.toNat * 2 ^ 8 + c1.toNat)
 have e3 := Nat.two_pow_add_eq_or_of_lt (i := 8) (b := c3.toNat) (by omega) (c0.toNat * 2 ^ 16 + c1.toNat * 2 ^ 8 + c2.toNat)
 rw [Nat.mul_comm c0.toNat, ← e1]
 rw [show 2 ^ 24 * c0.toNat + c1.toNat * 2 ^ 16 = 2 ^ 16 * (c0.toNat * 2 ^ 8 + c1.toNat) by omega, ← e2]
 rw [show 2 ^ 16 * (c0.toNat * 2 ^ 8 + c1.toNat) + c2.toNat * 2 ^ 8 = 2 ^ 8 * (c0.toNat * 2 ^ 16 + c1.toNat * 2 ^ 8 + c2.toNat) by omega, ← e3]
 first | done | omega
theorem word_bits (c0 c1 c2 c3 : UInt8) : bits .or .u32 (bits .or .u32 (bits .or .u32 (IntKind.u32.wrap (IntKind.u32.wrap (c0.toNat : Int) * 2 ^ (min (Int.toNat 24) IntKind.u32.bits))) (IntKind.u32.wrap (IntKind.u32.wrap (c1.toNat : Int) * 2 ^ (min (Int.toNat 16) IntKind.u32.bits)))) (IntKind.u32.wrap (IntKind.u32.wrap (c2.toNat : Int) * 2 ^ (min (Int.toNat 8) IntKind.u32.bits)))) (IntKind.u32.wrap (c3.toNat : Int)) = ((word c0 c1 c2 c3).toNat : Int) := by
 have m1 : min (Int.toNat 24) IntKind.u32.bits = 24 := by decide
 have m2 : min (Int.toNat 16) IntKind.u32.bits = 16 := by decide
 have m3 : min (Int.toNat 8) IntKind.u32.bits = 8 := by decide
 rw [m1, m2, m3, u8_W, u8_W, u8_W, u8_W, shl_W _ 24 (by omega), shl_W _ 16 (by omega), shl_W _ 8 (by omega), or_W, or_W, or_W, word_W]
section
variable {ds : List Deferred} {ρ : Option Nat} {P : Program} {o : Oper} {n : Nat} {L : Slots} {Z : World → Prop} {x y : Operand} {t t2 : TypeId} {a b : W}
theorem rdW_add (hop : o.op = .binOp .add t x y t2) (hx : oper L x = some (u32 a)) (hy : oper L y = some (u32 b)) : Rd ds P o n L Z (u32 (a + b)) := by
 have := rd_add (ds := ds) (P := P) (n := n) (St := Z) hop hx hy; rwa [add_W] at this
theorem rdW_xor (hop : o.op = .binOp .xor t x y t2) (hx : oper L x = some (u32 a)) (hy : oper L y = some (u32 b)) : Rd ds P o n L Z (u32 (a ^^^ b)) := by
 have := rd_xor (ds := ds) (P := P) (n := n) (St := Z) hop hx hy; rwa [xor_W] at this
theorem rdW_and (hop : o.op = .binOp .and t x y t2) (hx : oper L x = some (u32 a)) (hy : oper L y = some (u32 b)) : Rd ds P o n L Z (u32 (a &&& b)) := by
 have := rd_and (ds := ds) (P := P) (n := n) (St := Z) hop hx hy; rwa [and_W] at this
theorem rdW_or (hop : o.op = .binOp .or t x y t2) (hx : oper L x = some (u32 a)) (hy : oper L y = some (u32 b)) : Rd ds P o n L Z (u32 (a ||| b)) := by
 have := rd_or (ds := ds) (P := P) (n := n) (St := Z) hop hx hy; rwa [or_W] at this
theorem rdW_com (hop : o.op = .unOp .xor t x) (hx : oper L x = some (u32 a)) : Rd ds P o n L Z (u32 (~~~a)) := by
 have := rd_com (ds := ds) (P := P) (n := n) (St := Z) hop hx; rwa [com_W] at this
theorem rdW_shr {k' : IntKind} {c : Nat} (hop : o.op = .binOp .shr t x y t2) (hx : oper L x = some (u32 a)) (hy : oper L y = some (.int k' (@OfNat.ofNat Int c instOfNat))) (hc : c ≤ 32) : Rd ds P o n L Z (u32 (a >>> c)) := by
 have := rd_shr (ds := ds) (P := P) (n := n) (St := Z) hop hx hy (Int.natCast_nonneg c)
 have e : min (@OfNat.ofNat Int c instOfNat).toNat IntKind.u32.bits = c := by
  show min c 32 = c; omega
 rwa [e, shr_W] at this
end
theorem u32_one (l : List W) : ∀ v ∈ l.map u32, v.oneCell' = true := fun v hv => by obtain ⟨c, _, rfl⟩ := List.mem_map.1 hv; rfl
theorem map_cell {α : Type} (l : List α) (f : α → Value) (r : List Value) (i : Nat) (x : α) (h : l[i]? = some x) : (l.map f ++ r)[i]? = some (f x) := by
 have : i < l.length := (List.getElem?_eq_some_iff.1 h).1
 rw [List.getElem?_append_left (by simpa using this), List.getElem?_map, h]; rfl
theorem get_getD {α : Type} (l : List α) (i : Nat) (z : α) (h : i < l.length) : l[i]? = some (l.getD i z) := by simp [h]
theorem rnd_len (k w : W) (x : List W) (h : x.length = 8) : (rnd k w x).length = 8 := by
 match x, h with
 | [a, b, c, d, e, f, g, i], _ => rfl
theorem rounds_len (ks ws : List W) (n : Nat) (x : List W) (h : x.length = 8) : (rounds ks ws n x).length = 8 := by
 induction n with
 | zero => exact h
 | succ n ih => exact rnd_len _ _ _ ih
theorem eight (x : List W) (h : x.length = 8) : ∃ a b c d e f g i, x = [a, b, c, d, e, f, g, i] := by
 match x, h with
 | [a, b, c, d, e, f, g, i], _ => exact ⟨a, b, c, d, e, f, g, i, rfl⟩
theorem addW_len : ∀ (x y : List W), x.length = y.length → (addW x y).length = x.length
 | [], [], _ => rfl
 | a :: x, b :: y, h => by simp only [addW, List.length_cons]; rw [addW_len x y (by simpa using h)]
theorem addW_get : ∀ (x y : List W) (k : Nat) (a b : W), x[k]? = some a → y[k]? = some b → (addW x y)[k]? = some (a + b)
 | a' :: x, b' :: y, 0, a, b, h1, h2 => by simp at h1 h2; simp [addW, h1, h2]
 | a' :: x, b' :: y, k + 1, a, b, h1, h2 => by simp at h1 h2; simp only [addW, List.getElem?_cons_succ]; exact addW_get x y k a b h1 h2
theorem addW_set (x y : List W) (k : Nat) (a b : W) (hl : x.length = y.length) (h1 : x[k]? = some a) (h2 : y[k]? = some b) :
  (((addW x y).take k ++ x.drop k).map u32).set k (u32 (a + b)) = ((addW x y).take (k + 1) ++ x.drop (k + 1)).map u32 := by
 have hk : k < x.length := (List.getElem?_eq_some_iff.1 h1).1
 have hal := addW_len x y hl
 rw [← List.map_set]
 congr 1
 have hlen : ((addW x y).take k).length = k := by simp; omega
 rw [List.set_append_right _ _ (by omega), hlen, Nat.sub_self, List.take_add_one, addW_get x y k a b h1 h2]
 have hd : (x.drop k).set 0 (a + b) = (a + b) :: x.drop (k + 1) := by rw [List.drop_eq_getElem_cons hk]; rfl
 rw [hd]; simp
def pick4 (c0 c1 c2 c3 : UInt8) : Nat → UInt8
 | 0 => c0
 | 1 => c1
 | 2 => c2
 | _ => c3
def part4 (c0 c1 c2 c3 : UInt8) : Nat → W
 | 0 => 0
 | n + 1 => part4 c0 c1 c2 c3 n * 256 + BitVec.ofNat 32 (pick4 c0 c1 c2 c3 n).toNat
theorem part4_succ (c0 c1 c2 c3 : UInt8) (j : Nat) (_h : j < 4) : part4 c0 c1 c2 c3 (j + 1) = part4 c0 c1 c2 c3 j * 256 + BitVec.ofNat 32 (pick4 c0 c1 c2 c3 j).toNat := rfl
theorem part4_word (c0 c1 c2 c3 : UInt8) : part4 c0 c1 c2 c3 4 = word c0 c1 c2 c3 := by
 apply BitVec.eq_of_toNat_eq
 have h0 := c0.toNat_lt; have h1 := c1.toNat_lt; have h2 := c2.toNat_lt; have h3 := c3.toNat_lt
 simp only [part4, pick4, word, BitVec.toNat_add, BitVec.toNat_mul, BitVec.toNat_ofNat, BitVec.ofNat_eq_ofNat]
 omega
theorem mul_W (x y : W) : IntKind.u32.wrap ((x.toNat : Int) * (y.toNat : Int)) = ((x * y).toNat : Int) := by
 rw [IntKind.wrap_u32, BitVec.toNat_mul, ← Int.natCast_mul]; omega
theorem set_zero4 (ws : List W) (hw : ws.length = 16) (k : Nat) (hk : k < 16) : ((ws.take k).map u32 ++ List.replicate (64 - k) (u32 0)).set k (u32 0) = (ws.take k).map u32 ++ List.replicate (64 - k) (u32 0) := by
 have hl : ((ws.take k).map u32).length = k := by simp; omega
 rw [List.set_append_right _ _ (by omega), hl, Nat.sub_self, show 64 - k = (63 - k) + 1 by omega, List.replicate_succ]
 rfl
end Go.Proofs.YthkmpjobfdeoaaaGreatDoor
namespace Go.Proofs.YthkmpjobfdeoaaaGreatDoor
open Go.RowKit
set_option linter.unusedSimpArgs false
set_option linter.unusedVariables false
set_option maxHeartbeats 600000
set_option maxRecDepth 20000
theorem rot_ok (x : W) (n : Nat) (h0 : 0 < n) (h : n < 32) (w : World) : Cw 263 #[u32 x, .int .i64 (0 - (n : Int))] w (u32 (rr x n)) := by
 refine enter (S := St (fun _ => True) w [] []) (L := [(0, u32 x), (1, .int .i64 (0 - (n : Int)))]) Tryz.func263 rfl Tryz.ntmps263 rfl (Ac rfl (Ac rfl (An _))) (St.start (fun _ _ => trivial) (by simp)) ?_
 refine Cq (Cg (Ka rfl (Nn (Xa (Cq (Cg (Km rfl (Kq rfl (rd_conv rfl rfl u3 u128) (Kq rfl (rd_and rfl rfl rfl) (Ns 8 rfl (congrArg (Value.int .u64) (and31 n h0 h)) (Ka rfl (Nn (Xa (Cq (Cg (Km rfl (Km rfl (Kq rfl (rd_shl rfl rfl rfl (by omega)) ?_))))))))))))))))))
 refine Ns 11 rfl (v' := .int .u32 (IntKind.u32.wrap ((x.toNat : Int) * 2 ^ (32 - n)))) (by congr 3; simp [IntKind.bits]; try omega) ?_
 refine Km rfl (Km rfl (Kq rfl (rd_sub rfl rfl rfl) ?_))
 refine Ns 14 rfl (v' := .int .u64 (n : Int)) (congrArg (Value.int .u64) (by rw [IntKind.wrap_u64]; omega)) ?_
 refine Kq rfl (rd_shr rfl rfl rfl (by omega)) ?_
 refine Ns 15 rfl (v' := .int .u32 ((x.toNat : Int).fdiv (2 ^ n))) (by congr 3; simp [IntKind.bits]; try omega) ?_
 refine Kq rfl (rd_or rfl rfl rfl) (Ns 16 rfl (v' := u32 (rr x n)) (congrArg (Value.int .u32) (rot_W x n h0 h)) (Ka rfl (Nn (Xa (Ce ?_)))))
 exact WX.ret1 rfl rfl fun w' hS => ⟨rfl, hS.below⟩
theorem turn_ok (x : W) (n : Nat) (h0 : 0 < n) (h : n < 32) (w : World) : Cw 257 #[u32 x, .int .i64 (n : Int)] w (u32 (rr x n)) := by
 refine enter (S := St (fun _ => True) w [] []) (L := [(0, u32 x), (1, .int .i64 (n : Int))]) Tryz.func257 rfl Tryz.ntmps257 rfl (Ac rfl (Ac rfl (An _))) (St.start (fun _ _ => trivial) (by simp)) ?_
 refine Cq (Cg (Ka rfl (Nn (Xa (Cq (Cg (Km rfl (Km rfl ?_))))))))
 refine Kq rfl (rd_neg64 rfl rfl ?_) ?_
 ·omega
 refine Ku rfl (Oc rfl rfl (Kv fun w _ => rot_ok x n h0 h w)) ?_
 refine Ka rfl (Nn (Xa (Ce ?_)))
 exact WX.ret1 rfl rfl fun w' hS => ⟨rfl, hS.below⟩
theorem turn_lit (x : W) (n : Nat) (h0 : 0 < n) (h : n < 32) (w : World) : Cw 257 #[u32 x, .int .i64 (@OfNat.ofNat Int n instOfNat)] w (u32 (rr x n)) := turn_ok x n h0 h w
theorem sched_set (j : Nat) (ws : List W) (hw : ws.length = 16) (hj : j < 48) : ((sched j ws).map u32 ++ List.replicate (48 - j) (u32 0)).set (16 + j) (u32 (nextW (sched j ws))) = (sched (j + 1) ws).map u32 ++ List.replicate (48 - (j + 1)) (u32 0) := by
 have hl : ((sched j ws).map u32).length = 16 + j := by rw [List.length_map, sched_len, hw]
 rw [List.set_append_right _ _ (by omega), hl, Nat.sub_self, show 48 - j = (48 - (j + 1)) + 1 by omega, List.replicate_succ]
 simp [sched]
theorem first_ok (w : World) : Cw 243 #[] w (.agg (H0.map u32).toArray) := by
 refine enter (S := St (fun _ => True) w [] []) (L := []) Tryz.func243 rfl Tryz.ntmps243 rfl (An _) (St.start (fun _ _ => trivial) (by simp)) ?_
 refine Cq (Cg ?_)
 refine Kh rfl (Oz [.int .u32 0, .int .u32 0, .int .u32 0, .int .u32 0, .int .u32 0, .int .u32 0, .int .u32 0, .int .u32 0] rfl) ?_
 intro b0
 refine Nn (Xa (Cq (Cg ?_)))
 refine Kq rfl (rd_build rfl rfl (v := .agg #[.int .u32 1779033703, .int .u32 3144134277, .int .u32 1013904242, .int .u32 2773480762, .int .u32 1359893119, .int .u32 2600822924, .int .u32 528734635, .int .u32 1541459225]) (fun w => by kernel_rfl)) ?_
 refine Nu rfl rfl (Sa rfl rfl rfl .tc) ?_
 refine Nn (Xa (Ce ?_))
 exact WX.ret1c (cs := H0.map u32) rfl rfl .here u251 rfl (by kernel_rfl) fun w' hS => ⟨rfl, hS.below⟩
theorem constants_ok (w : World) : Cw 255 #[] w (.agg (KK.map u32).toArray) := by
 refine enter (S := St (fun _ => True) w [] []) (L := []) Tryz.func255 rfl Tryz.ntmps255 rfl (An _) (St.start (fun _ _ => trivial) (by simp)) ?_
 refine Cq (Cg ?_)
 refine Kh rfl (Oa rfl (v := (.agg (List.replicate 64 (.int .u32 0)).toArray)) (cs := (List.replicate 64 (.int .u32 0))) (by kernel_rfl) rfl) ?_
 intro b0
 refine Nn (Xa (Cq (Cg ?_)))
 refine Kq rfl (rd_build rfl rfl (v := .agg #[.int .u32 1116352408, .int .u32 1899447441, .int .u32 3049323471, .int .u32 3921009573, .int .u32 961987163, .int .u32 1508970993, .int .u32 2453635748, .int .u32 2870763221, .int .u32 3624381080, .int .u32 310598401, .int .u32 607225278, .int .u32 1426881987, .int .u32 1925078388, .int .u32 2162078206, .int .u32 2614888103, .int .u32 3248222580, .int .u32 3835390401, .int .u32 4022224774, .int .u32 264347078, .int .u32 604807628, .int .u32 770255983, .int .u32 1249150122, .int .u32 1555081692, .int .u32 1996064986, .int .u32 2554220882, .int .u32 2821834349, .int .u32 2952996808, .int .u32 3210313671, .int .u32 3336571891, .int .u32 3584528711, .int .u32 113926993, .int .u32 338241895, .int .u32 666307205, .int .u32 773529912, .int .u32 1294757372, .int .u32 1396182291, .int .u32 1695183700, .int .u32 1986661051, .int .u32 2177026350, .int .u32 2456956037, .int .u32 2730485921, .int .u32 2820302411, .int .u32 3259730800, .int .u32 3345764771, .int .u32 3516065817, .int .u32 3600352804, .int .u32 4094571909, .int .u32 275423344, .int .u32 430227734, .int .u32 506948616, .int .u32 659060556, .int .u32 883997877, .int .u32 958139571, .int .u32 1322822218, .int .u32 1537002063, .int .u32 1747873779, .int .u32 1955562222, .int .u32 2024104815, .int .u32 2227730452, .int .u32 2361852424, .int .u32 2428436474, .int .u32 2756734187, .int .u32 3204031479, .int .u32 3329325298]) (fun w => by kernel_rfl)) ?_
 refine Nu rfl rfl (Sa rfl rfl rfl .tc) ?_
 refine Nn (Xa (Ce ?_))
 exact WX.ret1c (cs := KK.map u32) rfl rfl .here u261 rfl (by kernel_rfl) fun w' hS => ⟨rfl, hS.below⟩
theorem schedule_ok (bs : List UInt8) (hbs : bs.length = 64) (b off cap : Nat) (hcap : 64 ≤ cap) (w : World) (hf : (Fact.sl (some ⟨b, off, none⟩) (bs.map B)).holds (fun _ => True) w) :
  Cw 256 #[.slice (some ⟨b, off, none⟩) 64 cap] w (.agg ((sched 48 (words bs)).map u32).toArray) := by
 have hwl := words_len 16 bs hbs
 refine enter (S := St (fun _ => True) w [] [Fact.sl (some ⟨b, off, none⟩) (bs.map B)]) (L := [(0, .slice (some ⟨b, off, none⟩) 64 cap)]) Tryz.func256 rfl Tryz.ntmps256 rfl (Ac rfl (An _)) (St.start (fun _ _ => trivial) (by simpa using hf)) ?_
 refine Cq (Cg ?_)
 refine Kh rfl (Oa rfl (v := (.agg (List.replicate 64 (.int .u32 0)).toArray)) (cs := (List.replicate 64 (.int .u32 0))) (by kernel_rfl) rfl) ?_
 intro b2
 refine Nn (Xa (Cq (Cg ?_)))
 refine Kh rfl (Oa rfl (v := (.agg (List.replicate 64 (.int .u32 0)).toArray)) (cs := (List.replicate 64 (.int .u32 0))) (by kernel_rfl) rfl) ?_
 intro b3
 refine Nn (Xa (Cq (Cq (Cg (Km rfl (Nn (Xa (Cb ?_))))))))
 refine WC.loop (σ := Nat) (fun k => [(0, .slice (some ⟨b, off, none⟩) 64 cap), (2, .pointer (some ⟨b2, 0, none⟩)), (3, .pointer (some ⟨b3, 0, none⟩)), (9, .int .i64 (k : Int))]) (fun k w' => k ≤ 16 ∧ St (fun _ => True) w [⟨some b3, ((words bs).take k).map u32 ++ List.replicate (64 - k) (u32 0), 261⟩, ⟨some b2, List.replicate 64 (u32 0), 261⟩] [Fact.sl (some ⟨b, off, none⟩) (bs.map B)] w') (fun k => 16 - k) 0 (by repeat (first | exact S0 _ | refine Sc rfl ?_)) (fun w' h => ⟨by omega, h⟩) ?_
 intro k; refine WC.pu ?_; intro hk
 refine Cq (Cg (Kq rfl (rd_lss rfl rfl rfl) (Nn (Xa (Cq ?_)))))
 refine Cd rfl (fun hc10 => ?_) (fun hc10 => ?_)
 ·(try simp only [decide_eq_true_eq, decide_eq_false_iff_not, Bool.not_eq_true', Bool.not_eq_false', Bool.not_not, Int.not_lt, Int.not_le] at hc10)
  obtain ⟨c0, hc0⟩ : ∃ c, bs[4 * k]? = some c := ⟨_, List.getElem?_eq_getElem (by omega)⟩
  obtain ⟨c1, hc1⟩ : ∃ c, bs[4 * k + 1]? = some c := ⟨_, List.getElem?_eq_getElem (by omega)⟩
  obtain ⟨c2, hc2⟩ : ∃ c, bs[4 * k + 2]? = some c := ⟨_, List.getElem?_eq_getElem (by omega)⟩
  obtain ⟨c3, hc3⟩ : ∃ c, bs[4 * k + 3]? = some c := ⟨_, List.getElem?_eq_getElem (by omega)⟩
  refine Ck (Xa (Cq (Cb (Cq (Cg (Km rfl (Ka rfl (Nn (Xa (Cq (Cg (Km rfl (Km rfl ?_)))))))))))))
  first
   | (refine Kq rfl (rd_mul64ln rfl rfl rfl ?_) ?_; focus (omega))
   | (refine Kq rfl (rd_mul64 rfl rfl rfl ?_) ?_; focus (omega))
  refine Km rfl ?_
  first
   | (refine Kq rfl (rd_mul64ln rfl rfl rfl ?_) ?_; focus (omega))
   | (refine Kq rfl (rd_mul64 rfl rfl rfl ?_) ?_; focus (omega))
  first
   | (refine Kq rfl (Rz rfl rfl rfl ?_) ?_; focus (omega))
   | (refine Kq rfl (rd_add64 rfl rfl rfl ?_) ?_; focus (omega))
  refine Kq rfl (rd_slbn rfl rfl rfl rfl u136 (by kernel_rfl : _ = some 1) ?_ (by (try simp only [Int.toNat_natCast, Nat.mul_one, Nat.zero_add, Nat.add_zero, Nat.zero_mul, Int.reduceToNat, Nat.reduceAdd, Nat.reduceMul, Nat.reduceSub, Nat.sub_zero]); rfl) (by (try simp only [Int.toNat_natCast, Nat.mul_one, Nat.zero_add, Nat.add_zero, Nat.zero_mul, Int.reduceToNat, Nat.reduceAdd, Nat.reduceMul, Nat.reduceSub, Nat.sub_zero]); rfl) (by (try simp only [Int.toNat_natCast, Nat.mul_one, Nat.zero_add, Nat.add_zero, Nat.zero_mul, Int.reduceToNat, Nat.reduceAdd, Nat.reduceMul, Nat.reduceSub, Nat.sub_zero]); rfl)) ?_
  ·omega
  refine Ka rfl (Nn (Xa ?_))
  refine WC.mix [0, 0, 0, 0, 0, 0, 0, 0, 0, 0, 0, 0, 0, 0, 0, 0, 0, 0, 0, 0, 0, 0, 0, 0, 2] (by kernel_rfl) (by kernel_rfl) (fun w h => h.draw) ?_
  refine WM.r rfl rfl rfl (Rm rfl rfl) ?_
  refine WM.r rfl rfl rfl (Rm rfl rfl) ?_
  refine WM.r rfl rfl rfl (Ja rfl rfl rfl u136 (by kernel_rfl : _ = some 1) ?_) ?_
  ·omega
  refine WM.r rfl rfl rfl (ldf rfl rfl (by first | exact .here | exact .t1 | exact .t2 | exact .t3 | exact .t4 | exact .t5 | exact .t6 | exact .t7) u5 rfl (m := 4 * k) (by omega) (by rw [List.getElem?_map, hc0]; rfl)) ?_
  refine WM.r rfl rfl rfl (rd_conv rfl rfl u5 u206) ?_
  refine WM.r rfl rfl rfl (rd_shl rfl rfl rfl ?_) ?_
  ·first | decide | omega
  refine WM.r rfl rfl rfl (Rm rfl rfl) ?_
  refine WM.r rfl rfl rfl (Ja rfl rfl rfl u136 (by kernel_rfl : _ = some 1) ?_) ?_
  ·omega
  refine WM.r rfl rfl rfl (ldf rfl rfl (by first | exact .here | exact .t1 | exact .t2 | exact .t3 | exact .t4 | exact .t5 | exact .t6 | exact .t7) u5 rfl (m := 4 * k + 1) (by omega) (by rw [List.getElem?_map, hc1]; rfl)) ?_
  refine WM.r rfl rfl rfl (rd_conv rfl rfl u5 u206) ?_
  refine WM.r rfl rfl rfl (rd_shl rfl rfl rfl ?_) ?_
  ·first | decide | omega
  refine WM.r rfl rfl rfl (rd_or rfl rfl rfl) ?_
  refine WM.r rfl rfl rfl (Rm rfl rfl) ?_
  refine WM.r rfl rfl rfl (Ja rfl rfl rfl u136 (by kernel_rfl : _ = some 1) ?_) ?_
  ·omega
  refine WM.r rfl rfl rfl (ldf rfl rfl (by first | exact .here | exact .t1 | exact .t2 | exact .t3 | exact .t4 | exact .t5 | exact .t6 | exact .t7) u5 rfl (m := 4 * k + 2) (by omega) (by rw [List.getElem?_map, hc2]; rfl)) ?_
  refine WM.r rfl rfl rfl (rd_conv rfl rfl u5 u206) ?_
  refine WM.r rfl rfl rfl (rd_shl rfl rfl rfl ?_) ?_
  ·first | decide | omega
  refine WM.r rfl rfl rfl (rd_or rfl rfl rfl) ?_
  refine WM.r rfl rfl rfl (Rm rfl rfl) ?_
  refine WM.r rfl rfl rfl (Ja rfl rfl rfl u136 (by kernel_rfl : _ = some 1) ?_) ?_
  ·omega
  refine WM.r rfl rfl rfl (ldf rfl rfl (by first | exact .here | exact .t1 | exact .t2 | exact .t3 | exact .t4 | exact .t5 | exact .t6 | exact .t7) u5 rfl (m := 4 * k + 3) (by omega) (by rw [List.getElem?_map, hc3]; rfl)) ?_
  refine WM.r rfl rfl rfl (rd_conv rfl rfl u5 u206) ?_
  refine WM.r rfl rfl rfl (rd_or rfl rfl rfl) ?_
  refine WM.set 41 rfl (v' := u32 (word c0 c1 c2 c3)) (congrArg (Value.int .u32) (word_bits c0 c1 c2 c3)) ?_
  refine WM.r rfl rfl rfl (Jb rfl rfl rfl u261 (by kernel_rfl : _ = some 1) ?_) ?_
  ·omega
  refine WM.h0 rfl rfl (st rfl rfl rfl (by first | exact .here | exact .t1 | exact .t2 | exact .t3 | exact .t4 | exact .t5 | exact .t6 | exact .t7) (by kernel_rfl) rfl ?_ rfl) ?_
  ·first | decide | (simp; done) | (simp; omega)
  intro _
  refine WM.nil ?_
  refine Xd (Xa (Cg ?_))
  first
   | (refine Kq rfl (Rz rfl rfl rfl ?_) ?_; focus (omega))
   | (refine Kq rfl (rd_add64 rfl rfl rfl ?_) ?_; focus (omega))
  refine Km rfl (Nn ?_)
  exact WX.loop (k + 1) (by omega) (by repeat (first | exact S0 _ | refine Sc rfl ?_)) (fun w' h => ⟨by omega, by rw [fill_set (words bs) u32 (u32 0) 64 k _ (by omega) (words_get k bs c0 c1 c2 c3 hc0 hc1 hc2 hc3)] at h; exact h⟩)
 ·(try simp only [decide_eq_true_eq, decide_eq_false_iff_not, Bool.not_eq_true', Bool.not_eq_false', Bool.not_not, Int.not_lt, Int.not_le] at hc10)
  refine Cx (Xc (Xc (Xe ?_)))
  obtain rfl : k = 16 := by omega
  refine Xa (Cq (Cq (Cg (Ka rfl (Nn (Xa (Cb ?_)))))))
  refine WC.loop (σ := Nat) (fun j => [(2, .pointer (some ⟨b2, 0, none⟩)), (3, .pointer (some ⟨b3, 0, none⟩)), (6, .int .i64 ((16 + j : Nat) : Int))]) (fun j w' => j ≤ 48 ∧ St (fun _ => True) w [⟨some b3, (sched j (words bs)).map u32 ++ List.replicate (48 - j) (u32 0), 261⟩, ⟨some b2, List.replicate 64 (u32 0), 261⟩] [] w') (fun j => 48 - j) 0 (by repeat (first | exact S0 _ | refine Sc rfl ?_)) (fun w' h => ⟨by omega, by rw [List.take_of_length_le (by omega)] at h; exact h.sub (List.Sublist.refl _) (by simp)⟩) ?_
  intro j; refine WC.pu ?_; intro hj
  refine Cq (Cq (Cg (Km rfl (Kq rfl (rd_lss rfl rfl rfl) (Nn (Xa ?_))))))
  refine Cd rfl (fun hc45 => ?_) (fun hc45 => ?_)
  ·(try simp only [decide_eq_true_eq, decide_eq_false_iff_not, Bool.not_eq_true', Bool.not_eq_false', Bool.not_not, Int.not_lt, Int.not_le] at hc45)
   have hsl := sched_len j (words bs)
   rw [hwl] at hsl
   refine Ck (Xa (Cq (Cb (Cq ?_))))
   refine WC.mix [0, 0, 0, 0, 0, 0, 0, 0, 0, 0] (by kernel_rfl) (by kernel_rfl) (fun w h => h.draw) ?_
   refine WM.r rfl rfl rfl (Rm rfl rfl) ?_
   first
    | (refine WM.r rfl rfl rfl (rd_sub64nl rfl rfl rfl ?_) ?_; focus (omega))
    | (refine WM.r rfl rfl rfl (rd_sub64 rfl rfl rfl ?_) ?_; focus (omega))
   refine WM.r rfl rfl rfl (Jb rfl rfl rfl u261 (by kernel_rfl : _ = some 1) ?_) ?_
   ·omega
   refine WM.r rfl rfl rfl (ld rfl rfl (by first | exact .here | exact .t1 | exact .t2 | exact .t3 | exact .t4 | exact .t5 | exact .t6 | exact .t7) u206 rfl (by exact map_cell _ u32 _ _ _ (get_getD (sched j (words bs)) _ 0 (by omega)))) ?_
   refine WM.r rfl rfl rfl (Rm rfl rfl) ?_
   first
    | (refine WM.r rfl rfl rfl (rd_sub64nl rfl rfl rfl ?_) ?_; focus (omega))
    | (refine WM.r rfl rfl rfl (rd_sub64 rfl rfl rfl ?_) ?_; focus (omega))
   refine WM.r rfl rfl rfl (Jb rfl rfl rfl u261 (by kernel_rfl : _ = some 1) ?_) ?_
   ·omega
   refine WM.r rfl rfl rfl (ld rfl rfl (by first | exact .here | exact .t1 | exact .t2 | exact .t3 | exact .t4 | exact .t5 | exact .t6 | exact .t7) u206 rfl (by exact map_cell _ u32 _ _ _ (get_getD (sched j (words bs)) _ 0 (by omega)))) ?_
   refine WM.r rfl rfl rfl (Ra rfl rfl) ?_
   refine WM.r rfl rfl rfl (Ra rfl rfl) ?_
   refine WM.nil ?_
   refine Xa ?_
   refine WC.mix [0, 0, 0, 0, 0, 0, 1, 0, 1, 0, 0, 0, 0, 0, 0, 0, 0, 0, 0, 0, 1, 0, 1, 0, 0, 0, 0, 0, 0, 2] (by kernel_rfl) (by kernel_rfl) (fun w h => h.draw) ?_
   refine WM.r rfl rfl rfl (Rm rfl rfl) ?_
   refine WM.r rfl rfl rfl (Rm rfl rfl) ?_
   first
    | (refine WM.r rfl rfl rfl (rd_sub64nl rfl rfl rfl ?_) ?_; focus (omega))
    | (refine WM.r rfl rfl rfl (rd_sub64 rfl rfl rfl ?_) ?_; focus (omega))
   refine WM.r rfl rfl rfl (Jb rfl rfl rfl u261 (by kernel_rfl : _ = some 1) ?_) ?_
   ·omega
   refine WM.r rfl rfl rfl (ld rfl rfl (by first | exact .here | exact .t1 | exact .t2 | exact .t3 | exact .t4 | exact .t5 | exact .t6 | exact .t7) u206 rfl (by exact map_cell _ u32 _ _ _ (get_getD (sched j (words bs)) _ 0 (by omega)))) ?_
   refine WM.r rfl rfl rfl (Rm rfl rfl) ?_
   refine WM.g rfl rfl rfl (Oc rfl rfl (Kv fun w _ => turn_lit _ _ (by decide) (by decide) w)) (fun _ _ h => by first | exact h | exact ⟨_, h⟩ | exact ⟨_, h.2⟩ | exact h.2 | exact h.sub (by repeat (first | exact List.Sublist.refl _ | apply List.Sublist.cons)) (fun _ h => by simp [*]) | exact h.2.sub (by repeat (first | exact List.Sublist.refl _ | apply List.Sublist.cons)) (fun _ h => by simp [*])) ?_
   intro _
   refine WM.r rfl rfl rfl (Rm rfl rfl) ?_
   refine WM.g rfl rfl rfl (Oc rfl rfl (Kv fun w _ => turn_lit _ _ (by decide) (by decide) w)) (fun _ _ h => by first | exact h | exact ⟨_, h⟩ | exact ⟨_, h.2⟩ | exact h.2 | exact h.sub (by repeat (first | exact List.Sublist.refl _ | apply List.Sublist.cons)) (fun _ h => by simp [*]) | exact h.2.sub (by repeat (first | exact List.Sublist.refl _ | apply List.Sublist.cons)) (fun _ h => by simp [*])) ?_
   intro _
   refine WM.r rfl rfl rfl (rdW_xor rfl rfl rfl) ?_
   refine WM.r rfl rfl rfl (Rm rfl rfl) ?_
   refine WM.r rfl rfl rfl (rdW_shr rfl rfl rfl (by decide)) ?_
   refine WM.r rfl rfl rfl (rdW_xor rfl rfl rfl) ?_
   refine WM.r rfl rfl rfl (rdW_add rfl rfl rfl) ?_
   refine WM.r rfl rfl rfl (Rm rfl rfl) ?_
   first
    | (refine WM.r rfl rfl rfl (rd_sub64nl rfl rfl rfl ?_) ?_; focus (omega))
    | (refine WM.r rfl rfl rfl (rd_sub64 rfl rfl rfl ?_) ?_; focus (omega))
   refine WM.r rfl rfl rfl (Jb rfl rfl rfl u261 (by kernel_rfl : _ = some 1) ?_) ?_
   ·omega
   refine WM.r rfl rfl rfl (ld rfl rfl (by first | exact .here | exact .t1 | exact .t2 | exact .t3 | exact .t4 | exact .t5 | exact .t6 | exact .t7) u206 rfl (by exact map_cell _ u32 _ _ _ (get_getD (sched j (words bs)) _ 0 (by omega)))) ?_
   refine WM.r rfl rfl rfl (rdW_add rfl rfl rfl) ?_
   refine WM.r rfl rfl rfl (Rm rfl rfl) ?_
   refine WM.g rfl rfl rfl (Oc rfl rfl (Kv fun w _ => turn_lit _ _ (by decide) (by decide) w)) (fun _ _ h => by first | exact h | exact ⟨_, h⟩ | exact ⟨_, h.2⟩ | exact h.2 | exact h.sub (by repeat (first | exact List.Sublist.refl _ | apply List.Sublist.cons)) (fun _ h => by simp [*]) | exact h.2.sub (by repeat (first | exact List.Sublist.refl _ | apply List.Sublist.cons)) (fun _ h => by simp [*])) ?_
   intro _
   refine WM.r rfl rfl rfl (Rm rfl rfl) ?_
   refine WM.g rfl rfl rfl (Oc rfl rfl (Kv fun w _ => turn_lit _ _ (by decide) (by decide) w)) (fun _ _ h => by first | exact h | exact ⟨_, h⟩ | exact ⟨_, h.2⟩ | exact h.2 | exact h.sub (by repeat (first | exact List.Sublist.refl _ | apply List.Sublist.cons)) (fun _ h => by simp [*]) | exact h.2.sub (by repeat (first | exact List.Sublist.refl _ | apply List.Sublist.cons)) (fun _ h => by simp [*])) ?_
   intro _
   refine WM.r rfl rfl rfl (rdW_xor rfl rfl rfl) ?_
   refine WM.r rfl rfl rfl (Rm rfl rfl) ?_
   refine WM.r rfl rfl rfl (rdW_shr rfl rfl rfl (by decide)) ?_
   refine WM.r rfl rfl rfl (rdW_xor rfl rfl rfl) ?_
   refine WM.r rfl rfl rfl (rdW_add rfl rfl rfl) ?_
   refine WM.set 83 rfl (v' := u32 (nextW (sched j (words bs)))) (by unfold nextW; rw [hsl]; rfl) ?_
   refine WM.r rfl rfl rfl (Jb rfl rfl rfl u261 (by kernel_rfl : _ = some 1) ?_) ?_
   ·omega
   refine WM.h0 rfl rfl (st rfl rfl rfl (by first | exact .here | exact .t1 | exact .t2 | exact .t3 | exact .t4 | exact .t5 | exact .t6 | exact .t7) (by kernel_rfl) rfl ?_ rfl) ?_
   ·simp [hsl]; omega
   intro _
   refine WM.nil ?_
   refine Xd (Xa (Cg (Km rfl ?_)))
   first
    | (refine Kq rfl (Rz rfl rfl rfl ?_) ?_; focus (omega))
    | (refine Kq rfl (rd_add64 rfl rfl rfl ?_) ?_; focus (omega))
   refine Ka rfl (Nn ?_)
   exact WX.loop (j + 1) (by omega) (by repeat (first | exact S0 _ | refine Sc rfl ?_)) (fun w' h => ⟨by omega, by rw [sched_set j (words bs) hwl (by omega)] at h; exact h⟩)
  ·(try simp only [decide_eq_true_eq, decide_eq_false_iff_not, Bool.not_eq_true', Bool.not_eq_false', Bool.not_not, Int.not_lt, Int.not_le] at hc45)
   refine Cx (Xc (Xc (Xe ?_)))
   obtain rfl : j = 48 := by omega
   refine WX.st (S' := St (fun _ => True) w [⟨some b3, (sched 48 (words bs)).map u32, 261⟩, ⟨some b2, List.replicate 64 (u32 0), 261⟩] []) (fun w' h => by rw [Nat.sub_self, List.replicate_zero, List.append_nil] at h; exact h) ?_
   refine Xa (Cq (Cg ?_))
   refine Kq rfl (lda rfl rfl (by first | exact .here | exact .t1 | exact .t2 | exact .t3 | exact .t4 | exact .t5 | exact .t6 | exact .t7) u261 rfl ?_) ?_
   ·rw [List.length_map, sched_len, hwl]; kernel_rfl
   refine Ng rfl rfl (sta rfl rfl rfl (by first | exact .here | exact .t1 | exact .t2 | exact .t3 | exact .t4 | exact .t5 | exact .t6 | exact .t7) ?_ ?_ ?_) ?_
   ·rw [List.length_map, sched_len, hwl]; kernel_rfl
   ·exact u32_one _
   ·rw [List.length_map, sched_len, hwl, List.length_replicate]
   intro _
   refine Nn (Xa (Ce ?_))
   exact WX.ret1c rfl rfl (by first | exact .here | exact .t1 | exact .t2 | exact .t3) u261 rfl (by rw [List.length_map, sched_len, hwl]; kernel_rfl) fun w' hS => ⟨rfl, hS.below⟩
theorem St.sl_of {ok : Nat → Prop} {w0 w : World} {own : List Ent} {fs : List Fact} {b off : Nat} {cs xs : List Value} {T : TypeId} (hk : InE own ⟨some b, cs, T⟩) (hx : (cs.drop off).take xs.length = xs) (h : St ok w0 own fs w) : (Fact.sl (some ⟨b, off, none⟩) xs).holds (fun _ => True) w := by
 obtain ⟨kk, hk⟩ := hk.get
 exact h.own_sl hk (fun i hi => by rw [← hx, List.getElem?_take, if_pos hi, List.getElem?_drop])
theorem after_ok (x0 : List W) (hx0 : x0.length = 8) (bs : List UInt8) (hbs : bs.length = 64) (b off cap : Nat) (hcap : 64 ≤ cap) (w : World) (hf : (Fact.sl (some ⟨b, off, none⟩) (bs.map B)).holds (fun _ => True) w) :
  Cw 244 #[.agg (x0.map u32).toArray, .slice (some ⟨b, off, none⟩) 64 cap] w (.agg ((compress x0 bs).map u32).toArray) := by
 have hwl := words_len 16 bs hbs
 have hsl := sched_len 48 (words bs)
 rw [hwl] at hsl
 obtain ⟨ws, hws⟩ : ∃ ws, sched 48 (words bs) = ws := ⟨_, rfl⟩
 have hsch := schedule_ok bs hbs b off cap hcap
 rw [hws] at hsl hsch
 show Calls _ _ _ _ fun e w' => e = .returned (.agg ((addW (rounds KK (sched 48 (words bs)) 64 x0) x0).map u32).toArray) ∧ _
 rw [hws]
 refine enter (S := St (fun _ => True) w [] [Fact.sl (some ⟨b, off, none⟩) (bs.map B)]) (L := [(0, .agg (x0.map u32).toArray), (1, .slice (some ⟨b, off, none⟩) 64 cap)]) Tryz.func244 rfl Tryz.ntmps244 rfl (Ac rfl (Ac rfl (An _))) (St.start (fun _ _ => trivial) (by simpa using hf)) ?_
 refine Cq (Cg ?_)
 refine Kh rfl (Ob rfl rfl (cs := x0.map u32) rfl) ?_
 intro b2
 refine Kh rfl (Oz [.int .u32 0, .int .u32 0, .int .u32 0, .int .u32 0, .int .u32 0, .int .u32 0, .int .u32 0, .int .u32 0] rfl) ?_
 intro b4
 refine Nn (Xa (Cq (Cg ?_)))
 refine Ku rfl (Oc rfl rfl (Kv fun w _ => constants_ok w)) ?_
 refine Km rfl ?_
 refine Ku rfl (Oc rfl rfl (Kv fun w hS => hsch w (hS.holds_any (k := 0) rfl))) ?_
 refine Kh rfl (Oa rfl (v := (.agg (List.replicate 64 (.int .u32 0)).toArray)) (cs := (List.replicate 64 (.int .u32 0))) (by kernel_rfl) rfl) ?_
 intro b5
 refine Kh rfl (Oa rfl (v := (.agg (List.replicate 64 (.int .u32 0)).toArray)) (cs := (List.replicate 64 (.int .u32 0))) (by kernel_rfl) rfl) ?_
 intro b6
 refine Ng rfl rfl (sta rfl rfl rfl (by first | exact .here | exact .t1 | exact .t2 | exact .t3 | exact .t4 | exact .t5 | exact .t6 | exact .t7) ?_ ?_ ?_) ?_
 ·kernel_rfl
 ·exact u32_one _
 ·first | rfl | simp
 intro _
 refine Ng rfl rfl (sta rfl rfl rfl (by first | exact .here | exact .t1 | exact .t2 | exact .t3 | exact .t4 | exact .t5 | exact .t6 | exact .t7) ?_ ?_ ?_) ?_
 ·rw [List.length_map, hsl]; kernel_rfl
 ·exact u32_one _
 ·simp [hsl]
 intro _
 refine Nn (Xa (Cq (Cg ?_)))
 refine Kq rfl (lda rfl rfl (by first | exact .here | exact .t1 | exact .t2 | exact .t3 | exact .t4 | exact .t5 | exact .t6 | exact .t7) u251 rfl ?_) ?_
 ·rw [List.length_map, hx0]; kernel_rfl
 refine Kh rfl (Oz [.int .u32 0, .int .u32 0, .int .u32 0, .int .u32 0, .int .u32 0, .int .u32 0, .int .u32 0, .int .u32 0] rfl) ?_
 intro b7
 refine Ng rfl rfl (sta rfl rfl rfl (by first | exact .here | exact .t1 | exact .t2 | exact .t3 | exact .t4 | exact .t5 | exact .t6 | exact .t7) ?_ ?_ ?_) ?_
 ·rw [List.length_map, hx0]; kernel_rfl
 ·exact u32_one _
 ·simp [hx0]
 intro _
 refine Nn (Xa (Cq (Cq (Cg (Km rfl (Nn (Xa (Cb ?_))))))))
 refine WC.loop (σ := Nat) (fun k => [(2, .pointer (some ⟨b2, 0, none⟩)), (4, .pointer (some ⟨b4, 0, none⟩)), (5, .pointer (some ⟨b5, 0, none⟩)), (6, .pointer (some ⟨b6, 0, none⟩)), (7, .pointer (some ⟨b7, 0, none⟩)), (22, .int .i64 (k : Int))]) (fun k w' => k ≤ 64 ∧ St (fun _ => True) w [⟨some b7, (rounds KK ws k x0).map u32, 251⟩, ⟨some b6, ws.map u32, 261⟩, ⟨some b5, KK.map u32, 261⟩, ⟨some b4, List.replicate 8 (u32 0), 251⟩, ⟨some b2, x0.map u32, 251⟩] [] w') (fun k => 64 - k) 0 (by repeat (first | exact S0 _ | refine Sc rfl ?_)) (fun w' h => ⟨by omega, h.sub (List.Sublist.refl _) (by simp)⟩) ?_
 intro k; refine WC.pu ?_; intro hk
 refine Cq (Cg (Kq rfl (rd_lss rfl rfl rfl) (Nn (Xa (Cq ?_)))))
 refine Cd rfl (fun hc23 => ?_) (fun hc23 => ?_)
 ·(try simp only [decide_eq_true_eq, decide_eq_false_iff_not, Bool.not_eq_true', Bool.not_eq_false', Bool.not_not, Int.not_lt, Int.not_le] at hc23)
  obtain ⟨xa, xb, xc, xd, xe, xf, xg, xh, hX⟩ := eight (rounds KK ws k x0) (rounds_len _ _ _ _ hx0)
  rw [hX]
  have hkk : KK.length = 64 := rfl
  refine Ck (Xa (Cq (Cb (Cq (Cg (Km rfl (Ka rfl (Nn (Xa (Cq ?_))))))))))
  refine WC.mix [0, 0, 0, 0, 0, 0, 0, 0, 0, 0, 0, 0, 0, 0, 0, 0, 0, 0] (by kernel_rfl) (by kernel_rfl) (fun w h => h.draw) ?_
  refine WM.r rfl rfl rfl (Jb rfl rfl rfl u251 (by kernel_rfl : _ = some 1) ?_) ?_
  ·omega
  refine WM.r rfl rfl rfl (ld rfl rfl (by first | exact .here | exact .t1 | exact .t2 | exact .t3 | exact .t4 | exact .t5 | exact .t6 | exact .t7) u206 rfl (by rfl)) ?_
  refine WM.r rfl rfl rfl (Jb rfl rfl rfl u251 (by kernel_rfl : _ = some 1) ?_) ?_
  ·omega
  refine WM.r rfl rfl rfl (ld rfl rfl (by first | exact .here | exact .t1 | exact .t2 | exact .t3 | exact .t4 | exact .t5 | exact .t6 | exact .t7) u206 rfl (by rfl)) ?_
  refine WM.r rfl rfl rfl (Jb rfl rfl rfl u251 (by kernel_rfl : _ = some 1) ?_) ?_
  ·omega
  refine WM.r rfl rfl rfl (ld rfl rfl (by first | exact .here | exact .t1 | exact .t2 | exact .t3 | exact .t4 | exact .t5 | exact .t6 | exact .t7) u206 rfl (by rfl)) ?_
  refine WM.r rfl rfl rfl (Jb rfl rfl rfl u251 (by kernel_rfl : _ = some 1) ?_) ?_
  ·omega
  refine WM.r rfl rfl rfl (ld rfl rfl (by first | exact .here | exact .t1 | exact .t2 | exact .t3 | exact .t4 | exact .t5 | exact .t6 | exact .t7) u206 rfl (by rfl)) ?_
  refine WM.r rfl rfl rfl (Jb rfl rfl rfl u251 (by kernel_rfl : _ = some 1) ?_) ?_
  ·omega
  refine WM.r rfl rfl rfl (ld rfl rfl (by first | exact .here | exact .t1 | exact .t2 | exact .t3 | exact .t4 | exact .t5 | exact .t6 | exact .t7) u206 rfl (by rfl)) ?_
  refine WM.r rfl rfl rfl (Jb rfl rfl rfl u251 (by kernel_rfl : _ = some 1) ?_) ?_
  ·omega
  refine WM.r rfl rfl rfl (ld rfl rfl (by first | exact .here | exact .t1 | exact .t2 | exact .t3 | exact .t4 | exact .t5 | exact .t6 | exact .t7) u206 rfl (by rfl)) ?_
  refine WM.r rfl rfl rfl (Ra rfl rfl) ?_
  refine WM.r rfl rfl rfl (Ra rfl rfl) ?_
  refine WM.r rfl rfl rfl (Ra rfl rfl) ?_
  refine WM.r rfl rfl rfl (Ra rfl rfl) ?_
  refine WM.r rfl rfl rfl (Ra rfl rfl) ?_
  refine WM.r rfl rfl rfl (Ra rfl rfl) ?_
  refine WM.nil ?_
  refine Xa (Cq ?_)
  refine WC.mix [0, 0, 0, 1, 0, 1, 0, 0, 1, 0, 0, 0, 0, 0, 0, 0, 0, 0, 0, 0, 0, 0, 0, 0, 0, 0, 0, 0, 0] (by kernel_rfl) (by kernel_rfl) (fun w h => h.draw) ?_
  refine WM.r rfl rfl rfl (Jb rfl rfl rfl u251 (by kernel_rfl : _ = some 1) ?_) ?_
  ·omega
  refine WM.r rfl rfl rfl (ld rfl rfl (by first | exact .here | exact .t1 | exact .t2 | exact .t3 | exact .t4 | exact .t5 | exact .t6 | exact .t7) u206 rfl (by rfl)) ?_
  refine WM.r rfl rfl rfl (Rm rfl rfl) ?_
  refine WM.g rfl rfl rfl (Oc rfl rfl (Kv fun w _ => turn_lit _ _ (by decide) (by decide) w)) (fun _ _ h => by first | exact h | exact ⟨_, h⟩ | exact ⟨_, h.2⟩ | exact h.2 | exact h.sub (by repeat (first | exact List.Sublist.refl _ | apply List.Sublist.cons)) (fun _ h => by simp [*]) | exact h.2.sub (by repeat (first | exact List.Sublist.refl _ | apply List.Sublist.cons)) (fun _ h => by simp [*])) ?_
  intro _
  refine WM.r rfl rfl rfl (Rm rfl rfl) ?_
  refine WM.g rfl rfl rfl (Oc rfl rfl (Kv fun w _ => turn_lit _ _ (by decide) (by decide) w)) (fun _ _ h => by first | exact h | exact ⟨_, h⟩ | exact ⟨_, h.2⟩ | exact h.2 | exact h.sub (by repeat (first | exact List.Sublist.refl _ | apply List.Sublist.cons)) (fun _ h => by simp [*]) | exact h.2.sub (by repeat (first | exact List.Sublist.refl _ | apply List.Sublist.cons)) (fun _ h => by simp [*])) ?_
  intro _
  refine WM.r rfl rfl rfl (rdW_xor rfl rfl rfl) ?_
  refine WM.r rfl rfl rfl (Rm rfl rfl) ?_
  refine WM.g rfl rfl rfl (Oc rfl rfl (Kv fun w _ => turn_lit _ _ (by decide) (by decide) w)) (fun _ _ h => by first | exact h | exact ⟨_, h⟩ | exact ⟨_, h.2⟩ | exact h.2 | exact h.sub (by repeat (first | exact List.Sublist.refl _ | apply List.Sublist.cons)) (fun _ h => by simp [*]) | exact h.2.sub (by repeat (first | exact List.Sublist.refl _ | apply List.Sublist.cons)) (fun _ h => by simp [*])) ?_
  intro _
  refine WM.r rfl rfl rfl (rdW_xor rfl rfl rfl) ?_
  refine WM.r rfl rfl rfl (rdW_add rfl rfl rfl) ?_
  refine WM.r rfl rfl rfl (Rm rfl rfl) ?_
  refine WM.r rfl rfl rfl (Rm rfl rfl) ?_
  refine WM.r rfl rfl rfl (rdW_and rfl rfl rfl) ?_
  refine WM.r rfl rfl rfl (Rm rfl rfl) ?_
  refine WM.r rfl rfl rfl (rdW_com rfl rfl) ?_
  refine WM.r rfl rfl rfl (Rm rfl rfl) ?_
  refine WM.r rfl rfl rfl (rdW_and rfl rfl rfl) ?_
  refine WM.r rfl rfl rfl (rdW_xor rfl rfl rfl) ?_
  refine WM.r rfl rfl rfl (rdW_add rfl rfl rfl) ?_
  refine WM.r rfl rfl rfl (Rm rfl rfl) ?_
  refine WM.r rfl rfl rfl (Jb rfl rfl rfl u261 (by kernel_rfl : _ = some 1) ?_) ?_
  ·omega
  refine WM.r rfl rfl rfl (ld rfl rfl (by first | exact .here | exact .t1 | exact .t2 | exact .t3 | exact .t4 | exact .t5 | exact .t6 | exact .t7) u206 rfl (by rw [List.getElem?_map, get_getD KK k 0 (by omega)]; rfl)) ?_
  refine WM.r rfl rfl rfl (rdW_add rfl rfl rfl) ?_
  refine WM.r rfl rfl rfl (Rm rfl rfl) ?_
  refine WM.r rfl rfl rfl (Jb rfl rfl rfl u261 (by kernel_rfl : _ = some 1) ?_) ?_
  ·omega
  refine WM.r rfl rfl rfl (ld rfl rfl (by first | exact .here | exact .t1 | exact .t2 | exact .t3 | exact .t4 | exact .t5 | exact .t6 | exact .t7) u206 rfl (by rw [List.getElem?_map, get_getD ws k 0 (by omega)]; rfl)) ?_
  refine WM.r rfl rfl rfl (rdW_add rfl rfl rfl) ?_
  refine WM.r rfl rfl rfl (Ra rfl rfl) ?_
  refine WM.nil ?_
  refine Xa (Cq (Cg (Km rfl ?_)))
  refine Ku rfl (Oc rfl rfl (Kv fun w _ => turn_lit _ _ (by decide) (by decide) w)) ?_
  refine Km rfl ?_
  refine Ku rfl (Oc rfl rfl (Kv fun w _ => turn_lit _ _ (by decide) (by decide) w)) ?_
  refine Kq rfl (rdW_xor rfl rfl rfl) (Km rfl ?_)
  refine Ku rfl (Oc rfl rfl (Kv fun w _ => turn_lit _ _ (by decide) (by decide) w)) ?_
  refine Kq rfl (rdW_xor rfl rfl rfl) (Km rfl (Km rfl (Kq rfl (rdW_and rfl rfl rfl) (Km rfl (Km rfl (Kq rfl (rdW_and rfl rfl rfl) (Kq rfl (rdW_xor rfl rfl rfl) (Km rfl (Km rfl (Kq rfl (rdW_and rfl rfl rfl) (Kq rfl (rdW_xor rfl rfl rfl) (Kq rfl (rdW_add rfl rfl rfl) (Ka rfl (Nn (Xa (Cq ?_))))))))))))))))
  refine WC.mix [0, 0, 2] (by kernel_rfl) (by kernel_rfl) (fun w h => h.draw) ?_
  refine WM.r rfl rfl rfl (rd_slaf rfl rfl rfl u251 (by kernel_rfl : _ = some 1) ?_ (by (try simp only [Int.toNat_natCast, Nat.mul_one, Nat.zero_add, Nat.add_zero, Nat.zero_mul, Int.reduceToNat, Nat.reduceAdd, Nat.reduceMul, Nat.reduceSub, Nat.sub_zero]); rfl) (by (try simp only [Int.toNat_natCast, Nat.mul_one, Nat.zero_add, Nat.add_zero, Nat.zero_mul, Int.reduceToNat, Nat.reduceAdd, Nat.reduceMul, Nat.reduceSub, Nat.sub_zero]); rfl) (by (try simp only [Int.toNat_natCast, Nat.mul_one, Nat.zero_add, Nat.add_zero, Nat.zero_mul, Int.reduceToNat, Nat.reduceAdd, Nat.reduceMul, Nat.reduceSub, Nat.sub_zero]); rfl)) ?_
  ·omega
  refine WM.r rfl rfl rfl (rd_slat rfl rfl rfl u251 (by kernel_rfl : _ = some 1) ?_ (by (try simp only [Int.toNat_natCast, Nat.mul_one, Nat.zero_add, Nat.add_zero, Nat.zero_mul, Int.reduceToNat, Nat.reduceAdd, Nat.reduceMul, Nat.reduceSub, Nat.sub_zero]); rfl)) ?_
  ·omega
  refine WM.h rfl rfl rfl (cpyl rfl rfl rfl (by first | exact .here | exact .t1 | exact .t2 | exact .t3 | exact .t4 | exact .t5 | exact .t6 | exact .t7) u181 (by kernel_rfl) (by rfl) (by rfl) (fun w' h => h.sl_of (xs := [u32 xa, u32 xb, u32 xc, u32 xd, u32 xe, u32 xf, u32 xg]) (by first | exact .here | exact .t1 | exact .t2 | exact .t3) rfl) (by simp [u32, Value.oneCell']) (by simp) (ys := [u32 xa, u32 xa, u32 xb, u32 xc, u32 xd, u32 xe, u32 xf, u32 xg]) rfl) ?_
  intro _
  refine WM.nil ?_
  refine Xa (Cq (Cg ?_))
  refine Kq rfl (Jb rfl rfl rfl u251 (by kernel_rfl : _ = some 1) ?_) ?_
  ·omega
  refine Kq rfl (ld rfl rfl (by first | exact .here | exact .t1 | exact .t2 | exact .t3 | exact .t4 | exact .t5 | exact .t6 | exact .t7) u206 rfl (by rfl)) ?_
  refine Km rfl (Kq rfl (rdW_add rfl rfl rfl) ?_)
  refine Kq rfl (Jb rfl rfl rfl u251 (by kernel_rfl : _ = some 1) ?_) ?_
  ·omega
  refine Ng rfl rfl (st rfl rfl rfl (by first | exact .here | exact .t1 | exact .t2 | exact .t3 | exact .t4 | exact .t5 | exact .t6 | exact .t7) (by kernel_rfl) rfl ?_ rfl) ?_
  ·first | decide | (simp; done) | (simp; omega)
  intro _
  refine Nn (Xa (Cg (Km rfl (Km rfl (Kq rfl (rdW_add rfl rfl rfl) ?_)))))
  refine Kq rfl (Jb rfl rfl rfl u251 (by kernel_rfl : _ = some 1) ?_) ?_
  ·omega
  refine Ng rfl rfl (st rfl rfl rfl (by first | exact .here | exact .t1 | exact .t2 | exact .t3 | exact .t4 | exact .t5 | exact .t6 | exact .t7) (by kernel_rfl) rfl ?_ rfl) ?_
  ·first | decide | (simp; done) | (simp; omega)
  intro _
  refine Nn (Xd (Xa (Cg ?_)))
  first
   | (refine Kq rfl (Rz rfl rfl rfl ?_) ?_; focus (omega))
   | (refine Kq rfl (rd_add64 rfl rfl rfl ?_) ?_; focus (omega))
  refine Km rfl (Nn ?_)
  exact WX.loop (k + 1) (by omega) (by repeat (first | exact S0 _ | refine Sc rfl ?_)) (fun w' h => ⟨by omega, by rw [show rounds KK ws (k + 1) x0 = rnd (KK.getD k 0) (ws.getD k 0) (rounds KK ws k x0) from rfl, hX]; exact h⟩)
 ·(try simp only [decide_eq_true_eq, decide_eq_false_iff_not, Bool.not_eq_true', Bool.not_eq_false', Bool.not_not, Int.not_lt, Int.not_le] at hc23)
  refine Cx (Xc (Xc (Xe ?_)))
  obtain rfl : k = 64 := by omega
  have hrl := rounds_len KK ws 64 x0 hx0
  obtain ⟨X, hX⟩ : ∃ X, rounds KK ws 64 x0 = X := ⟨_, rfl⟩
  rw [hX] at hrl ⊢
  have hadl := addW_len X x0 (by omega)
  refine Xa (Cq (Cq (Cg (Km rfl (Nn (Xa (Cb ?_)))))))
  refine WC.loop (σ := Nat) (fun k => [(2, .pointer (some ⟨b2, 0, none⟩)), (4, .pointer (some ⟨b4, 0, none⟩)), (7, .pointer (some ⟨b7, 0, none⟩)), (98, .int .i64 (k : Int))]) (fun k w' => k ≤ 8 ∧ St (fun _ => True) w [⟨some b7, ((addW X x0).take k ++ X.drop k).map u32, 251⟩, ⟨some b4, List.replicate 8 (u32 0), 251⟩, ⟨some b2, x0.map u32, 251⟩] [] w') (fun k => 8 - k) 0 (by repeat (first | exact S0 _ | refine Sc rfl ?_)) (fun w' h => ⟨by omega, h.sub (by repeat first | exact List.Sublist.refl _ | apply List.Sublist.cons_cons | apply List.Sublist.cons) (by simp)⟩) ?_
  intro q; refine WC.pu ?_; intro hq
  refine Cq (Cg (Kq rfl (rd_lss rfl rfl rfl) (Nn (Xa (Cq ?_)))))
  refine Cd rfl (fun hc99 => ?_) (fun hc99 => ?_)
  ·(try simp only [decide_eq_true_eq, decide_eq_false_iff_not, Bool.not_eq_true', Bool.not_eq_false', Bool.not_not, Int.not_lt, Int.not_le] at hc99)
   have hXq := get_getD X q 0 (by omega)
   have hxq := get_getD x0 q 0 (by omega)
   refine Ck (Xa (Cq (Cb (Cq (Cg (Km rfl (Ka rfl (Nn (Xa ?_)))))))))
   refine WC.mix [0, 0, 0, 0, 0, 0, 0, 0, 2] (by kernel_rfl) (by kernel_rfl) (fun w h => h.draw) ?_
   refine WM.r rfl rfl rfl (Rm rfl rfl) ?_
   refine WM.r rfl rfl rfl (Jb rfl rfl rfl u251 (by kernel_rfl : _ = some 1) ?_) ?_
   ·omega
   refine WM.r rfl rfl rfl (ld rfl rfl (by first | exact .here | exact .t1 | exact .t2 | exact .t3 | exact .t4 | exact .t5 | exact .t6 | exact .t7) u206 rfl (by rw [List.getElem?_map, List.getElem?_append_right (by simp; omega), List.getElem?_drop, List.length_take, hadl, show q + (q - min q X.length) = q by omega, hXq]; rfl)) ?_
   refine WM.r rfl rfl rfl (Rm rfl rfl) ?_
   refine WM.r rfl rfl rfl (Jb rfl rfl rfl u251 (by kernel_rfl : _ = some 1) ?_) ?_
   ·omega
   refine WM.r rfl rfl rfl (ld rfl rfl (by first | exact .here | exact .t1 | exact .t2 | exact .t3 | exact .t4 | exact .t5 | exact .t6 | exact .t7) u206 rfl (by rw [List.getElem?_map, hxq]; rfl)) ?_
   refine WM.r rfl rfl rfl (rdW_add rfl rfl rfl) ?_
   refine WM.r rfl rfl rfl (Jb rfl rfl rfl u251 (by kernel_rfl : _ = some 1) ?_) ?_
   ·omega
   refine WM.h0 rfl rfl (st rfl rfl rfl (by first | exact .here | exact .t1 | exact .t2 | exact .t3 | exact .t4 | exact .t5 | exact .t6 | exact .t7) (by kernel_rfl) rfl ?_ rfl) ?_
   ·simp; omega
   intro _
   refine WM.nil ?_
   refine Xd (Xa (Cg ?_))
   first
    | (refine Kq rfl (Rz rfl rfl rfl ?_) ?_; focus (omega))
    | (refine Kq rfl (rd_add64 rfl rfl rfl ?_) ?_; focus (omega))
   refine Km rfl (Nn ?_)
   exact WX.loop (q + 1) (by omega) (by repeat (first | exact S0 _ | refine Sc rfl ?_)) (fun w' h => ⟨by omega, by rw [addW_set X x0 q _ _ (by omega) hXq hxq] at h; exact h⟩)
  ·(try simp only [decide_eq_true_eq, decide_eq_false_iff_not, Bool.not_eq_true', Bool.not_eq_false', Bool.not_not, Int.not_lt, Int.not_le] at hc99)
   refine Cx (Xc (Xc (Xe ?_)))
   obtain rfl : q = 8 := by omega
   have hfin : (addW X x0).take 8 ++ X.drop 8 = addW X x0 := by rw [List.take_of_length_le (by omega), List.drop_eq_nil_of_le (by omega), List.append_nil]
   rw [hfin]
   have hal : (addW X x0).length = 8 := by omega
   refine Xa (Cq (Cg ?_))
   refine Kq rfl (lda rfl rfl (by first | exact .here | exact .t1 | exact .t2 | exact .t3 | exact .t4 | exact .t5 | exact .t6 | exact .t7) u251 rfl ?_) ?_
   ·rw [List.length_map, hal]; kernel_rfl
   refine Ng rfl rfl (sta rfl rfl rfl (by first | exact .here | exact .t1 | exact .t2 | exact .t3 | exact .t4 | exact .t5 | exact .t6 | exact .t7) ?_ ?_ ?_) ?_
   ·rw [List.length_map, hal]; kernel_rfl
   ·exact u32_one _
   ·rw [List.length_map, hal]; rfl
   intro _
   refine Nn (Xa (Ce ?_))
   exact WX.ret1c rfl rfl (by first | exact .here | exact .t1 | exact .t2 | exact .t3) u251 rfl (by rw [List.length_map, hal]; kernel_rfl) fun w' hS => ⟨rfl, hS.below⟩
end Go.Proofs.YthkmpjobfdeoaaaGreatDoor
