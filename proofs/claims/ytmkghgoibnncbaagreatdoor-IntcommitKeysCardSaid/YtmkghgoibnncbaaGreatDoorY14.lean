/-
  Parts of the walk: Ref2 Mac Coi1 Coi2 Itoa Coi3 Apps.
-/
import Derived.Test.YtmkghgoibnncbaaGreatDoorY13
import Derived.Lib.ItoaNum
import Derived.Lib.AppendStr
namespace Go.Proofs.YtmkghgoibnncbaaGreatDoor
open Go.RowKit
set_option linter.unusedSimpArgs false
set_option linter.unusedVariables false
set_option maxHeartbeats 600000
set_option maxRecDepth 20000
structure GC where
 k : Nat
 b : Nat
 cap : Nat
 sp : List Value
theorem rcompress_ok (x0 : List W) (hx0 : x0.length = 8) (bs : List UInt8) (hbs : bs.length = 64) (ad : Option Addr) (cap0 : Nat) (ok : Nat → Prop) (w : World) (hok : ∀ b, w.heap.size ≤ b → ok b) (hf : (Fact.sl ad (x0.map u32)).holds (fun _ => True) w) :
  Calls Tryz.prog 251 #[.slice ad 8 cap0, .string (S bs)] w fun e w' => ∃ g : GC, e = .returned (.slice (some ⟨g.b, 0, none⟩) 8 g.cap) ∧ Below w.heap.size w w' ∧ ∀ x ∈ [Fact.sl (some ⟨g.b, 0, none⟩) ((compress x0 bs).map u32)], x.holds ok w' := by
 obtain ⟨ad, rfl⟩ : ∃ a, ad = some a := by
  rcases hf with h | ⟨b, off, cs, T, fz, h, _⟩
  ·simp at h; subst h; simp at hx0
  ·exact ⟨_, h⟩
 obtain ⟨b0, off0, rfl⟩ : ∃ b0 off0, ad = ⟨b0, off0, none⟩ := by
  rcases hf with h | ⟨b, off, cs, T, fz, h, _⟩
  ·simp at h; subst h; simp at hx0
  ·exact ⟨b, off, Option.some.inj h⟩
 have hwl := words_len 16 bs hbs
 have hsl := sched_len 48 (words bs)
 rw [hwl] at hsl
 have hsch := rsched_ok bs hbs
 obtain ⟨ws, hws⟩ : ∃ ws, sched 48 (words bs) = ws := ⟨_, rfl⟩
 have hcomp : compress x0 bs = addW (rounds KK ws 64 x0) x0 := by rw [← hws]; rfl
 rw [hws] at hsl hsch
 rw [hcomp]
 have hkk : KK.length = 64 := rfl
 refine Calls.mono (R := fun e w' => ∃ g : GC, e = .returned (.slice (some ⟨g.b, 0, none⟩) 8 g.cap) ∧ St (fun b => ok b ∨ b < w.heap.size) w [] [Fact.sl (some ⟨g.b, 0, none⟩) ((addW (rounds KK ws 64 x0) x0).map u32)] w' ∧ (Fact.sl (some ⟨g.b, 0, none⟩) ((addW (rounds KK ws 64 x0) x0).map u32)).holds (fun b => w.heap.size ≤ b) w') ?_ (fun e w' ⟨g, he, hS, hh⟩ => ⟨g, he, hS.below, fun x hx => by simp only [List.mem_singleton] at hx; subst hx; exact Fact.mono _ (fun b hb => hok b hb) hh⟩)
 refine enter (S := St (fun b => ok b ∨ b < w.heap.size) w [] [Fact.sl (some ⟨b0, off0, none⟩) (x0.map u32)]) (L := [(0, .slice (some ⟨b0, off0, none⟩) 8 cap0), (1, .string (S bs))]) Tryz.func251 rfl Tryz.ntmps251 rfl (Ac rfl (Ac rfl (An _))) (St.start (fun b hb => .inl (hok b hb)) (by intro f hf'; simp only [List.mem_singleton] at hf'; subst hf'; exact Fact.mono _ (fun b hb => .inr hb.2) (Fact.here _ hf))) ?_
 refine Cq (Cg (Ka rfl (Nn (Xa (Cq (Cg (Km rfl ?_)))))))
 refine Kh rfl (Oc rfl rfl (keep_fact (F := fun b : Nat => [Fact.sl (some ⟨b, 0, none⟩) (ws.map u32)]) fun w hS => hsch _ w hS.fresh)) ?_
 intro bw
 refine Kh rfl (Oc rfl rfl (keep_fact (F := fun b : Nat => [Fact.sl (some ⟨b, 0, none⟩) (KK.map u32)]) fun w hS => rconst_ok _ w hS.fresh)) ?_
 intro bk
 refine Ka rfl (Ka rfl (Nn (Xa (Cq (Cg ?_)))))
 refine Kh rfl (og_bs1 rfl rfl u206 (by kernel_rfl : _ = some (some (.int .u32 0), 1, 4)) rfl (by simp only [List.map]; rfl) rfl rfl ?_ (by decide)) ?_
 ·simp
 intro b21
 refine Km rfl ?_
 refine WL.st (S' := St (fun b => ok b ∨ b < w.heap.size) w [⟨some b21, [] ++ [], 240⟩] [Fact.sl (some ⟨bk, 0, none⟩) (KK.map u32), Fact.sl (some ⟨bw, 0, none⟩) (ws.map u32), Fact.sl (some ⟨b0, off0, none⟩) (x0.map u32)]) (fun _ h => h) ?_
 refine Kh rfl (appx rfl u206 (by kernel_rfl : _ = some (some (.int .u32 0), 1, 4)) rfl (ob := some b21) .here (by rfl) (by rfl) (fun w hS => hS.holds_any (k := 2) rfl) (by simp [hx0]) (by simp) (u32_one _)) ?_
 intro g23
 refine WL.pu ?_
 intro hg23
 refine Ka rfl (Nn (Xa (Cq (Cq (Cg (Ka rfl (Nn (Xa (Cb ?_)))))))))
 refine WC.loop (σ := GC) (fun g => [(0, .slice (some ⟨b0, off0, none⟩) 8 cap0), (5, .slice (some ⟨bw, 0, none⟩) 64 64), (6, .slice (some ⟨bk, 0, none⟩) 64 64), (7, .slice (some ⟨g.b, 0, none⟩) 8 g.cap), (8, .int .i64 (g.k : Int))]) (fun g w' => (g.k ≤ 64 ∧ g.cap = 8 + g.sp.length) ∧ St (fun b => ok b ∨ b < w.heap.size) w [⟨some g.b, (rounds KK ws g.k x0).map u32 ++ g.sp, 240⟩] [Fact.sl (some ⟨bk, 0, none⟩) (KK.map u32), Fact.sl (some ⟨bw, 0, none⟩) (ws.map u32), Fact.sl (some ⟨b0, off0, none⟩) (x0.map u32)] w') (fun g => 64 - g.k) ⟨0, g23.b, g23.cap, g23.spare⟩ (by repeat (first | exact S0 _ | refine Sc rfl ?_)) (fun w' h => ⟨⟨by simp, by have := hg23.2; show g23.cap = 8 + g23.spare.length; omega⟩, h⟩) ?_
 rintro ⟨k, bv, capv, sp⟩; dsimp only; refine WC.pu ?_; rintro ⟨hk, hcapv⟩
 refine Cq (Cq (Cg (Km rfl (Kq rfl (rd_lss rfl rfl rfl) (Nn (Xa ?_))))))
 refine Cd rfl (fun hc25 => ?_) (fun hc25 => ?_)
 ·(try simp only [decide_eq_true_eq, decide_eq_false_iff_not, Bool.not_eq_true', Bool.not_eq_false', Bool.not_not, Int.not_lt, Int.not_le] at hc25)
  obtain ⟨xa, xb, xc, xd, xe, xf, xg, xh, hX⟩ := eight (rounds KK ws k x0) (rounds_len _ _ _ _ hx0)
  rw [hX]
  refine Ck (Xa (Cq (Cb (Cq ?_))))
  refine WC.mix [0, 0, 0, 0, 0, 0, 0, 0, 0, 0, 0, 0, 0, 0, 0, 0, 0, 0, 0, 0, 0, 0, 0, 0] (by kernel_rfl) (by kernel_rfl) (fun w h => h.draw) ?_
  refine WM.r rfl rfl rfl (Rm rfl rfl) ?_
  refine WM.r rfl rfl rfl (Ja rfl rfl rfl u206 (by kernel_rfl : _ = some 1) ?_) ?_
  ·omega
  refine WM.r rfl rfl rfl (ld rfl rfl (by first | exact .here | exact .t1 | exact .t2 | exact .t3 | exact .t4 | exact .t5 | exact .t6 | exact .t7) u240 rfl (by rfl)) ?_
  refine WM.r rfl rfl rfl (Rm rfl rfl) ?_
  refine WM.r rfl rfl rfl (Ja rfl rfl rfl u206 (by kernel_rfl : _ = some 1) ?_) ?_
  ·omega
  refine WM.r rfl rfl rfl (ld rfl rfl (by first | exact .here | exact .t1 | exact .t2 | exact .t3 | exact .t4 | exact .t5 | exact .t6 | exact .t7) u240 rfl (by rfl)) ?_
  refine WM.r rfl rfl rfl (Rm rfl rfl) ?_
  refine WM.r rfl rfl rfl (Ja rfl rfl rfl u206 (by kernel_rfl : _ = some 1) ?_) ?_
  ·omega
  refine WM.r rfl rfl rfl (ld rfl rfl (by first | exact .here | exact .t1 | exact .t2 | exact .t3 | exact .t4 | exact .t5 | exact .t6 | exact .t7) u240 rfl (by rfl)) ?_
  refine WM.r rfl rfl rfl (Rm rfl rfl) ?_
  refine WM.r rfl rfl rfl (Ja rfl rfl rfl u206 (by kernel_rfl : _ = some 1) ?_) ?_
  ·omega
  refine WM.r rfl rfl rfl (ld rfl rfl (by first | exact .here | exact .t1 | exact .t2 | exact .t3 | exact .t4 | exact .t5 | exact .t6 | exact .t7) u240 rfl (by rfl)) ?_
  refine WM.r rfl rfl rfl (Rm rfl rfl) ?_
  refine WM.r rfl rfl rfl (Ja rfl rfl rfl u206 (by kernel_rfl : _ = some 1) ?_) ?_
  ·omega
  refine WM.r rfl rfl rfl (ld rfl rfl (by first | exact .here | exact .t1 | exact .t2 | exact .t3 | exact .t4 | exact .t5 | exact .t6 | exact .t7) u240 rfl (by rfl)) ?_
  refine WM.r rfl rfl rfl (Rm rfl rfl) ?_
  refine WM.r rfl rfl rfl (Ja rfl rfl rfl u206 (by kernel_rfl : _ = some 1) ?_) ?_
  ·omega
  refine WM.r rfl rfl rfl (ld rfl rfl (by first | exact .here | exact .t1 | exact .t2 | exact .t3 | exact .t4 | exact .t5 | exact .t6 | exact .t7) u240 rfl (by rfl)) ?_
  refine WM.r rfl rfl rfl (Ra rfl rfl) ?_
  refine WM.r rfl rfl rfl (Ra rfl rfl) ?_
  refine WM.r rfl rfl rfl (Ra rfl rfl) ?_
  refine WM.r rfl rfl rfl (Ra rfl rfl) ?_
  refine WM.r rfl rfl rfl (Ra rfl rfl) ?_
  refine WM.r rfl rfl rfl (Ra rfl rfl) ?_
  refine WM.nil ?_
  refine Xa (Cq ?_)
  refine WC.mix [0, 0, 0, 0, 1, 0, 1, 0, 0, 1, 0, 0, 0, 0, 0, 0, 0, 0, 0, 0, 0, 0, 0, 0, 0, 0, 0, 0, 0, 0, 0, 0] (by kernel_rfl) (by kernel_rfl) (fun w h => h.draw) ?_
  refine WM.r rfl rfl rfl (Rm rfl rfl) ?_
  refine WM.r rfl rfl rfl (Ja rfl rfl rfl u206 (by kernel_rfl : _ = some 1) ?_) ?_
  ·omega
  refine WM.r rfl rfl rfl (ld rfl rfl (by first | exact .here | exact .t1 | exact .t2 | exact .t3 | exact .t4 | exact .t5 | exact .t6 | exact .t7) u240 rfl (by rfl)) ?_
  refine WM.r rfl rfl rfl (Rm rfl rfl) ?_
  refine WM.g rfl rfl rfl (Oc rfl rfl (Kv fun w _ => right_lit _ _ (by decide) (by decide) w)) (fun _ _ h => by first | exact h | exact ⟨_, h⟩ | exact ⟨_, h.2⟩ | exact h.2 | exact h.sub (by repeat (first | exact List.Sublist.refl _ | apply List.Sublist.cons)) (fun _ h => by simp [*]) | exact h.2.sub (by repeat (first | exact List.Sublist.refl _ | apply List.Sublist.cons)) (fun _ h => by simp [*])) ?_
  intro _
  refine WM.r rfl rfl rfl (Rm rfl rfl) ?_
  refine WM.g rfl rfl rfl (Oc rfl rfl (Kv fun w _ => right_lit _ _ (by decide) (by decide) w)) (fun _ _ h => by first | exact h | exact ⟨_, h⟩ | exact ⟨_, h.2⟩ | exact h.2 | exact h.sub (by repeat (first | exact List.Sublist.refl _ | apply List.Sublist.cons)) (fun _ h => by simp [*]) | exact h.2.sub (by repeat (first | exact List.Sublist.refl _ | apply List.Sublist.cons)) (fun _ h => by simp [*])) ?_
  intro _
  refine WM.r rfl rfl rfl (rdW_xor rfl rfl rfl) ?_
  refine WM.r rfl rfl rfl (Rm rfl rfl) ?_
  refine WM.g rfl rfl rfl (Oc rfl rfl (Kv fun w _ => right_lit _ _ (by decide) (by decide) w)) (fun _ _ h => by first | exact h | exact ⟨_, h⟩ | exact ⟨_, h.2⟩ | exact h.2 | exact h.sub (by repeat (first | exact List.Sublist.refl _ | apply List.Sublist.cons)) (fun _ h => by simp [*]) | exact h.2.sub (by repeat (first | exact List.Sublist.refl _ | apply List.Sublist.cons)) (fun _ h => by simp [*])) ?_
  intro _
  refine WM.r rfl rfl rfl (rdW_xor rfl rfl rfl) ?_
  refine WM.r rfl rfl rfl (rdW_add rfl rfl rfl) ?_
  refine WM.r rfl rfl rfl (Rm rfl rfl) ?_
  refine WM.r rfl rfl rfl (Rm rfl rfl) ?_
  refine WM.r rfl rfl rfl (rdW_and rfl rfl rfl) ?_
  refine WM.r rfl rfl rfl (Rm rfl rfl) ?_
  refine WM.r rfl rfl rfl (rdW_com rfl rfl) ?_
  refine WM.r rfl rfl rfl (Rm rfl rfl) ?_
  refine WM.r rfl rfl rfl (rdW_and rfl rfl rfl) ?_
  refine WM.r rfl rfl rfl (rdW_xor rfl rfl rfl) ?_
  refine WM.r rfl rfl rfl (rdW_add rfl rfl rfl) ?_
  refine WM.r rfl rfl rfl (Rm rfl rfl) ?_
  refine WM.r rfl rfl rfl (Rm rfl rfl) ?_
  refine WM.r rfl rfl rfl (Ja rfl rfl rfl u206 (by kernel_rfl : _ = some 1) ?_) ?_
  ·omega
  refine WM.r rfl rfl rfl (ldf rfl rfl (by first | exact .here | exact .t1 | exact .t2 | exact .t3 | exact .t4 | exact .t5 | exact .t6 | exact .t7) u240 rfl (m := k) (by omega) (by rw [List.getElem?_map, get_getD KK k 0 (by omega)]; rfl)) ?_
  refine WM.r rfl rfl rfl (rdW_add rfl rfl rfl) ?_
  refine WM.r rfl rfl rfl (Rm rfl rfl) ?_
  refine WM.r rfl rfl rfl (Rm rfl rfl) ?_
  refine WM.r rfl rfl rfl (Ja rfl rfl rfl u206 (by kernel_rfl : _ = some 1) ?_) ?_
  ·omega
  refine WM.r rfl rfl rfl (ldf rfl rfl (by first | exact .here | exact .t1 | exact .t2 | exact .t3 | exact .t4 | exact .t5 | exact .t6 | exact .t7) u240 rfl (m := k) (by omega) (by rw [List.getElem?_map, get_getD ws k 0 (by omega)]; rfl)) ?_
  refine WM.r rfl rfl rfl (rdW_add rfl rfl rfl) ?_
  refine WM.r rfl rfl rfl (Ra rfl rfl) ?_
  refine WM.nil ?_
  refine Xa (Cq (Cg (Km rfl ?_)))
  refine Ku rfl (Oc rfl rfl (Kv fun w _ => right_lit _ _ (by decide) (by decide) w)) ?_
  refine Km rfl ?_
  refine Ku rfl (Oc rfl rfl (Kv fun w _ => right_lit _ _ (by decide) (by decide) w)) ?_
  refine Kq rfl (rdW_xor rfl rfl rfl) (Km rfl ?_)
  refine Ku rfl (Oc rfl rfl (Kv fun w _ => right_lit _ _ (by decide) (by decide) w)) ?_
  refine Kq rfl (rdW_xor rfl rfl rfl) (Km rfl (Km rfl (Kq rfl (rdW_and rfl rfl rfl) (Km rfl (Km rfl (Kq rfl (rdW_and rfl rfl rfl) (Kq rfl (rdW_xor rfl rfl rfl) (Km rfl (Km rfl (Kq rfl (rdW_and rfl rfl rfl) (Kq rfl (rdW_xor rfl rfl rfl) (Kq rfl (rdW_add rfl rfl rfl) (Ka rfl (Nn (Xa (Cg (Km rfl (Km rfl (Kq rfl (rdW_add rfl rfl rfl) (Km rfl (Km rfl (Km rfl (Km rfl ?_)))))))))))))))))))))))
  refine Kq rfl (Ja rfl rfl rfl u206 (by kernel_rfl : _ = some 1) ?_) ?_
  ·omega
  refine Kq rfl (ld rfl rfl (by first | exact .here | exact .t1 | exact .t2 | exact .t3 | exact .t4 | exact .t5 | exact .t6 | exact .t7) u240 rfl (by rfl)) ?_
  refine Km rfl (Kq rfl (rdW_add rfl rfl rfl) (Km rfl (Km rfl (Km rfl ?_))))
  refine Kh rfl (og_bs1 rfl rfl u206 (by kernel_rfl : _ = some (some (.int .u32 0), 1, 4)) rfl (by simp only [List.map]; rfl) rfl rfl ?_ (by decide)) ?_
  ·simp [u32, Value.cells]
  intro b111
  refine Ka rfl (Nn (Xd (Xa (Cg (Km rfl ?_)))))
  first
   | (refine Kq rfl (Rz rfl rfl rfl ?_) ?_; focus (omega))
   | (refine Kq rfl (rd_add64 rfl rfl rfl ?_) ?_; focus (omega))
  refine Ka rfl (Nn ?_)
  exact WX.loop ⟨k + 1, b111, 8, []⟩ (by show 64 - (k + 1) < 64 - k; omega) (by repeat (first | exact S0 _ | refine Sc rfl ?_)) (fun w' h => ⟨⟨by show k + 1 ≤ 64; omega, rfl⟩, by rw [show rounds KK ws (k + 1) x0 = rnd (KK.getD k 0) (ws.getD k 0) (rounds KK ws k x0) from rfl, hX]; exact h.sub (List.Sublist.cons_cons _ (List.nil_sublist _)) (fun _ h => h)⟩)
 ·(try simp only [decide_eq_true_eq, decide_eq_false_iff_not, Bool.not_eq_true', Bool.not_eq_false', Bool.not_not, Int.not_lt, Int.not_le] at hc25)
  refine Cx (Xc (Xc (Xe ?_)))
  obtain rfl : k = 64 := by omega
  have hrl := rounds_len KK ws 64 x0 hx0
  obtain ⟨X, hX⟩ : ∃ X, rounds KK ws 64 x0 = X := ⟨_, rfl⟩
  rw [hX] at hrl ⊢
  have hadl := addW_len X x0 (by omega)
  refine Xa (Cq (Cq (Cg (Ka rfl (Nn (Xa (Cb ?_)))))))
  refine WC.loop (σ := Nat) (fun k => [(0, .slice (some ⟨b0, off0, none⟩) 8 cap0), (7, .slice (some ⟨bv, 0, none⟩) 8 capv), (17, .int .i64 (k : Int))]) (fun k w' => k ≤ 8 ∧ St (fun b => ok b ∨ b < w.heap.size) w [⟨some bv, ((addW X x0).take k ++ X.drop k).map u32 ++ sp, 240⟩] [Fact.sl (some ⟨b0, off0, none⟩) (x0.map u32)] w') (fun k => 8 - k) 0 (by repeat (first | exact S0 _ | refine Sc rfl ?_)) (fun w' h => ⟨by omega, h.sub (List.Sublist.refl _) (by simp)⟩) ?_
  intro q; refine WC.pu ?_; intro hq
  refine Cq (Cq (Cg (Km rfl (Kq rfl (rd_lss rfl rfl rfl) (Nn (Xa ?_))))))
  refine Cd rfl (fun hc113 => ?_) (fun hc113 => ?_)
  ·(try simp only [decide_eq_true_eq, decide_eq_false_iff_not, Bool.not_eq_true', Bool.not_eq_false', Bool.not_not, Int.not_lt, Int.not_le] at hc113)
   have hXq := get_getD X q 0 (by omega)
   have hxq := get_getD x0 q 0 (by omega)
   have hcell : (((addW X x0).take q ++ X.drop q).map u32 ++ sp)[q]? = some (u32 (X.getD q 0)) := map_cell _ u32 _ _ _ (by rw [List.getElem?_append_right (by simp; omega), List.getElem?_drop, List.length_take, hadl, show q + (q - min q X.length) = q by omega, hXq])
   refine Ck (Xa (Cq (Cb ?_)))
   refine WC.mix [0, 0, 0, 0, 0, 0, 0, 0, 0, 0, 2] (by kernel_rfl) (by kernel_rfl) (fun w h => h.draw) ?_
   refine WM.r rfl rfl rfl (Rm rfl rfl) ?_
   refine WM.r rfl rfl rfl (Rm rfl rfl) ?_
   refine WM.r rfl rfl rfl (Ja rfl rfl rfl u206 (by kernel_rfl : _ = some 1) ?_) ?_
   ·omega
   refine WM.r rfl rfl rfl (ld rfl rfl (by first | exact .here | exact .t1 | exact .t2 | exact .t3 | exact .t4 | exact .t5 | exact .t6 | exact .t7) u240 rfl (by exact hcell)) ?_
   refine WM.r rfl rfl rfl (Rm rfl rfl) ?_
   refine WM.r rfl rfl rfl (Rm rfl rfl) ?_
   refine WM.r rfl rfl rfl (Ja rfl rfl rfl u206 (by kernel_rfl : _ = some 1) ?_) ?_
   ·omega
   refine WM.r rfl rfl rfl (ldf rfl rfl (by first | exact .here | exact .t1 | exact .t2 | exact .t3 | exact .t4 | exact .t5 | exact .t6 | exact .t7) u240 rfl (m := q) (by omega) (by rw [List.getElem?_map, hxq]; rfl)) ?_
   refine WM.r rfl rfl rfl (rdW_add rfl rfl rfl) ?_
   refine WM.r rfl rfl rfl (Ja rfl rfl rfl u206 (by kernel_rfl : _ = some 1) ?_) ?_
   ·omega
   refine WM.h0 rfl rfl (st rfl rfl rfl (by first | exact .here | exact .t1 | exact .t2 | exact .t3 | exact .t4 | exact .t5 | exact .t6 | exact .t7) (by kernel_rfl) rfl ?_ rfl) ?_
   ·simp; omega
   intro _
   refine WM.nil ?_
   refine Xd (Xa (Cg (Km rfl ?_)))
   first
    | (refine Kq rfl (Rz rfl rfl rfl ?_) ?_; focus (omega))
    | (refine Kq rfl (rd_add64 rfl rfl rfl ?_) ?_; focus (omega))
   refine Ka rfl (Nn ?_)
   exact WX.loop (q + 1) (by omega) (by repeat (first | exact S0 _ | refine Sc rfl ?_)) (fun w' h => ⟨by omega, by rw [List.set_append_left _ _ (by simp; omega), addW_set X x0 q _ _ (by omega) hXq hxq] at h; exact h⟩)
  ·(try simp only [decide_eq_true_eq, decide_eq_false_iff_not, Bool.not_eq_true', Bool.not_eq_false', Bool.not_not, Int.not_lt, Int.not_le] at hc113)
   refine Cx (Xc (Xc (Xe ?_)))
   obtain rfl : q = 8 := by omega
   have hfin : (addW X x0).take 8 ++ X.drop 8 = addW X x0 := by rw [List.take_of_length_le (by omega), List.drop_eq_nil_of_le (by omega), List.append_nil]
   rw [hfin]
   refine Xa (Cq (Cg (Km rfl (Ka rfl (Nn (Xa (Ce ?_)))))))
   refine WX.ret1 rfl rfl fun w' hS => ⟨⟨0, bv, capv, []⟩, rfl, ?_, ?_⟩
   ·exact (st_freeze hS).sub (List.Sublist.refl _) (by simp)
   ·exact .inr ⟨bv, 0, _, _, (0, 0), rfl, (hS.own_ ⟨some bv, (addW X x0).map u32 ++ sp, 240⟩ (by simp)).1, (hS.own_ ⟨some bv, (addW X x0).map u32 ++ sp, 240⟩ (by simp)).2, fun i hi => by rw [Nat.zero_add, List.getElem?_toArray, List.getElem?_append_left hi]⟩
structure G3r where
 q : Nat
 b : Nat
 cap : Nat
 x : List W
theorem rsum_ok (l : List UInt8) (hl : l.length ≤ 1000000) (w : World) :
  Cw 233 #[.string (S l)] w (.string (S (sha l))) := by
 have hz : zeros l.length = (119 - l.length % 64) % 64 := rfl
 have hpl : (pad l).length = l.length + 1 + zeros l.length + 8 := by simp [pad, len8]; omega
 obtain ⟨nb, hnb⟩ := pad_len l
 obtain ⟨m, hm⟩ : ∃ m, pad l = m := ⟨_, rfl⟩
 have hpad := padded_ok l hl
 rw [hm] at hnb hpl hpad
 refine enter (S := St (fun _ => True) w [] []) (L := [(0, .string (S l))]) Tryz.func233 rfl Tryz.ntmps233 rfl (Ac rfl (An _)) (St.start (fun _ _ => trivial) (by simp)) ?_
 refine Cq (Cg (Ka rfl (Nn (Xa (Cq (Cg ?_))))))
 refine Kh rfl (og_bs rfl rfl u206 (cs := H0.map u32) (fun w => by kernel_rfl)) ?_
 intro b9
 refine WL.st (S' := St (fun _ => True) w [] [Fact.sl (some ⟨b9, 0, none⟩) (H0.map u32)]) (fun _ h => st_freeze (sp := []) (by rw [List.append_nil]; exact h)) ?_
 refine Ka rfl (Nn (Xa (Cq (Cg (Km rfl ?_)))))
 refine Ku rfl (Oc rfl rfl (Kv fun w _ => hpad w)) ?_
 refine Ka rfl (Nn (Xa (Cq (Cq (Cg (Ka rfl (Nn (Xa (Cb ?_)))))))))
 refine WC.loop (σ := G3r) (fun p => [(3, .slice (some ⟨p.b, 0, none⟩) 8 p.cap), (4, .string (S m)), (5, .int .i64 ((64 * p.q : Nat) : Int))]) (fun p w' => ((p.q ≤ nb ∧ p.x.length = 8) ∧ chunks nb H0 m = chunks (nb - p.q) p.x (m.drop (64 * p.q))) ∧ St (fun _ => True) w [] [Fact.sl (some ⟨p.b, 0, none⟩) (p.x.map u32)] w') (fun p => nb - p.q) ⟨0, b9, 8, H0⟩ (by repeat (first | exact S0 _ | refine Sc rfl ?_)) (fun w' h => ⟨⟨⟨by simp, rfl⟩, by simp⟩, h⟩) ?_
 rintro ⟨q, bv, capv, x⟩; dsimp only; refine WC.pu ?_; rintro ⟨⟨hq, hx⟩, hch⟩
 refine Cq (Cq (Cg (Km rfl (Km rfl (Kq rfl (rd_slen rfl rfl u9) (Kq rfl (rd_lss rfl rfl rfl) (Nn (Xa ?_))))))))
 refine Cd rfl (fun hc15 => ?_) (fun hc15 => ?_)
 ·(try simp only [decide_eq_true_eq, decide_eq_false_iff_not, Bool.not_eq_true', Bool.not_eq_false', Bool.not_not, Int.not_lt, Int.not_le] at hc15)
  have hqn : q < nb := by omega
  refine Ck (Xa (Cq (Cb (Cg (Km rfl (Km rfl (Km rfl (Km rfl ?_))))))))
  first
   | (refine Kq rfl (Rz rfl rfl rfl ?_) ?_; focus (omega))
   | (refine Kq rfl (rd_add64 rfl rfl rfl ?_) ?_; focus (omega))
  refine Kq rfl (rd_ss rfl rfl rfl rfl u9 ?_) ?_
  ·(try simp only [List.length_append, List.length_cons, List.length_nil]); omega
  refine Ns 23 rfl (v' := .string (S ((m.drop (64 * q)).take 64))) (by rw [Int.toNat_natCast, Int.toNat_natCast, show 64 * q + 64 - 64 * q = 64 by omega]) ?_
  refine Kh rfl (Oc rfl rfl (keep_fact (F := fun g : GC => [Fact.sl (some ⟨g.b, 0, none⟩) ((compress x ((m.drop (64 * q)).take 64)).map u32)]) fun w hS => rcompress_ok x hx ((m.drop (64 * q)).take 64) (by simp; omega) _ _ _ w hS.fresh (hS.holds_any (k := 0) rfl))) ?_
  intro gc
  refine Ka rfl (Nn (Xd (Xa (Cg (Km rfl ?_)))))
  first
   | (refine Kq rfl (Rz rfl rfl rfl ?_) ?_; focus (omega))
   | (refine Kq rfl (rd_add64 rfl rfl rfl ?_) ?_; focus (omega))
  refine Ka rfl (Nn ?_)
  exact WX.loop ⟨q + 1, gc.b, gc.cap, compress x ((m.drop (64 * q)).take 64)⟩ (by show nb - (q + 1) < nb - q; omega) (by repeat (first | exact S0 _ | refine Sc rfl ?_)) (fun w' h => ⟨⟨⟨by show q + 1 ≤ nb; omega, compress_len _ _ hx⟩, by rw [hch, show nb - q = (nb - (q + 1)) + 1 by omega, chunks_succ, List.drop_drop]; congr 1⟩, h.sub (List.Sublist.refl _) (by simp)⟩)
 ·(try simp only [decide_eq_true_eq, decide_eq_false_iff_not, Bool.not_eq_true', Bool.not_eq_false', Bool.not_not, Int.not_lt, Int.not_le] at hc15)
  refine Cx (Xc (Xc (Xe ?_)))
  obtain rfl : q = nb := by omega
  have hfin : sha l = outW x := by rw [sha, hm, hnb, Nat.mul_div_cancel_left _ (by omega), hch, Nat.sub_self]; rfl
  refine Xa (Cq (Cg (Ka rfl (Nn (Xa (Cq (Cq (Cg (Ka rfl (Nn (Xa (Cb ?_))))))))))))
  refine WC.loop (σ := G4) (fun p => [(3, .slice (some ⟨bv, 0, none⟩) 8 capv), (7, .int .i64 (p.k : Int)), (6, .slice (p.ob.map fun b => ⟨b, 0, none⟩) (4 * p.k) p.cap)]) (fun p w' => (p.k ≤ 8 ∧ (p.k = 0 ∨ ∃ b, p.ob = some b) ∧ p.cap = 4 * p.k + p.spare.length) ∧ St (fun _ => True) w [⟨p.ob, (outW (x.take p.k)).map B ++ p.spare, 5⟩] [Fact.sl (some ⟨bv, 0, none⟩) (x.map u32)] w') (fun p => 8 - p.k) ⟨0, none, 0, []⟩ (by repeat (first | exact S0 _ | refine Sc rfl ?_)) (fun w' h => ⟨⟨by simp, .inl rfl, rfl⟩, h.nil _⟩) ?_
  rintro ⟨k, ob, cap4, sp4⟩; dsimp only; refine WC.pu ?_; rintro ⟨hk, hob, hcap4⟩
  refine Cq (Cq (Cg (Km rfl (Kq rfl (rd_lss rfl rfl rfl) (Nn (Xa ?_))))))
  refine Cd rfl (fun hc26 => ?_) (fun hc26 => ?_)
  ·(try simp only [decide_eq_true_eq, decide_eq_false_iff_not, Bool.not_eq_true', Bool.not_eq_false', Bool.not_not, Int.not_lt, Int.not_le] at hc26)
   refine Ck (Xa (Cq (Cb (Cq (Cg (Km rfl (Km rfl ?_)))))))
   refine Kq rfl (Ja rfl rfl rfl u206 (by kernel_rfl : _ = some 1) ?_) ?_
   ·omega
   refine Kq rfl (ldf rfl rfl (by first | exact .here | exact .t1 | exact .t2 | exact .t3 | exact .t4 | exact .t5 | exact .t6 | exact .t7) u240 rfl (m := k) (by omega) (by rw [List.getElem?_map, get_getD x _ 0 (by omega)]; rfl)) ?_
   refine Ka rfl (Nn (Xa (Cg (Km rfl (Km rfl (Kq rfl (rdW_shr rfl rfl rfl (by decide)) (Kq rfl (rd_conv rfl rfl u240 u5) (Ns 36 rfl (v' := B (byteAt (x.getD k 0).toNat 3)) (congrArg (Value.int .u8) (byte_W (x.getD k 0) 3)) (Km rfl (Kq rfl (rdW_shr rfl rfl rfl (by decide)) (Kq rfl (rd_conv rfl rfl u240 u5) (Ns 39 rfl (v' := B (byteAt (x.getD k 0).toNat 2)) (congrArg (Value.int .u8) (byte_W (x.getD k 0) 2)) (Km rfl (Kq rfl (rdW_shr rfl rfl rfl (by decide)) (Kq rfl (rd_conv rfl rfl u240 u5) (Ns 42 rfl (v' := B (byteAt (x.getD k 0).toNat 1)) (congrArg (Value.int .u8) (byte_W (x.getD k 0) 1)) (Km rfl (Kq rfl (rd_conv rfl rfl u240 u5) ?_))))))))))))))))))
   refine Ns 44 rfl (v' := B (byteAt (x.getD k 0).toNat 0)) (congrArg (Value.int .u8) (byte_W0 (x.getD k 0))) ?_
   refine Kh rfl (og_bs1 rfl rfl u128 (by kernel_rfl : _ = some (some (.int .u8 0), 1, 1)) rfl (by simp only [List.map]; rfl) rfl rfl ?_ (by decide)) ?_
   ·simp [B, Value.cells]
   intro b45
   refine Kh rfl (app rfl u128 (by kernel_rfl : _ = some (some (.int .u8 0), 1, 1)) rfl (by first | exact .here | exact .t1 | exact .t2 | exact .t3 | exact .t4 | exact .t5 | exact .t6 | exact .t7) (by rfl) (by rfl) (by first | exact .here | exact .t1 | exact .t2 | exact .t3 | exact .t4 | exact .t5 | exact .t6 | exact .t7) (by rfl) ?_ ?_) ?_
   ·(refine ⟨?_, ?_, ?_, ?_, ?_⟩ <;> (try simp [outW_len]) <;> omega)
   ·simp [B, Value.oneCell']
   intro g46
   refine WL.pu ?_
   intro hg46
   refine Ka rfl (Nn (Xd (Xa (Cg (Km rfl ?_)))))
   first
    | (refine Kq rfl (Rz rfl rfl rfl ?_) ?_; focus (omega))
    | (refine Kq rfl (rd_add64 rfl rfl rfl ?_) ?_; focus (omega))
   refine Ka rfl (Nn ?_)
   exact WX.loop ⟨k + 1, some g46.b, g46.cap, g46.spare⟩ (by show 8 - (k + 1) < 8 - k; omega) (by repeat (first | exact S0 _ | refine Sc rfl ?_)) (fun w' h => ⟨⟨by show k + 1 ≤ 8; omega, .inr ⟨_, rfl⟩, by have := hg46.2; show g46.cap = _; omega⟩, by rw [outW_take x k (by omega), List.map_append]; exact h.sub (List.sublist_cons_self _ _) (fun _ h => h)⟩)
  ·(try simp only [decide_eq_true_eq, decide_eq_false_iff_not, Bool.not_eq_true', Bool.not_eq_false', Bool.not_not, Int.not_lt, Int.not_le] at hc26)
   refine Cx (Xc (Xc (Xe ?_)))
   obtain rfl : k = 8 := by omega
   obtain ⟨b9', rfl⟩ : ∃ b, ob = some b := by rcases hob with h | h; omega; exact h
   rw [List.take_of_length_le (by omega)]
   refine Xa (Cq (Cg (Km rfl ?_)))
   refine Kq rfl (b2s (l := outW x) rfl rfl (by first | exact .here | exact .t1 | exact .t2 | exact .t3 | exact .t4 | exact .t5 | exact .t6 | exact .t7) u128 u5 u9 ?_ ?_) ?_
   ·simp [outW_len, hx]
   ·simp [outW_len, hx]
   refine Ka rfl (Nn (Xa (Ce ?_)))
   refine WX.ret1 rfl rfl fun w' hS => ⟨by rw [hfin], hS.below⟩
theorem xor_u8 (c : UInt8) (x : UInt8) : bits .xor .u8 (c.toNat : Int) (x.toNat : Int) = ((c ^^^ x).toNat : Int) := by
 have h1 := c.toNat_lt; have h2 := x.toNat_lt
 rw [u8_xor_nat _ _ h1 h2, UInt8.toNat_xor]
theorem map_step (K : List UInt8) (f : UInt8 → UInt8) (k : Nat) (c : UInt8) (h : K[k]? = some c) :
  (((K.take k).map f ++ K.drop k).map B).set k (B (f c)) = ((K.take (k + 1)).map f ++ K.drop (k + 1)).map B := by
 have hk : k < K.length := (List.getElem?_eq_some_iff.1 h).1
 rw [← List.map_set]
 congr 1
 have hlen : ((K.take k).map f).length = k := by simp; omega
 have hd : (K.drop k).set 0 (f c) = f c :: K.drop (k + 1) := by rw [List.drop_eq_getElem_cons hk]; rfl
 rw [List.set_append_right _ _ (by omega), hlen, Nat.sub_self, hd, List.take_add_one, h]
 simp
theorem map_here (K : List UInt8) (f : UInt8 → UInt8) (k : Nat) (c : UInt8) (h : K[k]? = some c) : (((K.take k).map f ++ K.drop k).map B)[k]? = some (B c) := by
 have hk : k < K.length := (List.getElem?_eq_some_iff.1 h).1
 have hlen : ((K.take k).map f).length = k := by simp; omega
 rw [List.getElem?_map, List.getElem?_append_right (by omega), hlen, Nat.sub_self, List.getElem?_drop, Nat.add_zero, h]; rfl
theorem mac_ok (key s : List UInt8) (hk : key.length ≤ 500000) (hs : s.length ≤ 500000) (w : World) :
  Cw 232 #[.string (S key), .string (S s)] w (.string (S (mac key s))) := by
 have hkl := keyOf_len key
 obtain ⟨K, hK⟩ : ∃ K, keyOf key ++ List.replicate (64 - (keyOf key).length) 0 = K := ⟨_, rfl⟩
 have hKl : K.length = 64 := by rw [← hK]; simp; omega
 have hx1 : xorKey (keyOf key) 92 = K.map (· ^^^ 92) := by rw [← hK]; rfl
 have hx2 : xorKey (keyOf key) 54 = K.map (· ^^^ 54) := by rw [← hK]; rfl
 refine enter (S := St (fun _ => True) w [] []) (L := [(0, .string (S key)), (1, .string (S s))]) Tryz.func232 rfl Tryz.ntmps232 rfl (Ac rfl (Ac rfl (An _))) (St.start (fun _ _ => trivial) (by simp)) ?_
 refine Cq (Cg (Ka rfl (Nn (Xa (Cq (Cq (Cg (Km rfl (Kq rfl (rd_slen rfl rfl u9) (Kq rfl (rd_gtr rfl rfl rfl) (Nn (Xa ?_))))))))))))
 refine Cd rfl (fun hc10 => ?_) (fun hc10 => ?_)
 ·(try simp only [sB] at hc10)
  refine Cg (Km rfl ?_)
  refine Ku rfl (Oc rfl rfl (Kv fun w _ => sum_ok _ (by omega) w)) ?_
  refine Ka rfl ?_
  refine Ns 0 rfl (v' := .string (S (keyOf key))) (by rw [keyOf, if_pos (by omega)]) ?_
  refine Nn (Xa (Cq (Cg ?_)))
  refine Kh rfl (Oa rfl (v := (.agg (List.replicate 64 (.int .u8 0)).toArray)) (cs := (List.replicate 64 (.int .u8 0))) (by kernel_rfl) rfl) ?_
  intro b5
  refine Kh rfl (Oa rfl (v := (.agg (List.replicate 64 (.int .u8 0)).toArray)) (cs := (List.replicate 64 (.int .u8 0))) (by kernel_rfl) rfl) ?_
  intro b6
  refine Nn (Xa (Cq (Cg ?_)))
  refine Kq rfl (rd_sla rfl rfl u261 (by kernel_rfl : _ = some 1)) ?_
  refine Km rfl ?_
  refine Kh rfl (cpys rfl rfl rfl (by first | exact .here | exact .t1 | exact .t2 | exact .t3 | exact .t4 | exact .t5 | exact .t6 | exact .t7) u128 (by kernel_rfl) (m := (keyOf key).length) (by omega) (by simp; omega) (ys := K.map B) (by rw [← hK, List.take_zero, List.nil_append, Nat.zero_add, List.take_length, List.drop_replicate, List.map_append, List.map_replicate]; rfl)) ?_
  intro _
  refine Nn (Xa (Cq (Cg ?_)))
  refine Kq rfl (rd_sla rfl rfl u261 (by kernel_rfl : _ = some 1)) ?_
  refine Km rfl ?_
  refine Kh rfl (cpys rfl rfl rfl (by first | exact .here | exact .t1 | exact .t2 | exact .t3 | exact .t4 | exact .t5 | exact .t6 | exact .t7) u128 (by kernel_rfl) (m := (keyOf key).length) (by omega) (by simp; omega) (ys := K.map B) (by rw [← hK, List.take_zero, List.nil_append, Nat.zero_add, List.take_length, List.drop_replicate, List.map_append, List.map_replicate]; rfl)) ?_
  intro _
  refine Nn (Xa (Cq (Cq (Cg (Km rfl (Nn (Xa (Cb ?_))))))))
  refine WC.loop (σ := Nat) (fun k => [(1, .string (S s)), (5, .pointer (some ⟨b5, 0, none⟩)), (6, .pointer (some ⟨b6, 0, none⟩)), (19, .int .i64 (k : Int))]) (fun k w' => k ≤ 64 ∧ St (fun _ => True) w [⟨some b6, ((K.take k).map (· ^^^ 92) ++ K.drop k).map B, 261⟩, ⟨some b5, ((K.take k).map (· ^^^ 54) ++ K.drop k).map B, 261⟩] [] w') (fun k => 64 - k) 0 (by repeat (first | exact S0 _ | refine Sc rfl ?_)) (fun w' h => ⟨by omega, h⟩) ?_
  intro k; refine WC.pu ?_; intro hk
  refine Cq (Cg (Kq rfl (rd_lss rfl rfl rfl) (Nn (Xa (Cq ?_)))))
  refine Cd rfl (fun hc20 => ?_) (fun hc20 => ?_)
  ·(try simp only [sB] at hc20)
   obtain ⟨c, hc⟩ : ∃ c, K[k]? = some c := ⟨_, List.getElem?_eq_getElem (by omega)⟩
   refine Ck (Xa (Cq (Cb (Cq (Cg (Km rfl (Ka rfl (Nn (Xa (Cq (Cg (Km rfl ?_))))))))))))
   refine Kq rfl (Jb rfl rfl rfl u261 (by kernel_rfl : _ = some 1) ?_) ?_
   ·omega
   refine Kq rfl (ld rfl rfl (by first | exact .here | exact .t1 | exact .t2 | exact .t3 | exact .t4 | exact .t5 | exact .t6 | exact .t7) u5 rfl (by exact map_here K (· ^^^ 54) k c hc)) ?_
   refine Kq rfl (rd_xor rfl rfl rfl) (Ns 25 rfl (v' := B (c ^^^ 54)) (congrArg (Value.int .u8) (xor_u8 c 54)) ?_)
   refine Kq rfl (Jb rfl rfl rfl u261 (by kernel_rfl : _ = some 1) ?_) ?_
   ·omega
   refine Ng rfl rfl (st rfl rfl rfl (by first | exact .here | exact .t1 | exact .t2 | exact .t3 | exact .t4 | exact .t5 | exact .t6 | exact .t7) (by kernel_rfl) rfl ?_ rfl) ?_
   ·simp; omega
   intro _
   refine Nn (Xa (Cg (Km rfl ?_)))
   refine Kq rfl (Jb rfl rfl rfl u261 (by kernel_rfl : _ = some 1) ?_) ?_
   ·omega
   refine Kq rfl (ld rfl rfl (by first | exact .here | exact .t1 | exact .t2 | exact .t3 | exact .t4 | exact .t5 | exact .t6 | exact .t7) u5 rfl (by exact map_here K (· ^^^ 92) k c hc)) ?_
   refine Kq rfl (rd_xor rfl rfl rfl) (Ns 30 rfl (v' := B (c ^^^ 92)) (congrArg (Value.int .u8) (xor_u8 c 92)) ?_)
   refine Kq rfl (Jb rfl rfl rfl u261 (by kernel_rfl : _ = some 1) ?_) ?_
   ·omega
   refine Ng rfl rfl (st rfl rfl rfl (by first | exact .here | exact .t1 | exact .t2 | exact .t3 | exact .t4 | exact .t5 | exact .t6 | exact .t7) (by kernel_rfl) rfl ?_ rfl) ?_
   ·simp; omega
   intro _
   refine Nn (Xd (Xa (Cg ?_)))
   first
    | (refine Kq rfl (Rz rfl rfl rfl ?_) ?_; focus (omega))
    | (refine Kq rfl (rd_add64 rfl rfl rfl ?_) ?_; focus (omega))
   refine Km rfl (Nn ?_)
   exact WX.loop (k + 1) (by omega) (by repeat (first | exact S0 _ | refine Sc rfl ?_)) (fun w' h => ⟨by omega, by rw [map_step K (· ^^^ 54) k c hc, map_step K (· ^^^ 92) k c hc] at h; exact h⟩)
  ·(try simp only [sB] at hc20)
   refine Cx (Xc (Xc (Xe ?_)))
   obtain rfl : k = 64 := by omega
   rw [List.take_of_length_le (by omega), List.drop_eq_nil_of_le (by omega), List.append_nil, List.append_nil]
   refine Xa (Cq ?_)
   refine WC.mix [0, 0, 0, 0, 0, 0, 1, 0, 1, 0] (by kernel_rfl) (by kernel_rfl) (fun w h => h.draw) ?_
   refine WM.r rfl rfl rfl (rd_sla rfl rfl u261 (by kernel_rfl : _ = some 1)) ?_
   refine WM.r rfl rfl rfl (b2s (l := K.map (· ^^^ 92)) rfl rfl (by first | exact .here | exact .t1 | exact .t2 | exact .t3 | exact .t4 | exact .t5 | exact .t6 | exact .t7) u128 u5 u9 ?_ ?_) ?_
   ·rw [List.drop_zero, List.take_of_length_le (by simp [hKl])]
   ·simp [hKl]
   refine WM.r rfl rfl rfl (rd_sla rfl rfl u261 (by kernel_rfl : _ = some 1)) ?_
   refine WM.r rfl rfl rfl (b2s (l := K.map (· ^^^ 54)) rfl rfl (by first | exact .here | exact .t1 | exact .t2 | exact .t3 | exact .t4 | exact .t5 | exact .t6 | exact .t7) u128 u5 u9 ?_ ?_) ?_
   ·rw [List.drop_zero, List.take_of_length_le (by simp [hKl])]
   ·simp [hKl]
   refine WM.r rfl rfl rfl (Rm rfl rfl) ?_
   refine WM.r rfl rfl rfl (rd_cat rfl rfl rfl ?_) ?_
   ·simp [hKl]; omega
   refine WM.g rfl rfl rfl (Oc rfl rfl (Kv fun w _ => sum_ok _ (by simp [hKl]; omega) w)) (fun _ _ h => by first | exact h | exact ⟨_, h⟩ | exact ⟨_, h.2⟩ | exact h.2 | exact h.sub (by repeat (first | exact List.Sublist.refl _ | apply List.Sublist.cons)) (fun _ h => by simp [*]) | exact h.2.sub (by repeat (first | exact List.Sublist.refl _ | apply List.Sublist.cons)) (fun _ h => by simp [*])) ?_
   intro _
   refine WM.r rfl rfl rfl (rd_cat rfl rfl rfl ?_) ?_
   ·simp [hKl, sha_len]
   refine WM.g rfl rfl rfl (Oc rfl rfl (Kv fun w _ => sum_ok _ (by simp [hKl, sha_len]) w)) (fun _ _ h => by first | exact h | exact ⟨_, h⟩ | exact ⟨_, h.2⟩ | exact h.2 | exact h.sub (by repeat (first | exact List.Sublist.refl _ | apply List.Sublist.cons)) (fun _ h => by simp [*]) | exact h.2.sub (by repeat (first | exact List.Sublist.refl _ | apply List.Sublist.cons)) (fun _ h => by simp [*])) ?_
   intro _
   refine WM.r rfl rfl rfl (Ra rfl rfl) ?_
   refine WM.nil ?_
   refine Xa (Ce ?_)
   exact WX.ret1 rfl rfl fun w' hS => ⟨by rw [mac, hx1, hx2], hS.below⟩
 ·(try simp only [sB] at hc10)
  refine WC.set 0 rfl (v' := .string (S (keyOf key))) (by rw [keyOf, if_neg (by omega)]) ?_
  refine Ck (Xa (Cq (Cg ?_)))
  refine Kh rfl (Oa rfl (v := (.agg (List.replicate 64 (.int .u8 0)).toArray)) (cs := (List.replicate 64 (.int .u8 0))) (by kernel_rfl) rfl) ?_
  intro b5
  refine Kh rfl (Oa rfl (v := (.agg (List.replicate 64 (.int .u8 0)).toArray)) (cs := (List.replicate 64 (.int .u8 0))) (by kernel_rfl) rfl) ?_
  intro b6
  refine Nn (Xa (Cq (Cg ?_)))
  refine Kq rfl (rd_sla rfl rfl u261 (by kernel_rfl : _ = some 1)) ?_
  refine Km rfl ?_
  refine Kh rfl (cpys rfl rfl rfl (by first | exact .here | exact .t1 | exact .t2 | exact .t3 | exact .t4 | exact .t5 | exact .t6 | exact .t7) u128 (by kernel_rfl) (m := (keyOf key).length) (by omega) (by simp; omega) (ys := K.map B) (by rw [← hK, List.take_zero, List.nil_append, Nat.zero_add, List.take_length, List.drop_replicate, List.map_append, List.map_replicate]; rfl)) ?_
  intro _
  refine Nn (Xa (Cq (Cg ?_)))
  refine Kq rfl (rd_sla rfl rfl u261 (by kernel_rfl : _ = some 1)) ?_
  refine Km rfl ?_
  refine Kh rfl (cpys rfl rfl rfl (by first | exact .here | exact .t1 | exact .t2 | exact .t3 | exact .t4 | exact .t5 | exact .t6 | exact .t7) u128 (by kernel_rfl) (m := (keyOf key).length) (by omega) (by simp; omega) (ys := K.map B) (by rw [← hK, List.take_zero, List.nil_append, Nat.zero_add, List.take_length, List.drop_replicate, List.map_append, List.map_replicate]; rfl)) ?_
  intro _
  refine Nn (Xa (Cq (Cq (Cg (Km rfl (Nn (Xa (Cb ?_))))))))
  refine WC.loop (σ := Nat) (fun k => [(1, .string (S s)), (5, .pointer (some ⟨b5, 0, none⟩)), (6, .pointer (some ⟨b6, 0, none⟩)), (19, .int .i64 (k : Int))]) (fun k w' => k ≤ 64 ∧ St (fun _ => True) w [⟨some b6, ((K.take k).map (· ^^^ 92) ++ K.drop k).map B, 261⟩, ⟨some b5, ((K.take k).map (· ^^^ 54) ++ K.drop k).map B, 261⟩] [] w') (fun k => 64 - k) 0 (by repeat (first | exact S0 _ | refine Sc rfl ?_)) (fun w' h => ⟨by omega, h⟩) ?_
  intro k; refine WC.pu ?_; intro hk
  refine Cq (Cg (Kq rfl (rd_lss rfl rfl rfl) (Nn (Xa (Cq ?_)))))
  refine Cd rfl (fun hc20 => ?_) (fun hc20 => ?_)
  ·(try simp only [sB] at hc20)
   obtain ⟨c, hc⟩ : ∃ c, K[k]? = some c := ⟨_, List.getElem?_eq_getElem (by omega)⟩
   refine Ck (Xa (Cq (Cb (Cq (Cg (Km rfl (Ka rfl (Nn (Xa (Cq (Cg (Km rfl ?_))))))))))))
   refine Kq rfl (Jb rfl rfl rfl u261 (by kernel_rfl : _ = some 1) ?_) ?_
   ·omega
   refine Kq rfl (ld rfl rfl (by first | exact .here | exact .t1 | exact .t2 | exact .t3 | exact .t4 | exact .t5 | exact .t6 | exact .t7) u5 rfl (by exact map_here K (· ^^^ 54) k c hc)) ?_
   refine Kq rfl (rd_xor rfl rfl rfl) (Ns 25 rfl (v' := B (c ^^^ 54)) (congrArg (Value.int .u8) (xor_u8 c 54)) ?_)
   refine Kq rfl (Jb rfl rfl rfl u261 (by kernel_rfl : _ = some 1) ?_) ?_
   ·omega
   refine Ng rfl rfl (st rfl rfl rfl (by first | exact .here | exact .t1 | exact .t2 | exact .t3 | exact .t4 | exact .t5 | exact .t6 | exact .t7) (by kernel_rfl) rfl ?_ rfl) ?_
   ·simp; omega
   intro _
   refine Nn (Xa (Cg (Km rfl ?_)))
   refine Kq rfl (Jb rfl rfl rfl u261 (by kernel_rfl : _ = some 1) ?_) ?_
   ·omega
   refine Kq rfl (ld rfl rfl (by first | exact .here | exact .t1 | exact .t2 | exact .t3 | exact .t4 | exact .t5 | exact .t6 | exact .t7) u5 rfl (by exact map_here K (· ^^^ 92) k c hc)) ?_
   refine Kq rfl (rd_xor rfl rfl rfl) (Ns 30 rfl (v' := B (c ^^^ 92)) (congrArg (Value.int .u8) (xor_u8 c 92)) ?_)
   refine Kq rfl (Jb rfl rfl rfl u261 (by kernel_rfl : _ = some 1) ?_) ?_
   ·omega
   refine Ng rfl rfl (st rfl rfl rfl (by first | exact .here | exact .t1 | exact .t2 | exact .t3 | exact .t4 | exact .t5 | exact .t6 | exact .t7) (by kernel_rfl) rfl ?_ rfl) ?_
   ·simp; omega
   intro _
   refine Nn (Xd (Xa (Cg ?_)))
   first
    | (refine Kq rfl (Rz rfl rfl rfl ?_) ?_; focus (omega))
    | (refine Kq rfl (rd_add64 rfl rfl rfl ?_) ?_; focus (omega))
   refine Km rfl (Nn ?_)
   exact WX.loop (k + 1) (by omega) (by repeat (first | exact S0 _ | refine Sc rfl ?_)) (fun w' h => ⟨by omega, by rw [map_step K (· ^^^ 54) k c hc, map_step K (· ^^^ 92) k c hc] at h; exact h⟩)
  ·(try simp only [sB] at hc20)
   refine Cx (Xc (Xc (Xe ?_)))
   obtain rfl : k = 64 := by omega
   rw [List.take_of_length_le (by omega), List.drop_eq_nil_of_le (by omega), List.append_nil, List.append_nil]
   refine Xa (Cq ?_)
   refine WC.mix [0, 0, 0, 0, 0, 0, 1, 0, 1, 0] (by kernel_rfl) (by kernel_rfl) (fun w h => h.draw) ?_
   refine WM.r rfl rfl rfl (rd_sla rfl rfl u261 (by kernel_rfl : _ = some 1)) ?_
   refine WM.r rfl rfl rfl (b2s (l := K.map (· ^^^ 92)) rfl rfl (by first | exact .here | exact .t1 | exact .t2 | exact .t3 | exact .t4 | exact .t5 | exact .t6 | exact .t7) u128 u5 u9 ?_ ?_) ?_
   ·rw [List.drop_zero, List.take_of_length_le (by simp [hKl])]
   ·simp [hKl]
   refine WM.r rfl rfl rfl (rd_sla rfl rfl u261 (by kernel_rfl : _ = some 1)) ?_
   refine WM.r rfl rfl rfl (b2s (l := K.map (· ^^^ 54)) rfl rfl (by first | exact .here | exact .t1 | exact .t2 | exact .t3 | exact .t4 | exact .t5 | exact .t6 | exact .t7) u128 u5 u9 ?_ ?_) ?_
   ·rw [List.drop_zero, List.take_of_length_le (by simp [hKl])]
   ·simp [hKl]
   refine WM.r rfl rfl rfl (Rm rfl rfl) ?_
   refine WM.r rfl rfl rfl (rd_cat rfl rfl rfl ?_) ?_
   ·simp [hKl]; omega
   refine WM.g rfl rfl rfl (Oc rfl rfl (Kv fun w _ => sum_ok _ (by simp [hKl]; omega) w)) (fun _ _ h => by first | exact h | exact ⟨_, h⟩ | exact ⟨_, h.2⟩ | exact h.2 | exact h.sub (by repeat (first | exact List.Sublist.refl _ | apply List.Sublist.cons)) (fun _ h => by simp [*]) | exact h.2.sub (by repeat (first | exact List.Sublist.refl _ | apply List.Sublist.cons)) (fun _ h => by simp [*])) ?_
   intro _
   refine WM.r rfl rfl rfl (rd_cat rfl rfl rfl ?_) ?_
   ·simp [hKl, sha_len]
   refine WM.g rfl rfl rfl (Oc rfl rfl (Kv fun w _ => sum_ok _ (by simp [hKl, sha_len]) w)) (fun _ _ h => by first | exact h | exact ⟨_, h⟩ | exact ⟨_, h.2⟩ | exact h.2 | exact h.sub (by repeat (first | exact List.Sublist.refl _ | apply List.Sublist.cons)) (fun _ h => by simp [*]) | exact h.2.sub (by repeat (first | exact List.Sublist.refl _ | apply List.Sublist.cons)) (fun _ h => by simp [*])) ?_
   intro _
   refine WM.r rfl rfl rfl (Ra rfl rfl) ?_
   refine WM.nil ?_
   refine Xa (Ce ?_)
   exact WX.ret1 rfl rfl fun w' hS => ⟨by rw [mac, hx1, hx2], hS.below⟩
theorem xorKey_get (key : List UInt8) (x : UInt8) (hk : key.length ≤ 64) (k : Nat) (h : k < 64) : (xorKey key x)[k]? = some (if h : k < key.length then key[k] ^^^ x else x) := by
 unfold xorKey
 by_cases hlt : k < key.length
 ·rw [List.getElem?_map, List.getElem?_append_left hlt, List.getElem?_eq_getElem hlt, dif_pos hlt]; rfl
 ·rw [List.getElem?_map, List.getElem?_append_right (by omega), List.getElem?_replicate, if_pos (by omega), dif_neg hlt]; simp
theorem xorKey_len (key : List UInt8) (x : UInt8) (hk : key.length ≤ 64) : (xorKey key x).length = 64 := by simp [xorKey]; omega
theorem xored_ok (key : List UInt8) (x : UInt8) (hk : key.length ≤ 64) (w : World) :
  Cw 234 #[.string (S key), B x] w (.string (S (xorKey key x))) := by
 have hXl := xorKey_len key x hk
 have hXg := xorKey_get key x hk
 obtain ⟨X, hX⟩ : ∃ X, xorKey key x = X := ⟨_, rfl⟩
 rw [hX] at hXl hXg ⊢
 refine enter (S := St (fun _ => True) w [] []) (L := [(0, .string (S key)), (1, B x)]) Tryz.func234 rfl Tryz.ntmps234 rfl (Ac rfl (Ac rfl (An _))) (St.start (fun _ _ => trivial) (by simp)) ?_
 refine Cq (Cg (Ka rfl (Nn (Xa (Cq (Cg ?_))))))
 refine Kh rfl (og_mk rfl rfl rfl u128 (by kernel_rfl : _ = some (some (.int .u8 0), 1, 1)) rfl ?_ (by (try simp only [sN, Int.reduceToNat, Nat.reduceAdd, Nat.reduceMul, Nat.reduceSub]); rfl) (by (try simp only [sN, Int.reduceToNat, Nat.reduceAdd, Nat.reduceMul, Nat.reduceSub]); rfl)) ?_
 ·decide
 intro b7
 refine Ka rfl (Nn (Xa (Cq (Cq (Cg (Ka rfl (Nn (Xa (Cb ?_)))))))))
 refine WC.loop (σ := Nat) (fun k => [(0, .string (S key)), (1, B x), (5, .slice (some ⟨b7, 0, none⟩) 64 64), (6, .int .i64 (k : Int))]) (fun k w' => k ≤ 64 ∧ St (fun _ => True) w [⟨some b7, (X.take k).map B ++ List.replicate (64 - k) (B 0), 5⟩] [] w') (fun k => 64 - k) 0 (by repeat (first | exact S0 _ | refine Sc rfl ?_)) (fun w' h => ⟨by omega, h⟩) ?_
 intro k; refine WC.pu ?_; intro hk'
 refine Cq (Cq (Cg (Km rfl (Kq rfl (rd_lss rfl rfl rfl) (Nn (Xa ?_))))))
 refine Cd rfl (fun hc9 => ?_) (fun hc9 => ?_)
 ·(try simp only [sB] at hc9)
  have hXk := hXg k (by omega)
  refine Ck (Xa (Cq (Cb (Cq (Cg (Km rfl (Km rfl (Km rfl ?_))))))))
  refine Kq rfl (Ja rfl rfl rfl u128 (by kernel_rfl : _ = some 1) ?_) ?_
  ·omega
  refine Ng rfl rfl (st rfl rfl rfl (by first | exact .here | exact .t1 | exact .t2 | exact .t3 | exact .t4 | exact .t5 | exact .t6 | exact .t7) (by kernel_rfl) rfl ?_ rfl) ?_
  ·simp; omega
  intro _
  refine Nn (Xa (Cq (Cg (Km rfl (Km rfl (Kq rfl (rd_slen rfl rfl u9) (Kq rfl (rd_lss rfl rfl rfl) (Nn (Xa ?_)))))))))
  refine Cd rfl (fun hc19 => ?_) (fun hc19 => ?_)
  ·(try simp only [sB] at hc19)
   rw [dif_pos (by omega)] at hXk
   obtain ⟨c, hc⟩ : ∃ c, key[k]'(by omega) = c := ⟨_, rfl⟩
   rw [hc] at hXk
   have hck : key[k]? = some c := by rw [List.getElem?_eq_getElem (by omega), hc]
   refine Cg (Km rfl (Km rfl (Km rfl (Km rfl ?_))))
   refine Kq rfl (rd_sidx rfl rfl rfl u9 ?_ (by rw [Int.toNat_natCast]; exact hck)) ?_
   ·omega
   refine Km rfl (Kq rfl (rd_xor rfl rfl rfl) (Ns 26 rfl (v' := B (c ^^^ x)) (congrArg (Value.int .u8) (xor_u8 c x)) ?_))
   refine Kq rfl (Ja rfl rfl rfl u128 (by kernel_rfl : _ = some 1) ?_) ?_
   ·omega
   refine Ng rfl rfl (st rfl rfl rfl (by first | exact .here | exact .t1 | exact .t2 | exact .t3 | exact .t4 | exact .t5 | exact .t6 | exact .t7) (by kernel_rfl) rfl ?_ rfl) ?_
   ·simp; omega
   intro _
   refine Nn (Xd (Xa (Cg (Km rfl ?_))))
   first
    | (refine Kq rfl (Rz rfl rfl rfl ?_) ?_; focus (omega))
    | (refine Kq rfl (rd_add64 rfl rfl rfl ?_) ?_; focus (omega))
   refine Ka rfl (Nn ?_)
   exact WX.loop (k + 1) (by omega) (by repeat (first | exact S0 _ | refine Sc rfl ?_)) (fun w' h => ⟨by omega, by (try rw [List.set_set] at h); rw [fill_set X B (B 0) 64 k _ (by omega) hXk] at h; exact h⟩)
  ·(try simp only [sB] at hc19)
   rw [dif_neg (by omega)] at hXk
   refine Ck (Xd (Xa (Cg (Km rfl ?_))))
   first
    | (refine Kq rfl (Rz rfl rfl rfl ?_) ?_; focus (omega))
    | (refine Kq rfl (rd_add64 rfl rfl rfl ?_) ?_; focus (omega))
   refine Ka rfl (Nn ?_)
   exact WX.loop (k + 1) (by omega) (by repeat (first | exact S0 _ | refine Sc rfl ?_)) (fun w' h => ⟨by omega, by (try rw [List.set_set] at h); rw [fill_set X B (B 0) 64 k _ (by omega) hXk] at h; exact h⟩)
 ·(try simp only [sB] at hc9)
  refine Cx (Xc (Xc (Xe ?_)))
  obtain rfl : k = 64 := by omega
  rw [Nat.sub_self, List.replicate_zero, List.append_nil, List.take_of_length_le (by omega)]
  refine Xa (Cq (Cg (Km rfl ?_)))
  refine Kq rfl (b2s (l := X) rfl rfl (by first | exact .here | exact .t1 | exact .t2 | exact .t3 | exact .t4 | exact .t5 | exact .t6 | exact .t7) u128 u5 u9 ?_ ?_) ?_
  ·rw [List.drop_zero, List.take_of_length_le (by simp; omega)]
  ·exact hXl
  refine Ka rfl (Nn (Xa (Ce ?_)))
  exact WX.ret1 rfl rfl fun w' hS => ⟨rfl, hS.below⟩
theorem rmac_ok (key s : List UInt8) (hk : key.length ≤ 500000) (hs : s.length ≤ 500000) (w : World) :
  Cw 197 #[.string (S key), .string (S s)] w (.string (S (mac key s))) := by
 have hkl := keyOf_len key
 have hl1 := xorKey_len (keyOf key) 92 hkl
 have hl2 := xorKey_len (keyOf key) 54 hkl
 refine enter (S := St (fun _ => True) w [] []) (L := [(0, .string (S key)), (1, .string (S s))]) Tryz.func197 rfl Tryz.ntmps197 rfl (Ac rfl (Ac rfl (An _))) (St.start (fun _ _ => trivial) (by simp)) ?_
 refine Cq (Cg (Ka rfl (Nn (Xa (Cq (Cq (Cg (Km rfl (Kq rfl (rd_slen rfl rfl u9) (Kq rfl (rd_gtr rfl rfl rfl) (Nn (Xa ?_))))))))))))
 refine Cd rfl (fun hc7 => ?_) (fun hc7 => ?_)
 ·(try simp only [sB] at hc7)
  refine Cg (Km rfl ?_)
  refine Ku rfl (Oc rfl rfl (Kv fun w _ => rsum_ok _ (by omega) w)) ?_
  refine Ka rfl ?_
  refine Ns 0 rfl (v' := .string (S (keyOf key))) (by rw [keyOf, if_pos (by omega)]) ?_
  refine Nn (Xa (Cq (Cg (Km rfl ?_))))
  refine Ku rfl (Oc rfl rfl (Kv fun w _ => xored_ok (keyOf key) 92 hkl w)) ?_
  refine Km rfl ?_
  refine Ku rfl (Oc rfl rfl (Kv fun w _ => xored_ok (keyOf key) 54 hkl w)) ?_
  refine Km rfl ?_
  refine Kq rfl (rd_cat rfl rfl rfl ?_) ?_
  ·rw [hl2]; omega
  refine Ku rfl (Oc rfl rfl (Kv fun w _ => rsum_ok _ (by rw [List.length_append, hl2]; omega) w)) ?_
  refine Kq rfl (rd_cat rfl rfl rfl ?_) ?_
  ·rw [hl1, sha_len]; omega
  refine Ku rfl (Oc rfl rfl (Kv fun w _ => rsum_ok _ (by rw [List.length_append, hl1, sha_len]; omega) w)) ?_
  refine Ka rfl (Nn (Xa (Ce ?_)))
  exact WX.ret1 rfl rfl fun w' hS => ⟨rfl, hS.below⟩
 ·(try simp only [sB] at hc7)
  refine WC.set 0 rfl (v' := .string (S (keyOf key))) (by rw [keyOf, if_neg (by omega)]) ?_
  refine Ck (Xa (Cq (Cg (Km rfl ?_))))
  refine Ku rfl (Oc rfl rfl (Kv fun w _ => xored_ok (keyOf key) 92 hkl w)) ?_
  refine Km rfl ?_
  refine Ku rfl (Oc rfl rfl (Kv fun w _ => xored_ok (keyOf key) 54 hkl w)) ?_
  refine Km rfl ?_
  refine Kq rfl (rd_cat rfl rfl rfl ?_) ?_
  ·rw [hl2]; omega
  refine Ku rfl (Oc rfl rfl (Kv fun w _ => rsum_ok _ (by rw [List.length_append, hl2]; omega) w)) ?_
  refine Kq rfl (rd_cat rfl rfl rfl ?_) ?_
  ·rw [hl1, sha_len]; omega
  refine Ku rfl (Oc rfl rfl (Kv fun w _ => rsum_ok _ (by rw [List.length_append, hl1, sha_len]; omega) w)) ?_
  refine Ka rfl (Nn (Xa (Ce ?_)))
  exact WX.ret1 rfl rfl fun w' hS => ⟨rfl, hS.below⟩
theorem mac_c {key s : List UInt8} {w : World} (hk : key.length ≤ 500000) (hs : s.length ≤ 500000) :
  Cw 232 #[.string (S key), .string (S s)] w (.string (S (mac key s))) :=
 mac_ok key s hk hs w
theorem rmac_c {key s : List UInt8} {w : World} (hk : key.length ≤ 500000) (hs : s.length ≤ 500000) :
  Cw 197 #[.string (S key), .string (S s)] w (.string (S (mac key s))) :=
 rmac_ok key s hk hs w
structure Tp where
 vals : List Bs
 seed : Bs
 at_ : Int
deriving DecidableEq
abbrev Tp.v (t : Tp) (x : Value) : Value := .agg #[x, .string (S t.seed), .int .i64 t.at_]
def goodT (t : Tp) : Prop := 0 ≤ t.at_ ∧ t.at_ ≤ 2147483647 ∧ ∀ s ∈ t.vals, okN s
instance (t : Tp) : Decidable (goodT t) := inferInstanceAs (Decidable (_ ∧ _ ∧ _))
theorem getD_memB (l : List Bs) (k : Nat) (h : k < l.length) : l.getD k default ∈ l := by
 rw [List.getD_eq_getElem?_getD, List.getElem?_eq_getElem h]; exact List.getElem_mem h
theorem all_takeB {l : List Bs} {k : Nat} {p : Bs → Prop} (h : k < l.length) (h1 : ∀ s ∈ l.take k, p s) (h2 : p (l.getD k default)) : ∀ s ∈ l.take (k + 1), p s := by
 intro s hs
 rw [List.take_add_one, List.getElem?_eq_getElem h] at hs
 rw [List.getD_eq_getElem?_getD, List.getElem?_eq_getElem h] at h2
 rcases List.mem_append.1 hs with hs | hs
 ·exact h1 s hs
 ·simp at hs; subst hs; exact h2
theorem bad_c {a : Bs} {w : World} :
  Cw 195 #[.string (S a)] w (.bool (!decide (okN a))) := by
 refine En [] [(0, .string (S a))] Tryz.func195 rfl Tryz.ntmps195 rfl (Ac rfl (An _)) Fn ?_
 refine Cs (Ka rfl (Nt (Cs (Km rfl ?_))))
 refine Ku rfl (Oc rfl rfl (Kv fun w hS => valid_c)) ?_
 refine Kq rfl (Rt rfl rfl) (Ka rfl (Nt (Ce ?_)))
 exact R1 rfl rfl (by rfl)
theorem idxf_c {l : List Bs} {a : Option Addr} {cap : Nat} {w : World} {ok : Nat → Prop} (hF1 : (Fact.sl a (strs l)).holds ok w) (hl : l.length ≤ 9223372036854775807) :
  Calls Tryz.prog 229 #[.slice a l.length cap, .func (.func 195) #[] #[]] w fun e w' => ∃ r : Int, e = .returned (.int .i64 r) ∧ (0 ≤ r ↔ ¬ ∀ s ∈ l, okN s) ∧ Below w.heap.size w w' := by
 refine En [Fact.sl a (strs l)] [(0, .slice a l.length cap), (1, .func (.func 195) #[] #[])] Tryz.func229 rfl Tryz.ntmps229 rfl (Ac rfl (Ac rfl (An _))) (Fc (fact_any hF1) Fn) ?_
 refine Cs (Ka rfl (Nt (Cq (Cs (Km rfl (Kq rfl (rd_len rfl rfl u31) (Km rfl (Nt (Cb ?_)))))))))
 refine Lp (σ := Nat) [(0, _), (1, _), (7, _)] (fun gq => [(8, .int .i64 (gq : Int))]) (fun gq => gq ≤ l.length ∧ ∀ s ∈ l.take gq, okN s) (fun gq => l.length - gq) (0) (S3 rfl rfl rfl) (S1 rfl) (by (try dsimp only); exact ⟨Nat.zero_le _, fun s h => by simp at h⟩) ?_
 rintro k hinv1; (try dsimp only at hinv1 ⊢)
 obtain ⟨hk, hks⟩ := hinv1
 refine Cs (Kq rfl (rd_lss rfl rfl rfl) (Nt (Cq ?_)))
 refine Cd rfl (fun hc9 => ?_) (fun hc9 => ?_)
 ·(try simp only [sB] at hc9)
  refine Ck (Xa (Cq (Cb (Cs (Km rfl (Ka rfl (Nt (Cs (Km rfl (Km rfl (Km rfl ?_)))))))))))
  refine Kq rfl (Ib rfl rfl rfl u31 (by omega) (by (rw [List.length_map]; omega))) ?_
  refine Kq rfl (ldm rfl rfl u22 rfl (by omega)) ?_
  refine Ku rfl (og_callv rfl rfl rfl (by kernel_rfl) rfl (Kv fun w hS => bad_c (a := l.getD k default))) ?_
  refine Nt ?_
  refine Cd rfl (fun hc16 => ?_) (fun hc16 => ?_)
  ·(try simp only [sB] at hc16)
   refine Cs (Km rfl (Ka rfl (Nt (Ce (Xf (Xb (Xb (Xf (Xb ?_)))))))))
   exact Rn rfl (.tmp rfl .nil) fun w' hS => ⟨_, rfl, ⟨fun _ h => by have := h _ (getD_memB l k (by omega)); simp_all, fun _ => by omega⟩, hS.below⟩
  ·(try simp only [sB] at hc16)
   refine Ck (Xd (Xa (Cg (Kq rfl (Rz rfl rfl rfl (by omega)) (Km rfl (Nn ?_))))))
   refine Ly (k + 1) (by (try dsimp only); omega) (S3 rfl rfl rfl) (by refine (Sc ?_ (S0 _)) <;> (rfl)) ?_ (by (exact fun _ h => h))
   (try dsimp only)
   exact ⟨by omega, all_takeB (by omega) hks (by simpa using hc16)⟩
 ·(try simp only [sB] at hc9)
  refine Cx (Xc (Xc (Xe ?_)))
  obtain rfl : k = l.length := by omega
  rw [List.take_of_length_le (Nat.le_refl _)] at hks
  refine Xa (Cs (Ka rfl (Nt (Ce ?_))))
  exact Rn rfl (.tmp rfl .nil) fun w' hS => ⟨-1, rfl, ⟨fun h => by omega, fun h => absurd hks h⟩, hS.below⟩
theorem keep_ex {P : Program} {f : FuncId} {args : Array Value} {ok : Nat → Prop} {w0 : World} {own : List Ent} {fs : List Fact} {γ : Type} {val : γ → Value} {p : γ → Prop} (h : ∀ w, St ok w0 own fs w → Calls P f args w (fun e w' => ∃ r : γ, e = .returned (val r) ∧ p r ∧ Below w.heap.size w w')) :
  ∀ w, St ok w0 own fs w → Calls P f args w (fun e w' => ∃ g, e = .returned (val g) ∧ (p g ∧ St ok w0 own fs w')) :=
 fun w hS => (h w hS).mono fun e w' ⟨r, h1, h2, h3⟩ => ⟨r, h1, h2, hS.keep h3⟩
theorem contf_c {l : List Bs} {a : Option Addr} {cap : Nat} {w : World} {ok : Nat → Prop} (hF1 : (Fact.sl a (strs l)).holds ok w) (hl : l.length ≤ 9223372036854775807) :
  Cw 194 #[.slice a l.length cap, .func (.func 195) #[] #[]] w (.bool (decide (¬ ∀ s ∈ l, okN s))) := by
 refine En [Fact.sl a (strs l)] [(0, .slice a l.length cap), (1, .func (.func 195) #[] #[])] Tryz.func194 rfl Tryz.ntmps194 rfl (Ac rfl (Ac rfl (An _))) (Fc (fact_any hF1) Fn) ?_
 refine Cs (Ka rfl (Nt (Cs (Km rfl (Km rfl ?_)))))
 refine Kh rfl (Oc rfl rfl (keep_ex fun w hS => idxf_c (l := l) (a := a) (cap := cap) (w := w) hS.sl hl)) ?_
 intro r; refine WL.pu ?_; intro hr
 refine Kq rfl (rd_geq rfl rfl rfl) (Ka rfl (Nt (Ce ?_)))
 exact Rn rfl (.tmp rfl .nil) fun w' hS => ⟨congrArg (fun b => Ending.returned (.bool b)) (decide_eq_decide.2 hr), hS.below⟩
theorem good_c {t : Tp} {a : Option Addr} {cap : Nat} {w : World} {ok : Nat → Prop} (hF1 : (Fact.sl a (strs t.vals)).holds ok w) (hl : t.vals.length ≤ 9223372036854775807) :
  Cw 152 #[t.v (.slice a t.vals.length cap)] w (.bool (decide (goodT t))) := by
 refine En [Fact.sl a (strs t.vals)] [(0, t.v (.slice a t.vals.length cap))] Tryz.func152 rfl Tryz.ntmps152 rfl (Ac rfl (An _)) (Fc (fact_any hF1) Fn) ?_
 refine Cs ?_
 refine Kh rfl (Oy rfl rfl) ?_
 intro b1
 refine Ka rfl (Nt (Cs (Kq rfl (Fa (q := 2) rfl rfl u33 rfl rfl) (Kq rfl (Ld rfl rfl .tc u3) ?_))))
 refine Kq rfl (rd_geq rfl rfl rfl) (Km rfl ?_)
 refine Nb 6 rfl (fun hg6 => ?_) (fun hg6 => ?_)
 ·(try simp only [sB] at hg6)
  refine Kq rfl (Fa (q := 2) rfl rfl u33 rfl rfl) (Kq rfl (Ld rfl rfl .tc u3) ?_)
  refine Kq rfl (rd_leq rfl rfl rfl) (Kq rfl (Rp rfl rfl rfl) (Km rfl ?_))
  refine Nb 11 rfl (fun hg11 => ?_) (fun hg11 => ?_)
  ·(try simp only [sB] at hg11)
   refine Kq rfl (Fa (q := 0) rfl rfl u33 rfl rfl) (Kq rfl (Ld rfl rfl .tc u31) ?_)
   refine Ku rfl (Oc rfl rfl (Kv fun w hS => contf_c (l := t.vals) (by (exact hS.sl)) (by assumption))) ?_
   refine Kq rfl (Rt rfl rfl) (Kq rfl (Rp rfl rfl rfl) (Ka rfl (Nt (Ce ?_))))
   exact Rn rfl (.tmp rfl .nil) fun w' hS => ⟨congrArg (fun b => Ending.returned (.bool b)) (by rw [Bool.eq_iff_iff]; simp only [Bool.not_eq_true', decide_eq_false_iff_not, decide_eq_true_eq, Classical.not_not, Bool.false_eq_true]; unfold goodT; (exact ⟨fun h => ⟨by omega, by omega, h⟩, fun h => h.2.2⟩)), hS.below⟩
  ·(try simp only [sB] at hg11)
   refine Kt rfl (Kt rfl (Kt rfl (Kt rfl (Kq rfl (Rq rfl rfl rfl) (Ka rfl (Nt (Ce ?_)))))))
   exact Rn rfl (.tmp rfl .nil) fun w' hS => ⟨congrArg (fun b => Ending.returned (.bool b)) (by rw [Bool.eq_iff_iff]; simp only [Bool.not_eq_true', decide_eq_false_iff_not, decide_eq_true_eq, Classical.not_not, Bool.false_eq_true]; unfold goodT; (exact ⟨fun h => h.elim, fun h => by omega⟩)), hS.below⟩
 ·(try simp only [sB] at hg6)
  refine Kt rfl (Kt rfl (Kt rfl (Kq rfl (Rq rfl rfl rfl) (Km rfl (Kt rfl (Kt rfl (Kt rfl (Kt rfl (Kq rfl (Rq rfl rfl rfl) (Ka rfl (Nt (Ce ?_))))))))))))
  exact Rn rfl (.tmp rfl .nil) fun w' hS => ⟨congrArg (fun b => Ending.returned (.bool b)) (by rw [Bool.eq_iff_iff]; simp only [Bool.not_eq_true', decide_eq_false_iff_not, decide_eq_true_eq, Classical.not_not, Bool.false_eq_true]; unfold goodT; (exact ⟨fun h => h.elim, fun h => by omega⟩)), hS.below⟩
theorem rtgood_c {t : Tp} {a : Option Addr} {cap : Nat} {w : World} {ok : Nat → Prop} (hF1 : (Fact.sl a (strs t.vals)).holds ok w) (hl : t.vals.length ≤ 9223372036854775807) :
  Cw 51 #[t.v (.slice a t.vals.length cap)] w (.bool (decide (goodT t))) := by
 refine En [Fact.sl a (strs t.vals)] [(0, t.v (.slice a t.vals.length cap))] Tryz.func51 rfl Tryz.ntmps51 rfl (Ac rfl (An _)) (Fc (fact_any hF1) Fn) ?_
 refine Cs ?_
 refine Kh rfl (Oy rfl rfl) ?_
 intro b1
 refine Ka rfl (Nt (Cq (Cs (Ka rfl (Nt (Cb ?_))))))
 refine Lp (σ := Nat) [(1, _)] (fun gq => [(3, .int .i64 (gq : Int))]) (fun gq => gq ≤ t.vals.length ∧ ∀ s ∈ t.vals.take gq, okN s) (fun gq => t.vals.length - gq) (0) (S1 rfl) (S1 rfl) (by (try dsimp only); exact ⟨Nat.zero_le _, fun s h => by simp at h⟩) ?_
 rintro k hinv1; (try dsimp only at hinv1 ⊢)
 obtain ⟨hk, hks⟩ := hinv1
 refine Cq (Cs (Km rfl (Kq rfl (Fa (q := 0) rfl rfl u33 rfl rfl) (Kq rfl (Ld rfl rfl .tc u31) ?_))))
 refine Kq rfl (rd_len rfl rfl u31) (Kq rfl (rd_lss rfl rfl rfl) (Nt ?_))
 refine Cd rfl (fun hc8 => ?_) (fun hc8 => ?_)
 ·(try simp only [sB] at hc8)
  refine Ck (Xa (Cq (Cb (Cs (Kq rfl (Fa (q := 0) rfl rfl u33 rfl rfl) (Kq rfl (Ld rfl rfl .tc u31) ?_))))))
  refine Km rfl ?_
  refine Kq rfl (Ib rfl rfl rfl u31 (by omega) (by (rw [List.length_map]; omega))) ?_
  refine Kq rfl (ldm rfl rfl u22 rfl (by omega)) ?_
  refine Ku rfl (Oc rfl rfl (Kv fun w hS => rvalid_c (a := t.vals.getD k default))) ?_
  refine Kq rfl (Rt rfl rfl) (Nt ?_)
  refine Cd rfl (fun hc17 => ?_) (fun hc17 => ?_)
  ·(try simp only [sB] at hc17)
   refine Cs (Ka rfl (Nt (Ce (Xf (Xb (Xb (Xf (Xb ?_))))))))
   exact Rn rfl (.tmp rfl .nil) fun w' hS => ⟨congrArg (fun b => Ending.returned (.bool b)) (by symm; rw [decide_eq_false_iff_not]; intro h; have := h.2.2 _ (getD_memB t.vals k (by omega)); simp_all), hS.below⟩
  ·(try simp only [sB] at hc17)
   refine Ck (Xd (Xa (Cg (Km rfl (Kq rfl (Rz rfl rfl rfl (by omega)) (Ka rfl (Nn ?_)))))))
   refine Ly (k + 1) (by (try dsimp only); omega) (S1 rfl) (by refine (Sc ?_ (S0 _)) <;> (rfl)) ?_ (by (exact fun _ h => h))
   (try dsimp only)
   exact ⟨by omega, all_takeB (by omega) hks (by simpa using hc17)⟩
 ·(try simp only [sB] at hc8)
  refine Cx (Xc (Xc (Xe ?_)))
  obtain rfl : k = t.vals.length := by omega
  rw [List.take_of_length_le (Nat.le_refl _)] at hks
  refine Xa (Cs (Kq rfl (Fa (q := 2) rfl rfl u33 rfl rfl) (Kq rfl (Ld rfl rfl .tc u3) ?_)))
  refine Kq rfl (rd_geq rfl rfl rfl) (Km rfl ?_)
  refine Nb 21 rfl (fun hg21 => ?_) (fun hg21 => ?_)
  ·(try simp only [sB] at hg21)
   refine Kq rfl (Fa (q := 2) rfl rfl u33 rfl rfl) (Kq rfl (Ld rfl rfl .tc u3) ?_)
   refine Kq rfl (rd_leq rfl rfl rfl) (Kq rfl (Rp rfl rfl rfl) (Ka rfl (Nt (Ce ?_))))
   exact Rn rfl (.tmp rfl .nil) fun w' hS => ⟨congrArg (fun b => Ending.returned (.bool b)) (by rw [Bool.eq_iff_iff]; simp only [decide_eq_true_eq, Bool.false_eq_true]; unfold goodT; (exact ⟨fun h => ⟨by omega, by omega, hks⟩, fun h => by omega⟩)), hS.below⟩
  ·(try simp only [sB] at hg21)
   refine Kt rfl (Kt rfl (Kt rfl (Kq rfl (Rq rfl rfl rfl) (Ka rfl (Nt (Ce ?_))))))
   exact Rn rfl (.tmp rfl .nil) fun w' hS => ⟨congrArg (fun b => Ending.returned (.bool b)) (by rw [Bool.eq_iff_iff]; simp only [decide_eq_true_eq, Bool.false_eq_true]; unfold goodT; (exact ⟨fun h => h.elim, fun h => by omega⟩)), hS.below⟩
theorem take_sameL {l m : List Bs} {k : Nat} (h1 : k < l.length) (h2 : k < m.length) (h : l.take k = m.take k) (h3 : l.getD k default = m.getD k default) : l.take (k + 1) = m.take (k + 1) := by
 rw [List.getD_eq_getElem?_getD, List.getD_eq_getElem?_getD, List.getElem?_eq_getElem h1, List.getElem?_eq_getElem h2] at h3
 rw [List.take_add_one, List.take_add_one, h, List.getElem?_eq_getElem h1, List.getElem?_eq_getElem h2]
 rw [Option.toList, Option.toList]; simp only [Option.getD] at h3; rw [h3]
theorem Tp.eq_iff (a b : Tp) : a = b ↔ a.seed = b.seed ∧ a.at_ = b.at_ ∧ a.vals = b.vals := by
 cases a; cases b; simp only [Tp.mk.injEq]; constructor
 ·rintro ⟨h1, h2, h3⟩; exact ⟨h2, h3, h1⟩
 ·rintro ⟨h1, h2, h3⟩; exact ⟨h3, h1, h2⟩
theorem sameT_c {t u : Tp} {a b : Option Addr} {ca cb : Nat} {w : World} {ok : Nat → Prop} (hF1 : (Fact.sl a (strs t.vals)).holds ok w) (hF2 : (Fact.sl b (strs u.vals)).holds ok w) (hl : t.vals.length ≤ 1000000) (hm : u.vals.length ≤ 1000000) :
  Cw 16 #[t.v (.slice a t.vals.length ca), u.v (.slice b u.vals.length cb)] w (.bool (decide (t = u))) := by
 refine En [Fact.sl a (strs t.vals), Fact.sl b (strs u.vals)] [(0, t.v (.slice a t.vals.length ca)), (1, u.v (.slice b u.vals.length cb))] Tryz.func16 rfl Tryz.ntmps16 rfl (Ac rfl (Ac rfl (An _))) (Fc (fact_any hF1) (Fc (fact_any hF2) Fn)) ?_
 refine Cs ?_
 refine Kh rfl (Oy rfl rfl) ?_
 intro b2
 refine Kh rfl (Oy rfl rfl) ?_
 intro b3
 refine Ka rfl (Nt (Cq (Cs (Kq rfl (Fa (q := 1) rfl rfl u33 rfl rfl) (Kq rfl (Ld rfl rfl .tc u9) ?_)))))
 refine Kq rfl (Fa (q := 1) rfl rfl u33 rfl rfl) (Kq rfl (Ld rfl rfl .tc u9) ?_)
 refine Kq rfl (rd_sne rfl rfl rfl) (Km rfl ?_)
 refine Nb 11 rfl (fun hg11 => ?_) (fun hg11 => ?_)
 ·(try simp only [sB] at hg11)
  refine Kt rfl (Kt rfl (Kt rfl (Kt rfl (Kt rfl (Kq rfl (Rp rfl rfl rfl) (Km rfl (Kt rfl (Kt rfl (Kt rfl (Kt rfl (Kt rfl (Kt rfl (Kt rfl (Kq rfl (Rp rfl rfl rfl) (Nt ?_)))))))))))))))
  refine Cd rfl (fun _ => ?_) (fun h => by cases h)
  refine Cs (Ka rfl (Nt (Ce (Xb ?_))))
  exact Rn rfl (.tmp rfl .nil) fun w' hS => ⟨congrArg (fun b => Ending.returned (.bool b)) (by symm; rw [decide_eq_false_iff_not]; rintro rfl; simp_all), hS.below⟩
 ·(try simp only [sB] at hg11)
  refine Kq rfl (Fa (q := 2) rfl rfl u33 rfl rfl) (Kq rfl (Ld rfl rfl .tc u3) ?_)
  refine Kq rfl (Fa (q := 2) rfl rfl u33 rfl rfl) (Kq rfl (Ld rfl rfl .tc u3) ?_)
  refine Kq rfl (rd_neq rfl rfl rfl) (Kq rfl (Rq rfl rfl rfl) (Km rfl ?_))
  refine Nb 18 rfl (fun hg18 => ?_) (fun hg18 => ?_)
  ·(try simp only [sB] at hg18)
   refine Kt rfl (Kt rfl (Kt rfl (Kt rfl (Kt rfl (Kt rfl (Kt rfl (Kq rfl (Rp rfl rfl rfl) (Nt ?_))))))))
   refine Cd rfl (fun _ => ?_) (fun h => by cases h)
   refine Cs (Ka rfl (Nt (Ce (Xb ?_))))
   exact Rn rfl (.tmp rfl .nil) fun w' hS => ⟨congrArg (fun b => Ending.returned (.bool b)) (by symm; rw [decide_eq_false_iff_not]; rintro rfl; simp_all), hS.below⟩
  ·(try simp only [sB] at hg18)
   refine Kq rfl (Fa (q := 0) rfl rfl u33 rfl rfl) (Kq rfl (Ld rfl rfl .tc u31) ?_)
   refine Kq rfl (rd_len rfl rfl u31) (Kq rfl (Fa (q := 0) rfl rfl u33 rfl rfl) (Kq rfl (Ld rfl rfl .tc u31) ?_))
   refine Kq rfl (rd_len rfl rfl u31) (Kq rfl (rd_neq rfl rfl rfl) (Kq rfl (Rq rfl rfl rfl) (Nt ?_)))
   refine Cd rfl (fun hc26 => ?_) (fun hc26 => ?_)
   ·(try simp only [sB] at hc26)
    refine Cs (Ka rfl (Nt (Ce (Xb ?_))))
    exact Rn rfl (.tmp rfl .nil) fun w' hS => ⟨congrArg (fun b => Ending.returned (.bool b)) (by symm; rw [decide_eq_false_iff_not]; rintro rfl; simp_all), hS.below⟩
   ·(try simp only [sB] at hc26)
    have hsd : t.seed = u.seed := by simp_all
    have hat : t.at_ = u.at_ := by simp_all
    have hln : t.vals.length = u.vals.length := by omega
    refine Ck (Xa (Cq (Cs (Ka rfl (Nt (Cb ?_))))))
    refine Lp (σ := Nat) [(2, _), (3, _)] (fun gq => [(5, .int .i64 (gq : Int))]) (fun gq => gq ≤ t.vals.length ∧ t.vals.take gq = u.vals.take gq) (fun gq => t.vals.length - gq) (0) (S2 rfl rfl) (S1 rfl) (by (try dsimp only); exact ⟨Nat.zero_le _, by simp⟩) ?_
    rintro k hinv1; (try dsimp only at hinv1 ⊢)
    obtain ⟨hk, hkk⟩ := hinv1
    refine Cq (Cs (Km rfl (Kq rfl (Fa (q := 0) rfl rfl u33 rfl rfl) (Kq rfl (Ld rfl rfl .tc u31) ?_))))
    refine Kq rfl (rd_len rfl rfl u31) (Kq rfl (rd_lss rfl rfl rfl) (Nt ?_))
    refine Cd rfl (fun hc31 => ?_) (fun hc31 => ?_)
    ·(try simp only [sB] at hc31)
     refine Ck (Xa (Cq (Cb (Cq ?_))))
     refine Cf [0, 1, 2, 3, 4, 5, 6, 7, 8, 9, 10] [] [0, 0, 0, 0, 0, 0, 0, 0, 0, 0, 0] (by kernel_rfl) (by kernel_rfl) rfl ?_
     refine Kj rfl (Fa (q := 0) rfl rfl u33 rfl rfl) (Kj rfl (Ld rfl rfl .tc u31) ?_)
     refine Kj rfl (Rm rfl rfl) ?_
     refine Kj rfl (Ib rfl rfl rfl u31 (by omega) (by (rw [List.length_map]; omega))) ?_
     refine Kj rfl (ldm rfl rfl u22 rfl (by omega)) ?_
     refine Kj rfl (Fa (q := 0) rfl rfl u33 rfl rfl) (Kj rfl (Ld rfl rfl .tc u31) ?_)
     refine Kj rfl (Rm rfl rfl) ?_
     refine Kj rfl (Ib rfl rfl rfl u31 (by omega) (by (rw [List.length_map]; omega))) ?_
     refine Kj rfl (ldm rfl rfl u22 rfl (by omega)) ?_
     refine Kj rfl (rd_sne rfl rfl rfl) ?_
     refine WJ.nil ?_
     refine Nt ?_
     refine Cd rfl (fun hc44 => ?_) (fun hc44 => ?_)
     ·(try simp only [sB] at hc44)
      refine Cs (Ka rfl (Nt (Ce (Xf (Xb (Xb (Xf (Xb ?_))))))))
      exact Rn rfl (.tmp rfl .nil) fun w' hS => ⟨congrArg (fun b => Ending.returned (.bool b)) (by symm; rw [decide_eq_false_iff_not]; intro h; rw [h] at hc44; simp at hc44), hS.below⟩
     ·(try simp only [sB] at hc44)
      refine Ck (Xd (Xa (Cg (Km rfl (Kq rfl (Rz rfl rfl rfl (by omega)) (Ka rfl (Nn ?_)))))))
      refine Ly (k + 1) (by (try dsimp only); omega) (S2 rfl rfl) (by refine (Sc ?_ (S0 _)) <;> (rfl)) ?_ (by (exact fun _ h => h))
      (try dsimp only)
      exact ⟨by omega, take_sameL (by omega) (by omega) hkk (by simpa using hc44)⟩
    ·(try simp only [sB] at hc31)
     refine Cx (Xc (Xc (Xe ?_)))
     obtain rfl : k = t.vals.length := by omega
     rw [List.take_of_length_le (Nat.le_refl _), List.take_of_length_le (by omega)] at hkk
     refine Xa (Cs (Ka rfl (Nt (Ce ?_))))
     exact Rn rfl (.tmp rfl .nil) fun w' hS => ⟨congrArg (fun b => Ending.returned (.bool b)) (by symm; rw [decide_eq_true_eq, Tp.eq_iff]; exact ⟨hsd, hat, hkk⟩), hS.below⟩
def fewT (t : Tp) : Prop := t.vals.length ≤ 40 ∧ t.seed.length ≤ 100 ∧ ∀ s ∈ t.vals, s.length ≤ 140
instance (t : Tp) : Decidable (fewT t) := inferInstanceAs (Decidable (_ ∧ _ ∧ _))
theorem fewT_c {t : Tp} {a : Option Addr} {cap : Nat} {w : World} {ok : Nat → Prop} (hF1 : (Fact.sl a (strs t.vals)).holds ok w) (hl : t.vals.length ≤ 9223372036854775807) :
  Cw 12 #[t.v (.slice a t.vals.length cap)] w (.bool (decide (fewT t))) := by
 refine En [Fact.sl a (strs t.vals)] [(0, t.v (.slice a t.vals.length cap))] Tryz.func12 rfl Tryz.ntmps12 rfl (Ac rfl (An _)) (Fc (fact_any hF1) Fn) ?_
 refine Cs ?_
 refine Kh rfl (Oy rfl rfl) ?_
 intro b1
 refine Ka rfl (Nt (Cq (Cs (Ka rfl (Nt (Cb ?_))))))
 refine Lp (σ := Nat) [(1, _)] (fun gq => [(3, .int .i64 (gq : Int))]) (fun gq => gq ≤ t.vals.length ∧ gq ≤ 40 ∧ ∀ s ∈ t.vals.take gq, s.length ≤ 140) (fun gq => t.vals.length - gq) (0) (S1 rfl) (S1 rfl) (by (try dsimp only); exact ⟨Nat.zero_le _, by omega, fun s h => by simp at h⟩) ?_
 rintro k hinv1; (try dsimp only at hinv1 ⊢)
 obtain ⟨hk, hk4, hks⟩ := hinv1
 refine Cq (Cs (Km rfl (Kq rfl (Fa (q := 0) rfl rfl u33 rfl rfl) (Kq rfl (Ld rfl rfl .tc u31) ?_))))
 refine Kq rfl (rd_len rfl rfl u31) (Kq rfl (rd_lss rfl rfl rfl) (Km rfl ?_))
 refine Nb 9 rfl (fun hg9 => ?_) (fun hg9 => ?_)
 ·(try simp only [sB] at hg9)
  refine Km rfl (Kq rfl (rd_lss rfl rfl rfl) (Kq rfl (Rp rfl rfl rfl) (Nt ?_)))
  refine Cd rfl (fun hc12 => ?_) (fun hc12 => ?_)
  ·(try simp only [sB] at hc12)
   refine Ck (Xa (Cq (Cb (Cs (Kq rfl (Fa (q := 0) rfl rfl u33 rfl rfl) (Kq rfl (Ld rfl rfl .tc u31) ?_))))))
   refine Km rfl ?_
   refine Kq rfl (Ib rfl rfl rfl u31 (by omega) (by (rw [List.length_map]; omega))) ?_
   refine Kq rfl (ldm rfl rfl u22 rfl (by omega)) ?_
   refine Kq rfl (rd_slen rfl rfl u22) (Kq rfl (rd_gtr rfl rfl rfl) (Nt ?_))
   refine Cd rfl (fun hc21 => ?_) (fun hc21 => ?_)
   ·(try simp only [sB] at hc21)
    refine Cs (Ka rfl (Nt (Ce (Xf (Xb (Xb (Xf (Xb ?_))))))))
    exact Rn rfl (.tmp rfl .nil) fun w' hS => ⟨congrArg (fun b => Ending.returned (.bool b)) (by symm; rw [decide_eq_false_iff_not]; intro h; have := h.2.2 _ (getD_memB t.vals k (by omega)); omega), hS.below⟩
   ·(try simp only [sB] at hc21)
    refine Ck (Xd (Xa (Cg (Km rfl (Kq rfl (Rz rfl rfl rfl (by omega)) (Ka rfl (Nn ?_)))))))
    refine Ly (k + 1) (by (try dsimp only); omega) (S1 rfl) (by refine (Sc ?_ (S0 _)) <;> (rfl)) ?_ (by (exact fun _ h => h))
    (try dsimp only)
    exact ⟨by omega, by omega, all_takeB (by omega) hks (by omega)⟩
  ·(try simp only [sB] at hc12)
   refine Cx (Xc (Xc (Xe (Xa (Cs (Kq rfl (Fa (q := 0) rfl rfl u33 rfl rfl) (Kq rfl (Ld rfl rfl .tc u31) ?_)))))))
   refine Kq rfl (rd_len rfl rfl u31) (Kq rfl (rd_leq rfl rfl rfl) (Km rfl ?_))
   refine Nb 26 rfl (fun hg26 => ?_) (fun hg26 => ?_)
   ·(try simp only [sB] at hg26)
    refine Kq rfl (Fa (q := 1) rfl rfl u33 rfl rfl) (Kq rfl (Ld rfl rfl .tc u9) ?_)
    refine Kq rfl (rd_slen rfl rfl u9) (Kq rfl (rd_leq rfl rfl rfl) (Kq rfl (Rp rfl rfl rfl) (Ka rfl (Nt (Ce ?_)))))
    exact Rn rfl (.tmp rfl .nil) fun w' hS => ⟨congrArg (fun b => Ending.returned (.bool b)) (by rw [Bool.eq_iff_iff]; simp only [decide_eq_true_eq, Bool.false_eq_true]; unfold fewT; (exact ⟨fun h => ⟨by omega, by omega, by rw [List.take_of_length_le (by omega)] at hks; exact hks⟩, fun h => by omega⟩)), hS.below⟩
   ·(try simp only [sB] at hg26)
    refine Kt rfl (Kt rfl (Kt rfl (Kt rfl (Kq rfl (Rq rfl rfl rfl) (Ka rfl (Nt (Ce ?_)))))))
    exact Rn rfl (.tmp rfl .nil) fun w' hS => ⟨congrArg (fun b => Ending.returned (.bool b)) (by rw [Bool.eq_iff_iff]; simp only [decide_eq_true_eq, Bool.false_eq_true]; unfold fewT; (exact ⟨fun h => h.elim, fun h => by omega⟩)), hS.below⟩
 ·(try simp only [sB] at hg9)
  refine Kt rfl (Kt rfl (Kq rfl (Rq rfl rfl rfl) (Nt ?_)))
  refine Cd rfl (fun h => by cases h) (fun _ => ?_)
  refine Cx (Xc (Xc (Xe (Xa (Cs (Kq rfl (Fa (q := 0) rfl rfl u33 rfl rfl) (Kq rfl (Ld rfl rfl .tc u31) ?_)))))))
  refine Kq rfl (rd_len rfl rfl u31) (Kq rfl (rd_leq rfl rfl rfl) (Km rfl ?_))
  refine Nb 26 rfl (fun hg26 => ?_) (fun hg26 => ?_)
  ·(try simp only [sB] at hg26)
   refine Kq rfl (Fa (q := 1) rfl rfl u33 rfl rfl) (Kq rfl (Ld rfl rfl .tc u9) ?_)
   refine Kq rfl (rd_slen rfl rfl u9) (Kq rfl (rd_leq rfl rfl rfl) (Kq rfl (Rp rfl rfl rfl) (Ka rfl (Nt (Ce ?_)))))
   exact Rn rfl (.tmp rfl .nil) fun w' hS => ⟨congrArg (fun b => Ending.returned (.bool b)) (by rw [Bool.eq_iff_iff]; simp only [decide_eq_true_eq, Bool.false_eq_true]; unfold fewT; (exact ⟨fun h => ⟨by omega, by omega, by rw [List.take_of_length_le (by omega)] at hks; exact hks⟩, fun h => by omega⟩)), hS.below⟩
  ·(try simp only [sB] at hg26)
   refine Kt rfl (Kt rfl (Kt rfl (Kt rfl (Kq rfl (Rq rfl rfl rfl) (Ka rfl (Nt (Ce ?_)))))))
   exact Rn rfl (.tmp rfl .nil) fun w' hS => ⟨congrArg (fun b => Ending.returned (.bool b)) (by rw [Bool.eq_iff_iff]; simp only [decide_eq_true_eq, Bool.false_eq_true]; unfold fewT; (exact ⟨fun h => h.elim, fun h => by omega⟩)), hS.below⟩
theorem dig10 : ∀ n, n < 10 → (([48, 49, 50, 51, 52, 53, 54, 55, 56, 57] : Bs).drop n).take 1 = [UInt8.ofNat (48 + n)] := by decide
theorem dec_big {n : Nat} (h : ¬ n < 10) : Lib.decDigits n = Lib.decDigits (n / 10) ++ [UInt8.ofNat (48 + n % 10)] := by rw [Lib.decDigits, dif_neg h]
theorem dec_small {n : Nat} (h : n < 10) : Lib.decDigits n = [UInt8.ofNat (48 + n)] := by rw [Lib.decDigits, dif_pos h]
theorem dec_len20 : ∀ (k n : Nat), n < 10 ^ (k + 1) → (Lib.decDigits n).length ≤ k + 1
 | 0, n, h => by rw [dec_small (by simpa using h)]; simp
 | k + 1, n, h => by
  by_cases h' : n < 10
  ·rw [dec_small h']; simp
  ·rw [dec_big h', List.length_append]
   have := dec_len20 k (n / 10) (by rw [Nat.pow_succ] at h; omega)
   simp; omega
theorem dec_n {n : Nat} {w : World} (hih : ∀ m, m < n → ∀ w, Calls Tryz.prog 198 #[.int .i64 (m : Int)] w fun e w' => e = .returned (.string (S (Lib.decDigits m))) ∧ Below w.heap.size w w') (hn : n < 10000000000000000000) (hn2 : n ≤ 9223372036854775807) :
  Cw 198 #[.int .i64 (n : Int)] w (.string (S (Lib.decDigits n))) := by
 refine En [] [(0, .int .i64 (n : Int))] Tryz.func198 rfl Tryz.ntmps198 rfl (Ac rfl (An _)) Fn ?_
 refine Cs (Ka rfl (Nt (Cq (Cs (Km rfl (Kq rfl (rd_lss rfl rfl rfl) (Nt ?_)))))))
 refine Cd rfl (fun hc5 => by exfalso; (try simp only [sB] at hc5); omega) (fun hc5 => ?_)
 (try simp only [sB] at hc5)
 refine Ck (Xa (Cq (Cs (Km rfl (Kq rfl (rd_lss rfl rfl rfl) (Nt ?_))))))
 refine Cd rfl (fun hc24 => ?_) (fun hc24 => ?_)
 ·(try simp only [sB] at hc24)
  refine Cs (Km rfl (Km rfl (Kq rfl (Rz rfl rfl rfl (by omega)) ?_)))
  refine Kq rfl (rd_ss rfl rfl rfl rfl u9 ?_) ?_
  ·(try simp only [List.length_append, List.length_cons, List.length_nil]); omega
  refine Ns 28 rfl (v' := .string (S ([UInt8.ofNat (48 + n)]))) (congrArg (fun l => Value.string (S l)) (by (have := dig10 n (by omega); rw [← this]; rw [Int.toNat_natCast, Int.toNat_natCast, Nat.add_sub_cancel_left]))) ?_
  refine Ka rfl (Nt (Ce (Xb ?_)))
  exact R1 rfl rfl (by rw [dec_small (by omega)]; rfl)
 ·(try simp only [sB] at hc24)
  refine Ck (Xa (Cq ?_))
  refine Cf [0, 1, 2, 3, 4, 5, 6, 7, 8, 9, 10] [] [0, 0, 1, 0, 0, 0, 0, 0, 0, 0, 0] (by kernel_rfl) (by kernel_rfl) rfl ?_
  refine Kj rfl (Rm rfl rfl) (Kj rfl (rd_quo64nl rfl rfl rfl (by omega)) ?_)
  refine Jv rfl rfl rfl rfl rfl (fun ext => Oc rfl rfl (Kv fun w hS => hih (n / 10) (by omega) w)) ?_
  refine Kj rfl (Rm rfl rfl) (Kj rfl (rd_rem64nl rfl rfl rfl (by omega)) (Kj rfl (Rm rfl rfl) (Kj rfl (rd_rem64nl rfl rfl rfl (by omega)) (Kj rfl (Rz rfl rfl rfl (by omega)) ?_))))
  refine Kj rfl (rd_ss rfl rfl rfl rfl u9 ?_) ?_
  ·(try simp only [List.length_append, List.length_cons, List.length_nil]); omega
  refine WJ.set 37 rfl (v' := .string (S ([UInt8.ofNat (48 + n % 10)]))) (congrArg (fun l => Value.string (S l)) (by (have := dig10 (n % 10) (by omega); rw [← this]; rw [Int.toNat_natCast, Int.toNat_natCast, Nat.add_sub_cancel_left]))) ?_
  have hdl := dec_len20 18 (n / 10) (by omega)
  refine Kj rfl (rd_cat rfl rfl rfl ?_) ?_
  ·((try simp only [List.length_append, List.length_cons, List.length_nil]); omega)
  refine Kj rfl (Ra rfl rfl) ?_
  refine WJ.nil ?_
  refine Nt (Ce ?_)
  exact R1 rfl rfl (by rw [dec_big (n := n) (by omega)]; rfl)
theorem dec_ok (n : Nat) (hn : n ≤ 9223372036854775807) : ∀ w, Cw 198 #[.int .i64 (n : Int)] w (.string (S (Lib.decDigits n))) := by
 induction n using Nat.strongRecOn with
 | _ n ih => intro w; exact dec_n (fun m hm w => ih m hm (by omega) w) (by omega) hn
theorem dec_c {n : Nat} {w : World} (hn : n ≤ 9223372036854775807) :
  Cw 198 #[.int .i64 (n : Int)] w (.string (S (Lib.decDigits n))) :=
 dec_ok n hn w
theorem canonical_c {s : Bs} {w : World} :
  Cw 199 #[.string (S s)] w (.string (S (canon (val s)))) := by
 refine En [] [(0, .string (S s))] Tryz.func199 rfl Tryz.ntmps199 rfl (Ac rfl (An _)) Fn ?_
 refine Cs (Ka rfl (Nt (Cq (Cb ?_))))
 refine Lp (σ := Bs) [] (fun gq => [(0, .string (S gq))]) (fun gq => trimB gq = trimB s) (fun gq => gq.length) (s) (S0 _) (S1 rfl) (by (try dsimp only); all_goals rfl) ?_
 rintro t hinv1; (try dsimp only at hinv1 ⊢)
 refine Cq (Cs (Km rfl (Kq rfl (rd_slen rfl rfl u9) (Kq rfl (rd_gtr rfl rfl rfl) (Km rfl ?_)))))
 refine Nb 6 rfl (fun hg6 => ?_) (fun hg6 => ?_)
 ·(try simp only [sB] at hg6)
  refine Km rfl ?_
  refine Kq rfl (rd_sidxD rfl rfl rfl u9 ?_) ?_
  ·omega
  refine Kq rfl (rd_eql rfl rfl rfl) (Kq rfl (Rp rfl rfl rfl) (Nt ?_))
  refine Cd rfl (fun hc10 => ?_) (fun hc10 => ?_)
  ·(try simp only [sB] at hc10)
   have hz : (t.getD 0 default).toNat = 0 := by (simp at hc10; exact hc10)
   refine Ck (Xa (Cb (Cg (Km rfl ?_))))
   refine Kq rfl (rd_sfrom rfl rfl rfl u9 ?_) ?_
   ·(try simp only [List.length_append, List.length_cons, List.length_nil]); omega
   refine Ns 12 rfl (v' := .string (S (t.drop 1))) (congrArg (fun l => Value.string (S l)) (by rfl)) ?_
   refine Ka rfl (Nn (Xd ?_))
   refine Ly (t.drop 1) (by simp only [List.length_drop]; omega) (S0 _) (by refine (Sc ?_ (S0 _)) <;> (rfl)) ?_ (by (exact fun _ h => h))
   (try dsimp only)
   rw [← trimB_zero (by omega) hz]; exact hinv1
  ·(try simp only [sB] at hc10)
   refine Cx (Xc (Xc (Xe (Xa (Cs (Km rfl (Ka rfl (Nt (Ce ?_)))))))))
   exact R1 rfl rfl (by rw [show canon (val s) = t from by rw [← trim_canon, ← hinv1, trimB_stop (by (exact .inr (fun h0 => hc10 (by show ((t.getD 0 default).toNat : Int) = 0; omega))))]]; rfl)
 ·(try simp only [sB] at hg6)
  refine Kt rfl (Kt rfl (Kt rfl (Kq rfl (Rq rfl rfl rfl) (Nt ?_))))
  refine Cd rfl (fun h => by cases h) (fun _ => ?_)
  refine Cx (Xc (Xc (Xe (Xa (Cs (Km rfl (Ka rfl (Nt (Ce ?_)))))))))
  exact R1 rfl rfl (by rw [show canon (val s) = t from by rw [← trim_canon, ← hinv1, trimB_stop (by (exact .inl (by omega)))]]; rfl)
theorem mac_len (k s : Bs) : (mac k s).length = 32 := sha_len _
def nameB (at_ a b : Nat) : Bs := Lib.decDigits at_ ++ [46] ++ Lib.decDigits a ++ [46] ++ Lib.decDigits b
def blkB (sd : Bs) (at_ a b : Nat) : Bs := mac sd (nameB at_ a b)
def blks (sd : Bs) (at_ a : Nat) : Nat → Bs
 | 0 => []
 | k + 1 => blks sd at_ a k ++ blkB sd at_ a k
theorem blks_len (sd : Bs) (at_ a : Nat) : ∀ k, (blks sd at_ a k).length = 32 * k
 | 0 => rfl
 | k + 1 => by rw [blks, List.length_append, blks_len sd at_ a k, blkB, mac_len]; omega
def sizeB (nb : Nat) : Nat := (nb + 7) / 8
def bytesB (sd : Bs) (at_ a nb : Nat) : Bs := (blks sd at_ a ((sizeB nb + 31) / 32)).take (sizeB nb)
def attS (sd : Bs) (at_ a nb : Nat) : Bs := canon (val (bytesB sd at_ a nb) % 2 ^ nb)
theorem mask_val (c : UInt8) (r : Bs) (x nb : Nat) (hx : x ≤ 8) (hn : nb = 8 * r.length + x) : val (c :: r) % 2 ^ nb = c.toNat % 2 ^ x * 256 ^ r.length + val r := by
 have e : 2 ^ nb = 256 ^ r.length * 2 ^ x := by rw [hn, Nat.pow_add, Nat.pow_mul]
 have h1 := val_lt r
 rw [val, e, Nat.mod_mul, Nat.mul_comm c.toNat, Nat.mul_add_mod, Nat.mod_eq_of_lt h1, Nat.mul_add_div (p256 _), Nat.div_eq_of_lt h1, Nat.add_zero, Nat.mul_comm (c.toNat % 2 ^ x)]
 omega
theorem shl1 (i : Nat) (h : i ≤ 62) : IntKind.i64.wrap (1 * 2 ^ min ((i : Nat) : Int).toNat IntKind.i64.bits) = ((2 ^ i : Nat) : Int) := by
 have m1 : min ((i : Nat) : Int).toNat IntKind.i64.bits = i := by
  have : IntKind.i64.bits = 64 := by decide
  omega
 have h2 : 2 ^ i ≤ 2 ^ 62 := Nat.pow_le_pow_right (by decide) h
 rw [m1, Int.one_mul, show ((2 : Int) ^ i) = ((2 ^ i : Nat) : Int) by norm_cast, wrap64n _ (by omega)]
theorem mod_step (c P : Nat) (hP : 0 < P) : c % P = if P ≤ c % (2 * P) then c % (2 * P) - P else c % (2 * P) := by
 have h1 : c % (2 * P) % P = c % P := Nat.mod_mod_of_dvd _ ⟨2, by omega⟩
 have h2 := Nat.mod_lt c (show 0 < 2 * P by omega)
 split
 ·rename_i h
  rw [← h1, Nat.mod_eq_sub_mod h, Nat.mod_eq_of_lt (by omega)]
 ·rw [← h1, Nat.mod_eq_of_lt (by omega)]
theorem att_end {sd X : Bs} {at_ a nb Z x : Nat} (hZ : Z = sizeB nb) (hZ0 : 1 ≤ Z) (hby : bytesB sd at_ a nb = X.take Z) (hX : Z ≤ X.length) (hx : x = (X.getD 0 default).toNat % 2 ^ (8 - (8 * Z - nb))) (hnb : nb ≤ 8 * Z) (hnb2 : 8 * Z < nb + 8) :
  canon (val ([UInt8.ofNat x] ++ (X.take Z).drop 1)) = attS sd at_ a nb := by
 have e : X.take Z = X.getD 0 default :: (X.take Z).drop 1 := by
  cases X with
  | nil => simp at hX; omega
  | cons c s => obtain ⟨q, rfl⟩ : ∃ q, Z = q + 1 := ⟨Z - 1, by omega⟩; rfl
 have hl : ((X.take Z).drop 1).length = Z - 1 := by rw [List.length_drop, List.length_take]; omega
 have hc := (X.getD 0 default).toNat_lt
 have hxl : x < 256 := by rw [hx]; exact Nat.lt_of_le_of_lt (Nat.mod_le _ _) hc
 have hm := mask_val (X.getD 0 default) ((X.take Z).drop 1) (8 - (8 * Z - nb)) nb (by omega) (by rw [hl]; omega)
 rw [attS, hby]
 congr 1
 rw [show val (X.take Z) = val (X.getD 0 default :: (X.take Z).drop 1) by rw [← e], hm, List.singleton_append, val, UInt8.toNat_ofNat', ← hx]
 congr 1
 rw [Nat.mod_eq_of_lt (by omega)]
theorem rattempt_c {sd : Bs} {at_ a nb : Nat} {w : World} (hsd : sd.length ≤ 400000) (hat : at_ ≤ 4294967296) (ha : a ≤ 1000) (hnb : 1 ≤ nb) (hnb2 : nb ≤ 100000) :
  Cw 155 #[.string (S sd), .int .i64 (at_ : Int), .int .i64 (a : Int), .int .i64 (nb : Int)] w (.string (S (attS sd at_ a nb))) := by
 have hd1 := dec_len20 18 at_ (by omega); have hd2 := dec_len20 18 a (by omega)
 obtain ⟨Z, hZ⟩ : ∃ Z : Nat, Z = sizeB nb := ⟨_, rfl⟩
 have hZ1 : Z = (nb + 7) / 8 := hZ
 have hZ0 : 1 ≤ Z := by omega
 have hZl : Z ≤ 20000 := by omega
 refine En [] [(0, .string (S sd)), (1, .int .i64 (at_ : Int)), (2, .int .i64 (a : Int)), (3, .int .i64 (nb : Int))] Tryz.func155 rfl Tryz.ntmps155 rfl (Ac rfl (Ac rfl (Ac rfl (Ac rfl (An _))))) Fn ?_
 refine Cs (Ka rfl (Nt (Cs (Km rfl (Kq rfl (Rz rfl rfl rfl (by omega)) (Kq rfl (rd_quo64nl rfl rfl rfl (by omega)) (Ns 16 rfl (v' := .int .i64 ((Z : Nat) : Int)) (congrArg (Value.int .i64) (by omega)) (Ka rfl (Nt (Cs (Ka rfl (Nt (Cq (Cs (Ka rfl (Nt (Cb ?_)))))))))))))))))
 refine Lp (σ := Nat) [(0, _), (1, _), (2, _), (3, _), (9, _)] (fun gq => [(10, .string (S (blks sd at_ a gq))), (11, .int .i64 (gq : Int))]) (fun gq => gq ≤ (Z + 31) / 32) (fun gq => Z - 32 * gq) (0) (S5 rfl rfl rfl rfl rfl) (S2 rfl rfl) (by (try dsimp only); exact Nat.zero_le _) ?_
 rintro k hinv1; (try dsimp only at hinv1 ⊢)
 refine Cq (Cs (Km rfl (Kq rfl (rd_slen rfl rfl u9) (Km rfl (Kq rfl (rd_lss rfl rfl rfl) (Nt ?_))))))
 refine Cd rfl (fun hc20 => ?_) (fun hc20 => ?_)
 ·(try simp only [sB] at hc20)
  have hbl := blks_len sd at_ a k
  have hd3 := dec_len20 18 k (by omega)
  have hml := mac_len sd (nameB at_ a k)
  refine Ck (Xa (Cq (Cb (Cg (Km rfl (Km rfl (Km rfl ?_)))))))
  refine Ku rfl (Oc rfl rfl (Kv fun w hS => dec_c (n := at_) (by omega))) ?_
  refine Kq rfl (rd_cat rfl rfl rfl ?_) ?_
  ·((try simp only [List.length_append, List.length_cons, List.length_nil]); omega)
  refine Km rfl ?_
  refine Ku rfl (Oc rfl rfl (Kv fun w hS => dec_c (n := a) (by omega))) ?_
  refine Kq rfl (rd_cat rfl rfl rfl ?_) ?_
  ·((try simp only [List.length_append, List.length_cons, List.length_nil]); omega)
  refine Kq rfl (rd_cat rfl rfl rfl ?_) ?_
  ·((try simp only [List.length_append, List.length_cons, List.length_nil]); omega)
  refine Km rfl ?_
  refine Ku rfl (Oc rfl rfl (Kv fun w hS => dec_c (n := k) (by omega))) ?_
  refine Kq rfl (rd_cat rfl rfl rfl ?_) ?_
  ·((try simp only [List.length_append, List.length_cons, List.length_nil]); omega)
  refine Ku rfl (Oc rfl rfl (Kv fun w hS => rmac_c (key := sd) (s := nameB at_ a k) (by omega) (by simp only [nameB, List.length_append, List.length_cons, List.length_nil]; omega))) ?_
  refine Kq rfl (rd_cat rfl rfl rfl ?_) ?_
  ·((try simp only [List.length_append, List.length_cons, List.length_nil]); omega)
  refine Ka rfl (Nn (Xd (Xa (Cg (Km rfl (Kq rfl (Rz rfl rfl rfl (by omega)) (Ka rfl (Nn ?_))))))))
  have hbl' := blks_len sd at_ a k
  refine Ly (k + 1) (by (try dsimp only); omega) (S5 rfl rfl rfl rfl rfl) (by refine (Sc ?_ (Sc ?_ (S0 _))) <;> (rfl)) ?_ (by (exact fun _ h => h))
  (try dsimp only)
  omega
 ·(try simp only [sB] at hc20)
  refine Cx (Xc (Xc (Xe ?_)))
  have hkK : k = (Z + 31) / 32 := by have hbl := blks_len sd at_ a k; omega
  have hbl := blks_len sd at_ a k
  have hby : bytesB sd at_ a nb = (blks sd at_ a k).take Z := by rw [bytesB, ← hZ, hkK]
  obtain ⟨X, hX⟩ : ∃ X, X = blks sd at_ a k := ⟨_, rfl⟩
  rw [← hX] at hby hbl ⊢
  refine Xa (Cs (Km rfl ?_))
  refine Kq rfl (rd_sidxD rfl rfl rfl u9 ?_) ?_
  ·omega
  refine Kq rfl (rd_convN rfl rfl u5 u3 ?_) ?_
  ·(exact wrap8_64 _)
  have hc0 := (X.getD 0 default).toNat_lt
  refine Ns 39 rfl (v' := .int .i64 (((X.getD 0 default).toNat % 2 ^ (8 - 0) : Nat) : Int)) (congrArg (Value.int .i64) (by rw [Nat.mod_eq_of_lt (by omega)]; rfl)) ?_
  refine Ka rfl (Nt (Cq (Cs (Ka rfl (Ns 13 rfl (v' := .int .i64 (7 - ((0 : Nat) : Int))) (congrArg (Value.int .i64) (by omega)) (Nt (Cb ?_)))))))
  refine Lp (σ := Nat) [(3, _), (9, _), (10, _)] (fun gq => [(12, .int .i64 (((X.getD 0 default).toNat % 2 ^ (8 - gq) : Nat) : Int)), (13, .int .i64 (7 - (gq : Int)))]) (fun gq => gq ≤ 8 * Z - nb) (fun gq => 8 - gq) (0) (S3 rfl rfl rfl) (S2 rfl rfl) (by (try dsimp only); exact Nat.zero_le _) ?_
  rintro j hinv2; (try dsimp only at hinv2 ⊢)
  refine Cq (Cs (Km rfl (Km rfl (Kq rfl (rd_mul64ln rfl rfl rfl (by omega)) (Km rfl (Kq rfl (rd_sub64n rfl rfl rfl (by omega)) (Kq rfl (rd_sub64ln rfl rfl rfl (by omega)) (Kq rfl (rd_geq rfl rfl rfl) (Nt ?_)))))))))
  refine Cd rfl (fun hc46 => ?_) (fun hc46 => ?_)
  ·(try simp only [sB] at hc46)
   have hj7 : j ≤ 6 := by omega
   have hms := mod_step (X.getD 0 default).toNat (2 ^ (7 - j)) (Nat.pow_pos (by decide))
   rw [show 2 * 2 ^ (7 - j) = 2 ^ (8 - j) by rw [Nat.mul_comm, ← Nat.pow_succ]; congr 1; omega, show 2 ^ (7 - j) = 2 ^ (8 - (j + 1)) by congr 1; omega] at hms
   have hpw : 2 ^ (8 - (j + 1)) ≤ 2 ^ 8 := Nat.pow_le_pow_right (by decide) (by omega)
   have hcm : (X.getD 0 default).toNat % 2 ^ (8 - j) < 256 := Nat.lt_of_le_of_lt (Nat.mod_le _ _) hc0
   refine Ck (Xa (Cq (Cb (Cs (Km rfl (Km rfl (Ns 50 rfl (v' := .int .i64 (((7 - j : Nat) : Int))) (congrArg (Value.int .i64) (by omega)) ?_)))))))
   refine Kq rfl (rd_convN rfl rfl u3 u215 ?_) ?_
   ·(rw [IntKind.wrap_u64]; omega)
   refine Kq rfl (rd_shl rfl rfl rfl ?_) ?_
   ·omega
   refine Ns 52 rfl (v' := .int .i64 ((2 ^ (8 - (j + 1)) : Nat) : Int)) (congrArg (Value.int .i64) (by rw [shl1 _ (by omega)]; (try (congr 2; try omega)))) ?_
   refine Kq rfl (rd_geq rfl rfl rfl) (Nt ?_)
   refine Cd rfl (fun hc53 => ?_) (fun hc53 => ?_)
   ·(try simp only [sB] at hc53)
    refine Cg (Km rfl (Km rfl (Ns 55 rfl (v' := .int .i64 (((7 - j : Nat) : Int))) (congrArg (Value.int .i64) (by omega)) ?_)))
    refine Kq rfl (rd_convN rfl rfl u3 u215 ?_) ?_
    ·(rw [IntKind.wrap_u64]; omega)
    refine Kq rfl (rd_shl rfl rfl rfl ?_) ?_
    ·omega
    refine Ns 57 rfl (v' := .int .i64 ((2 ^ (8 - (j + 1)) : Nat) : Int)) (congrArg (Value.int .i64) (by rw [shl1 _ (by omega)]; (try (congr 2; try omega)))) ?_
    refine Kq rfl (rd_sub64n rfl rfl rfl (by omega)) ?_
    refine Ns 58 rfl (v' := .int .i64 (((X.getD 0 default).toNat % 2 ^ (8 - (j + 1)) : Nat) : Int)) (congrArg (Value.int .i64) (by rw [hms, if_pos (by omega)]; try omega)) ?_
    refine Ka rfl (Nn (Xd (Xa (Cg (Km rfl (Kq rfl (rd_sub64 rfl rfl rfl (by omega)) (Ns 48 rfl (v' := .int .i64 (7 - ((j + 1 : Nat) : Int))) (congrArg (Value.int .i64) (by omega)) (Ka rfl (Nn ?_)))))))))
    refine Ly (j + 1) (by (try dsimp only); omega) (S3 rfl rfl rfl) (by refine (Sc ?_ (Sc ?_ (S0 _))) <;> (rfl)) ?_ (by (exact fun _ h => h))
    (try dsimp only)
    omega
   ·(try simp only [sB] at hc53)
    refine WC.set 12 rfl (v' := .int .i64 (((X.getD 0 default).toNat % 2 ^ (8 - (j + 1)) : Nat) : Int)) (congrArg (Value.int .i64) (by rw [hms, if_neg (by omega)])) ?_
    refine Ck (Xd (Xa (Cg (Km rfl (Kq rfl (rd_sub64 rfl rfl rfl (by omega)) (Ns 48 rfl (v' := .int .i64 (7 - ((j + 1 : Nat) : Int))) (congrArg (Value.int .i64) (by omega)) (Ka rfl (Nn ?_))))))))
    refine Ly (j + 1) (by (try dsimp only); omega) (S3 rfl rfl rfl) (by refine (Sc ?_ (Sc ?_ (S0 _))) <;> (rfl)) ?_ (by (exact fun _ h => h))
    (try dsimp only)
    omega
  ·(try simp only [sB] at hc46)
   refine Cx (Xc (Xc (Xe ?_)))
   have hjd : j = 8 * Z - nb := by omega
   have hcm : (X.getD 0 default).toNat % 2 ^ (8 - j) < 256 := Nat.lt_of_le_of_lt (Nat.mod_le _ _) hc0
   obtain ⟨x, hx⟩ : ∃ x, x = (X.getD 0 default).toNat % 2 ^ (8 - j) := ⟨_, rfl⟩
   rw [← hx] at hcm ⊢
   have hae := att_end (sd := sd) (at_ := at_) (a := a) (nb := nb) (X := X) (x := x) hZ hZ0 hby (by omega) (by rw [hx, hjd]) (by omega) (by omega)
   refine Xa (Cq ?_)
   refine Cf [0, 1, 2, 3, 4, 5, 6, 7, 8, 9] [] [0, 0, 5, 4, 0, 0, 0, 0, 1, 0] (by kernel_rfl) (by kernel_rfl) rfl ?_
   refine Kj rfl (Rm rfl rfl) ?_
   refine Kj rfl (rd_convN rfl rfl u3 u5 ?_) ?_
   ·(rw [IntKind.wrap_u8]; omega)
   refine WJ.set 60 rfl (v' := B (UInt8.ofNat x)) (by exact congrArg (Value.int .u8) (by rw [UInt8.toNat_ofNat']; omega)) ?_
   refine WJ.fz rfl rfl rfl rfl rfl (fr_bs1 rfl rfl u128 (by kernel_rfl : _ = some (some (.int .u8 0), 1, 1)) rfl (by simp only [List.map]; rfl) rfl rfl ?_ (by decide)) ?_
   ·simp [Value.cells, B]
   intro b61
   refine WJ.zr rfl rfl rfl rfl rfl List.mem_cons_self (src_conv rfl rfl) (b2s (l := [UInt8.ofNat x]) rfl rfl .tc u128 u5 u9 (by rfl) (by rfl)) ?_
   refine Kj rfl (Rm rfl rfl) (Kj rfl (Rm rfl rfl) ?_)
   refine Kj rfl (rd_ss rfl rfl rfl rfl u9 ?_) ?_
   ·(try simp only [List.length_append, List.length_cons, List.length_nil]); omega
   refine WJ.set 65 rfl (v' := .string (S ((X.take Z).drop 1))) (congrArg (fun l => Value.string (S l)) (by rw [List.drop_take]; rfl)) ?_
   refine Kj rfl (rd_cat rfl rfl rfl ?_) ?_
   ·simp only [List.length_append, List.length_cons, List.length_nil, List.length_drop, List.length_take]; omega
   refine Jv rfl rfl rfl rfl rfl (fun ext => Oc rfl rfl (Kv fun w hS => canonical_c)) ?_
   refine Kj rfl (Ra rfl rfl) ?_
   refine WJ.nilz ?_
   refine Nt (Ce ?_)
   exact R1 rfl rfl (by rw [hae]; rfl)
abbrev Tab (w : World) : Prop := Lib.TabIs Tryz.prog w "internal/strconv.uint64pow10" .u64 Lib.pow10Tab
theorem tab_below {w w' : World} (h : Tab w) (hb : Below w.heap.size w w') : Tab w' := by
 have h' : w.var? Tryz.prog "internal/strconv.uint64pow10" = some (Lib.pow10Tab.map fun z => Value.int .u64 z).toArray := h
 show w'.var? Tryz.prog "internal/strconv.uint64pow10" = _
 unfold World.var? at h' ⊢
 cases hg : Tryz.prog.globalNamed "internal/strconv.uint64pow10" with
 | none => rw [hg] at h'; cases h'
 | some g =>
  rw [hg] at h'
  simp only [Option.bind_some] at h' ⊢
  have hlt : g < w.heap.size := by
   rcases Nat.lt_or_ge g w.heap.size with q | q
   ·exact q
   ·rw [Array.getElem?_eq_none q] at h'; cases h'
  rw [hb.block g hlt]; exact h'
theorem tab_st {ok : Nat → Prop} {w0 w : World} {own : List Ent} {fs : List Fact} (h : Tab w0) (hS : St ok w0 own fs w) : Tab w := tab_below h hS.below
theorem grow_below (w : World) (k : Nat) (os : Array Obj) : Below w.heap.size w (Sort.grow (w.drewN k) os) := by
 have hh : (Sort.grow (w.drewN k) os).heap = w.heap ++ os := rfl
 refine ⟨rfl, rfl, rfl, by rw [hh]; simp, fun q hq => ?_⟩
 rw [hh, Array.getElem?_append_left hq]
theorem itoa_c {n : Nat} {w : World} (hn : n ≤ 9223372036854775807) (hT : Tab w) :
  Cw 231 #[.int .i64 (n : Int)] w (.string (S (Lib.decDigits n))) :=
 (itoa_any n (by omega) (by omega) w hT).mono fun _ _ ⟨h1, k, os, h2⟩ => ⟨by rw [h1, Lib.itoa, if_neg (by omega), Int.toNat_natCast]; rfl, by rw [h2]; exact grow_below w k os⟩
def itB {σ : Type} (sd : Bs) (at_ a : Nat) (after : σ → Bs → σ) (stop : σ → Bs → Option Code) : Nat → Nat → σ → σ × Option Code
 | 0, _, s => (s, none)
 | f + 1, b, s => if (stop s (blkB sd at_ a b)).isSome then (after s (blkB sd at_ a b), stop s (blkB sd at_ a b)) else itB sd at_ a after stop f (b + 1) (after s (blkB sd at_ a b))
section
variable {σ : Type} {sd : Bs} {at_ a : Nat} {after : σ → Bs → σ} {stop : σ → Bs → Option Code} {K b : Nat} {s : σ}
theorem itB_stop (h : b < K) (hs : (stop s (blkB sd at_ a b)).isSome = true) : itB sd at_ a after stop (K - b) b s = (after s (blkB sd at_ a b), stop s (blkB sd at_ a b)) := by
 rw [show K - b = (K - b - 1) + 1 by omega, itB, if_pos hs]
theorem itB_next (h : b < K) (hs : stop s (blkB sd at_ a b) = none) : itB sd at_ a after stop (K - b) b s = itB sd at_ a after stop (K - (b + 1)) (b + 1) (after s (blkB sd at_ a b)) := by
 rw [show K - b = (K - (b + 1)) + 1 by omega, itB, if_neg (by simp [hs])]
theorem itB_lt (h : b ≤ K) {s0 : σ} (hi : itB sd at_ a after stop (K - b) b s = itB sd at_ a after stop K 0 s0) (hs : (itB sd at_ a after stop K 0 s0).2.isSome = true) : b < K := by
 rcases Nat.lt_or_ge b K with q | q
 ·exact q
 ·rw [← hi, show K - b = 0 by omega, itB] at hs; cases hs
end
theorem blocks_c {t : Tp} {x : Value} {a : Int} {own0 : List Ent} {ok : Nat → Prop} {w0 : World} {fs : List Fact} {w : World} (hS0 : St ok w0 (own0) (fs) w) :
  Calls Tryz.prog 196 #[.agg #[x, .string (S t.seed), .int .i64 t.at_], .int .i64 a] w fun e w' => ∃ g : Nat × Nat, e = .returned (.func (.func 230) #[] #[.pointer (some ⟨g.1, 0, none⟩), .pointer (some ⟨g.2, 0, none⟩)]) ∧ St ok w0 (⟨some g.2, [.int .i64 a], 3⟩ :: ⟨some g.1, [x, .string (S t.seed), .int .i64 t.at_], 33⟩ :: own0) fs w' := by
 refine enter (S := St ok w0 (own0) (fs)) (L := [(0, .agg #[x, .string (S t.seed), .int .i64 t.at_]), (1, .int .i64 a)]) Tryz.func196 rfl Tryz.ntmps196 rfl (Ac rfl (Ac rfl (An _))) hS0 ?_
 refine Cs ?_
 refine Kh rfl (Oy rfl rfl) ?_
 intro b2
 refine Kh rfl (Oy rfl rfl) ?_
 intro b3
 refine Ka rfl (Nt (Cs (Kq rfl (rd_mkf rfl rfl rfl) (Ka rfl (Nt (Ce ?_))))))
 exact Rn rfl (.tmp rfl .nil) fun w' hS => ⟨(b2, b3), rfl, hS⟩
theorem blk_i {σ γ : Type} {CO : σ → γ → List Ent} {pg : σ → γ → Prop} {inv : σ → Bs → Prop} {after : σ → Bs → σ} {stop : σ → Bs → Option Code} {l : Nat} {r : Loop} {ok : Nat → Prop} {w0 : World} {fs : List Fact} {w : World} {sd : Bs} {x : Value} {at_ a : Nat} {b1 b2 : Nat} {s0 : σ} {K : Nat} [∀ s g, HasE (CO s g) b1 [x, .string (S sd), .int .i64 (at_ : Int)] 33] [∀ s g, HasE (CO s g) b2 [.int .i64 (a : Int)] 3] {g0 : γ} (hY : YOk Tryz.prog l r ok w0 fs CO pg inv after stop (fun s : Bs => #[Value.string (S s)])) (hS0 : St ok w0 (CO s0 g0) (Fact.lp l (rcd r none) :: fs) w) (hg0 : pg s0 g0) (hsd : sd.length ≤ 400000) (hat : at_ ≤ 4294967296) (ha : a ≤ 1000) (hK : K ≤ 100000) (hinv : ∀ s x, x.length = 32 → inv s x) (hstop : (itB sd at_ a after stop K 0 s0).2.isSome = true) (hT : Tab w0) :
  Calls Tryz.prog 230 #[.func (.yield l) #[] #[], .pointer (some ⟨b1, 0, none⟩), .pointer (some ⟨b2, 0, none⟩)] w fun e w' => (∃ v, e = .returned v) ∧ ∃ g', ((itB sd at_ a after stop K 0 s0).2 = none → pg ((itB sd at_ a after stop K 0 s0).1) g') ∧ St ok w0 (CO ((itB sd at_ a after stop K 0 s0).1) g') (Fact.lp l (rcd r ((itB sd at_ a after stop K 0 s0).2)) :: fs) w' := by
 have hd1 := dec_len20 18 at_ (by omega); have hd2 := dec_len20 18 a (by omega)
 refine enter (S := St ok w0 (CO s0 g0) (Fact.lp l (rcd r none) :: fs)) (L := [(0, .func (.yield l) #[] #[]), (1, .pointer (some ⟨b1, 0, none⟩)), (2, .pointer (some ⟨b2, 0, none⟩))]) Tryz.func230 rfl Tryz.ntmps230 rfl (Ac rfl (Ac rfl (Ac rfl (An _)))) hS0 ?_
 refine Cs (Ka rfl (Nt (Cb ?_)))
 refine Lo (σ := Nat × σ × γ) [(0, _), (1, _), (2, _)] (fun gq => [(4, .int .i64 (gq.1 : Int))]) (fun gq => gq.1 ≤ K ∧ pg gq.2.1 gq.2.2 ∧ itB sd at_ a after stop (K - gq.1) gq.1 gq.2.1 = itB sd at_ a after stop K 0 s0) (fun gq => K - gq.1) (fun gq => CO gq.2.1 gq.2.2) (fun gq => Fact.lp l (rcd r none) :: fs) (0, s0, g0) (S3 rfl rfl rfl) (S1 rfl) (by (try dsimp only); exact ⟨Nat.zero_le _, hg0, rfl⟩) (by (exact fun _ h => h)) ?_
 rintro ⟨b, s, g⟩ hinv1; (try dsimp only at hinv1 ⊢)
 obtain ⟨hp, hgs, hi⟩ := hinv1
 have hlt := itB_lt hp hi hstop
 have hd3 := dec_len20 18 b (by omega)
 refine Cq (Cb (Cq ?_))
 refine Cf [0, 1, 2, 4, 5, 8, 9, 3, 6, 7, 10, 11] [] [0, 0, 1, 0, 0, 1, 0, 0, 0, 1, 0, 0] (by kernel_rfl) (by kernel_rfl) rfl ?_
 (refine Kj rfl (rd_fa rfl rfl u33 rfl (by kernel_rfl) (by (try simp only [sN, Int.reduceToNat, Nat.reduceAdd, Nat.reduceMul, Nat.reduceSub]); rfl)) ?_)
 refine Kj rfl (Ld rfl rfl .tc u3) ?_
 refine Jv rfl rfl rfl rfl rfl (fun ext => Oc rfl rfl (Kv fun w hS => itoa_c (by omega) (by (exact tab_st hT hS)))) ?_
 refine Kj rfl (Ld rfl rfl .tc u3) ?_
 refine Jv rfl rfl rfl rfl rfl (fun ext => Oc rfl rfl (Kv fun w hS => itoa_c (by omega) (by (exact tab_st hT hS)))) ?_
 refine Kj rfl (Rm rfl rfl) ?_
 refine Jv rfl rfl rfl rfl rfl (fun ext => Oc rfl rfl (Kv fun w hS => itoa_c (by omega) (by (exact tab_st hT hS)))) ?_
 refine Kj rfl (rd_cat rfl rfl rfl ?_) ?_
 ·((try simp only [List.length_append, List.length_cons, List.length_nil]); omega)
 refine Kj rfl (rd_cat rfl rfl rfl ?_) ?_
 ·((try simp only [List.length_append, List.length_cons, List.length_nil]); omega)
 refine Kj rfl (rd_cat rfl rfl rfl ?_) ?_
 ·((try simp only [List.length_append, List.length_cons, List.length_nil]); omega)
 refine Kj rfl (rd_cat rfl rfl rfl ?_) ?_
 ·((try simp only [List.length_append, List.length_cons, List.length_nil]); omega)
 refine Kj rfl (Ra rfl rfl) ?_
 refine WJ.nil ?_
 refine Nt (Cs (Km rfl ?_))
 (refine Kq rfl (rd_fa rfl rfl u33 rfl (by kernel_rfl) (by (try simp only [sN, Int.reduceToNat, Nat.reduceAdd, Nat.reduceMul, Nat.reduceSub]); rfl)) ?_)
 refine Kq rfl (Ld rfl rfl .tc u9) ?_
 refine Km rfl ?_
 refine Ku rfl (Oc rfl rfl (Kv fun w hS => mac_c (key := sd) (s := nameB at_ a b) (by omega) (by simp only [nameB, List.length_append, List.length_cons, List.length_nil]; omega))) ?_
 refine Kh rfl (og_yield hY [] (blkB sd at_ a b) rfl rfl rfl rfl (hinv _ _ (mac_len _ _)) (hgs)) ?_
 intro gy; refine WL.pu ?_; intro hgy; (refine WL.app0 ?_)
 refine Kq rfl (Rt rfl rfl) (Nt ?_)
 refine Cd rfl (fun hc25 => ?_) (fun hc25 => ?_)
 ·(try simp only [sB] at hc25)
  refine Ce (Xf (Xb (Xb (Xf ?_))))
  exact Rn rfl .nil fun w' hS => ⟨⟨_, rfl⟩, gy, by rw [← hi, itB_stop hlt (by simpa using hc25)]; exact hgy, by rw [← hi, itB_stop hlt (by simpa using hc25)]; dsimp only; exact st_sub _ hS⟩
 ·(try simp only [sB] at hc25)
  have hst : stop s (blkB sd at_ a b) = none := by simpa using hc25
  rw [hst]
  refine Ck (Xd (Xa (Cg (Km rfl (Kq rfl (Rz rfl rfl rfl (by omega)) (Ka rfl (Nn ?_)))))))
  refine Lx ((b + 1, after s (blkB sd at_ a b), gy)) (by (try dsimp only); omega) (S3 rfl rfl rfl) (by refine (Sc ?_ (S0 _)) <;> (rfl)) ?_ (by (exact fun _ h => h))
  (try dsimp only)
  exact ⟨by omega, hgy hst, (itB_next hlt hst).symm.trans hi⟩
theorem strCells_S (l : List UInt8) : Lib.strCells (S l) = l.map B := by simp [Lib.strCells, S, B]
section
variable {ds : List Deferred} {P : Program} {o : Oper} {n : Nat} {L : Slots} {ok : Nat → Prop} {w0 : World} {own : List Ent} {C : Ent → List Ent} {fs : List Fact} {x y : Operand} {t u e : TypeId} {xs : List Value}
theorem run_apps {w : World} {own : List Ent} {kk : Nat} {ob : Option Nat} {len cap : Nat} {sp : List Value} {l : List UInt8} {ty : TypeId} (hS : St ok w0 own fs w) (hk : own[kk]? = some ⟨ob, xs ++ sp, e⟩)
  (hu : P.underlying t = some (.slice e)) (hv : P.underlying u = some .string) (hi : (P.info? e).map (fun i => (i.zero, i.size, i.bytes)) = some (some (.int .u8 0), 1, 1))
  (hxl : xs.length = len) (hcap : cap = len + sp.length) (hb : len + l.length ≤ 140737488355328) (hzz : ob = none ∨ 0 < cap) :
  ∃ (g : Gr) (w' : World), (Builtin.append_ #[t, u] ty #[.slice (ob.map fun b => ⟨b, 0, none⟩) len cap, .string (S l)]).run P w = .ok (.slice (g.ob.map fun b => ⟨b, 0, none⟩) (len + l.length) g.cap) w' ∧ (g.cap = len + l.length + g.sp.length ∧ (g.ob = none ∨ 0 < g.cap)) ∧ St ok w0 (own.set kk ⟨g.ob, (xs ++ l.map B) ++ g.sp, e⟩) fs w' := by
 obtain ⟨i', hi', hz, hs, hbb⟩ := info_parts hi
 have hsz : (S l).size = l.length := S_size l
 have htake : (xs ++ sp).take len = xs := by rw [← hxl]; simp
 have zlen : ∀ q, (Builtin.zeroCells (Value.int .u8 0).cells q).toList = List.replicate q (.int .u8 0) := fun q => zero_one _ q
 have hsame : own.set kk ⟨ob, xs ++ sp, e⟩ = own := by
  apply List.ext_getElem?; intro q
  by_cases hq : kk = q
  ·subst hq; rw [List.getElem?_set_self (List.getElem?_eq_some_iff.1 hk).1, hk]
  ·rw [List.getElem?_set_ne hq]
 cases ob with
 | none =>
  have hcs : xs ++ sp = [] := hS.own_ _ (List.mem_of_getElem? hk)
  obtain ⟨rfl, rfl⟩ : xs = [] ∧ sp = [] := by simpa using hcs
  obtain rfl : len = 0 := by simpa using hxl.symm
  obtain rfl : cap = 0 := by simpa using hcap
  by_cases h0 : l.length = 0
  ·have hl : l = [] := List.eq_nil_of_length_eq_zero h0
   subst hl
   refine ⟨⟨none, 0, []⟩, w, ?_, ⟨rfl, .inl rfl⟩, by show St ok w0 (own.set kk ⟨none, [] ++ [], e⟩) fs w; rw [hsame]; exact hS⟩
   simp [Builtin.append_, run_underlying hu, run_underlying hv, sizeOf, typeInfo, hi', hs, Builtin.lenOf, S, Builtin.firstCells, ByteArray.size]
  ·have hrun := run_append_nil_string (P := P) w t u ty e i' (.int .u8 0) hu hv hi' hz (S l) (by omega) (by omega) (by rw [hbb, hsz]; omega)
   rw [hsz] at hrun
   refine ⟨⟨some w.heap.size, grownCap w l.length 0 e, List.replicate (grownCap w l.length 0 e - l.length) (.int .u8 0)⟩, _, by simpa using hrun, ?_, ?_⟩
   ·have := grownCap_ge w l.length 0 e; exact ⟨by simp; omega, .inr (by show 0 < grownCap w l.length 0 e; omega)⟩
   ·have := (hS.draw.alloc (l.map B ++ List.replicate (grownCap w l.length 0 e - l.length) (.int .u8 0)) e).replace kk
    have e1 : ((S l).data.map (fun b => Value.int .u8 b.toNat) ++ Builtin.zeroCells (Value.int .u8 0).cells (grownCap w l.length 0 e - l.length)) = (l.map B ++ List.replicate (grownCap w l.length 0 e - l.length) (Value.int .u8 0)).toArray := by
     apply Array.ext'; simp [zlen, S, B]
    simp only [List.nil_append]
    rw [e1]; exact this
 | some b' =>
  have hbk := hS.block hk
  by_cases hroom : len + l.length ≤ cap
  ·have hrun := Lib.run_append_room_string (P := P) w t u ty e i' hu hv hi' hs b' len cap (xs ++ sp).toArray hbk (S l) (by omega) (by simp [hsz]; omega)
   rw [hsz, strCells_S] at hrun
   refine ⟨⟨some b', cap, (xs ++ sp).drop (len + l.length)⟩, _, hrun, ?_, ?_⟩
   ·exact ⟨by simp; omega, .inr (hzz.resolve_left (by simp))⟩
   ·have := hS.setRow hk (xs ++ l.map B ++ (xs ++ sp).drop (len + l.length))
    simp only [htake]; exact this
  ·have hrun := Lib.run_append_grow_string (P := P) w t u ty e i' (.int .u8 0) hu hv hi' hz ⟨b', 0, none⟩ len cap xs (by rw [hs]; omega) (fun q v hq => by
     rw [Addr.add_lit, Nat.zero_add, block_cell hbk]
     rw [List.getElem?_append_left (List.getElem?_eq_some_iff.1 hq).1]; exact hq) (S l) (by omega) (by omega) (by rw [hbb, hsz]; exact growslice_fits (by omega) (by omega))
   rw [hsz, strCells_S] at hrun
   refine ⟨⟨some w.heap.size, grownCap w (len + l.length) cap e, List.replicate (grownCap w (len + l.length) cap e - (len + l.length)) (.int .u8 0)⟩, _, hrun, ?_, ?_⟩
   ·have := grownCap_ge w (len + l.length) cap e; exact ⟨by simp; omega, .inr (by show 0 < grownCap w (len + l.length) cap e; omega)⟩
   ·have := (hS.draw.alloc (xs ++ l.map B ++ List.replicate (grownCap w (len + l.length) cap e - (len + l.length)) (.int .u8 0)) e).replace kk
    have e1 : (xs.toArray ++ (l.map B).toArray ++ Builtin.zeroCells (Value.int .u8 0).cells (grownCap w (len + l.length) cap e - (len + l.length))) = (xs ++ l.map B ++ List.replicate (grownCap w (len + l.length) cap e - (len + l.length)) (Value.int .u8 0)).toArray := by
     apply Array.ext'; simp [zlen]
    rw [e1]; exact this
theorem apps {len cap : Nat} {ob : Option Nat} {sp : List Value} {l : List UInt8} (hop : o.op = .call { callee := .builtin .append, args := #[x, y], argTypes := #[t, u] }) (hu : P.underlying t = some (.slice e)) (hv : P.underlying u = some .string) (hi : (P.info? e).map (fun i => (i.zero, i.size, i.bytes)) = some (some (.int .u8 0), 1, 1))
  (hk : Ctx own ⟨ob, xs ++ sp, e⟩ C) (hx : oper L x = some (.slice (ob.map fun b => ⟨b, 0, none⟩) len cap)) (hy : oper L y = some (.string (S l)))
  (hb : xs.length = len ∧ cap = len + sp.length ∧ len + l.length ≤ 140737488355328 ∧ (ob = none ∨ 0 < cap)) :
  Og ds P o n L (St ok w0 own fs) (fun g : Gr => .slice (g.ob.map fun b => ⟨b, 0, none⟩) (len + l.length) g.cap) (fun g w => (g.cap = len + l.length + g.sp.length ∧ (g.ob = none ∨ 0 < g.cap)) ∧ St ok w0 (C ⟨g.ob, (xs ++ l.map B) ++ g.sp, e⟩) fs w) :=
 og_run fun a hF w hS => by
  obtain ⟨kk, hkk, hC⟩ := hk.get
  obtain ⟨g, w', hrun, hp, hS'⟩ := run_apps (P := P) (ty := o.type) hS hkk hu hv hi hb.1 hb.2.1 hb.2.2.1 hb.2.2.2
  refine ⟨g, w', .inl ?_, hp, by rw [hC]; exact hS'⟩
  simp [execOp, hop, resolve, invoke, builtin, hF.eval hx, hF.eval hy, hrun]
end
section
variable {ds : List Deferred} {ρ : Option Nat} {P : Program} {Q : Exit → Act → World → Prop} {n : Nat} {L : Slots} {Z : World → Prop} {p : Prop} {ops rest : List Oper}
theorem WL.know (h : ∀ w, Z w → p) (k : p → WL ds P ops Q n rest L Z) : WL ds P ops Q n rest L Z := fun a w hF hS => k (h w hS) a w hF hS
end
end Go.Proofs.YtmkghgoibnncbaaGreatDoor
