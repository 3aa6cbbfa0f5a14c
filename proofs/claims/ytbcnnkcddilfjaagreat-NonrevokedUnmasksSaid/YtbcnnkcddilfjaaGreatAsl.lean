/-
  An append to a slice that is somebody else's, and full: a new block.
-/
import Derived.Test.YtbcnnkcddilfjaaGreatWrd
namespace Go.Proofs.YtbcnnkcddilfjaaGreat
open Go.RowKit
section
variable {ds : List Deferred} {ρ : Option Nat} {P : Program} {o : Oper} {n : Nat} {L : Slots} {ok : Nat → Prop} {w0 : World} {own : List Ent} {fs : List Fact} {x y : Operand} {t e : TypeId} {sz : Nat} {xs : List Value}
theorem fact_cell {w : World} {ad : Option Addr} {xs : List Value} (h : (Fact.sl ad xs).holds (fun _ => True) w) (hx : 0 < xs.length) : ∃ b, ad = some b ∧ ∀ j v, xs[j]? = some v → w.cell? (b.add j) = some v := by
  rcases h with h0 | ⟨b, off, cells, T', fz, e1, _, e3, e4⟩
  · subst h0; simp at hx
  · exact ⟨⟨b, off, none⟩, e1, fun j v hq => by
      have hlt : j < xs.length := (List.getElem?_eq_some_iff.1 hq).1
      rw [Addr.add_lit]; simp [World.cell?, e3, e4 j hlt, hq]⟩
theorem appsl {len m c : Nat} {adx ad : Option Addr} {news : List Value} {zv : Value} (hop : o.op = .call { callee := .builtin .append, args := #[x, y], argTypes := #[t, t] }) (hu : P.underlying t = some (.slice e)) (hi : (P.info? e).map (fun i => (i.zero, i.size, i.bytes)) = some (some zv, 1, sz)) (h1 : zv.cells = #[zv])
    (hx : oper L x = some (.slice adx len len)) (hy : oper L y = some (.slice ad m c)) [hf : HasF fs adx xs] (hsrc : ∀ w, St ok w0 own fs w → (Fact.sl ad news).holds (fun _ => True) w) (hm : news.length = m)
    (hb : xs.length = len ∧ 0 < len ∧ 0 < m ∧ len + m ≤ 9223372036854775807 ∧ (len + m) * sz ≤ 140737488355328) :
    Og ds P o n L (St ok w0 own fs) (fun g : Gr => .slice (g.ob.map fun b => ⟨b, 0, none⟩) (len + m) g.cap) (fun g w => (g.cap = len + m + g.sp.length ∧ g.ob.isSome = true) ∧ St ok w0 (⟨g.ob, (xs ++ news) ++ g.sp, e⟩ :: own) fs w) :=
  og_run fun a hF w hS => by
    obtain ⟨hxl, hl0, hm0, h63, hbb⟩ := hb
    obtain ⟨i', hi', hz, hs, hbb'⟩ := info_parts hi
    obtain ⟨bx, rfl, hcx⟩ := fact_cell (hS.sl (a := adx)) (by omega)
    obtain ⟨by', rfl, hcy⟩ := fact_cell (hsrc w hS) (by omega)
    have zlen : ∀ q, (Builtin.zeroCells zv.cells q).toList = List.replicate q zv := fun q => by rw [h1]; exact zero_one zv q
    have hrun := run_append_grow (P := P) w t o.type e i' zv hu hi' hz bx len len xs (by rw [hs]; omega) hcx by' m c news (by rw [hs]; omega) hcy (by omega) (by omega) (by rw [hbb']; exact growslice_fits (by omega) hbb)
    have hge := grownCap_ge w (len + m) len e
    refine ⟨⟨some w.heap.size, grownCap w (len + m) len e, List.replicate (grownCap w (len + m) len e - (len + m)) zv⟩, (w.drew.alloc (.cells (xs.toArray ++ news.toArray ++ Builtin.zeroCells zv.cells (grownCap w (len + m) len e - (len + m))) e)), .inl ?_, ?_, ?_⟩
    · simp [execOp, hop, resolve, invoke, builtin, hF.eval hx, hF.eval hy, hrun]
    · exact ⟨by simp; omega, rfl⟩
    · have := hS.draw.alloc ((xs ++ news) ++ List.replicate (grownCap w (len + m) len e - (len + m)) zv) e
      have e1 : (xs.toArray ++ news.toArray ++ Builtin.zeroCells zv.cells (grownCap w (len + m) len e - (len + m))) = ((xs ++ news) ++ List.replicate (grownCap w (len + m) len e - (len + m)) zv).toArray := by
        apply Array.ext'; simp [zlen]
      rw [e1]; exact this
end
end Go.Proofs.YtbcnnkcddilfjaaGreat
