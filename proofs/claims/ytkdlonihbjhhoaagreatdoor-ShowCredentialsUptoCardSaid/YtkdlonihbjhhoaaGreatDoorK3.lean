/-
  Parts of the walk: LayT.
-/
import Derived.Test.YtkdlonihbjhhoaaGreatDoorK2
import Derived.Shelf.Spec.TrailingZeros
namespace Go.Proofs.YtkdlonihbjhhoaaGreatDoor
set_option linter.unusedSimpArgs false
set_option linter.unusedVariables false
set_option maxRecDepth 20000
set_option maxHeartbeats 600000
def renTz : Go.Shelf.Ren := ⟨fun k => bif Nat.beq k 29 then 241 else 0, fun k => bif Nat.beq k 0 then 0 else bif Nat.beq k 3 then 3 else bif Nat.beq k 4 then 4 else bif Nat.beq k 5 then 5 else bif Nat.beq k 22 then 76 else bif Nat.beq k 25 then 171 else bif Nat.beq k 27 then 249 else bif Nat.beq k 53 then 292 else bif Nat.beq k 54 then 268 else 0, fun k => bif Nat.beq k 0 then 5 else bif Nat.beq k 1 then 3 else 0⟩
theorem BP : Go.Proofs.Lays7.n29 Tryz.prog renTz where
  mixed := by kernel_rfl
  f29 := by kernel_rfl
  t0 := by kernel_rfl
  a0 := fun w => by kernel_rfl
  z0 := fun w => by kernel_rfl
  v0 := fun w => by kernel_rfl
  i0 := by kernel_rfl
  t3 := by kernel_rfl
  a3 := fun w => by kernel_rfl
  z3 := fun w => by kernel_rfl
  v3 := fun w => by kernel_rfl
  i3 := by kernel_rfl
  t4 := by kernel_rfl
  a4 := fun w => by kernel_rfl
  z4 := fun w => by kernel_rfl
  v4 := fun w => by kernel_rfl
  i4 := by kernel_rfl
  t5 := by kernel_rfl
  a5 := fun w => by kernel_rfl
  z5 := fun w => by kernel_rfl
  v5 := fun w => by kernel_rfl
  i5 := by kernel_rfl
  t22 := by kernel_rfl
  a22 := fun w => by kernel_rfl
  z22 := fun w => by kernel_rfl
  v22 := fun w => by kernel_rfl
  i22 := by kernel_rfl
  t25 := by kernel_rfl
  a25 := fun w => by kernel_rfl
  z25 := fun w => by kernel_rfl
  v25 := fun w => by kernel_rfl
  i25 := by kernel_rfl
  t54 := by kernel_rfl
  a54 := fun w => by kernel_rfl
  z54 := fun w => by kernel_rfl
  g1 := by kernel_rfl
theorem yZ (x : Nat) (hx : x < 18446744073709551616) (w : World) (hT : x ≠ 0 → Go.Proofs.TabAt (renTz.g 1) Lib.deBruijn64tab w) :
    Calls Tryz.prog 241 #[.int .u64 x] w fun e w' => e = .returned (.int .i64 (Lib.ctz 64 x)) ∧ w' = w :=
  Go.Proofs.Any7.bits_TrailingZeros64 BP x hx w hT
section
variable {P Q Q1 Q2 Q3:Prop}(k:Q)
include k
theorem ne (h:Q→P:=by intro zz;exact Ka I (Nt (Ce (Xb zz)))):P:=h k
theorem to (h:Q→P:=by intro zz;exact Ka I (Nt (Ce zz))):P:=h k
theorem AI (h:Q→P:=by intro zz;exact WM.g I I I (Oc I I (Kv fun w _ => cD _ _ (by decide) (by decide) w)) (fun _ _ h => by first | exact h | exact ⟨_, h⟩ | exact ⟨_, h.2⟩ | exact h.2 | exact h.sub (by repeat (first | exact Az _ | apply List.Sublist.cons)) (fun _ h => by simp [*]) | exact h.2.sub (by repeat (first | exact Az _ | apply List.Sublist.cons)) (fun _ h => by simp [*])) zz):P:=h k
theorem AS (h:Q→P:=by intro zz;exact Cx (Xc (Xc (Xe zz)))):P:=h k
theorem AT (h:Q→P:=by intro zz;exact Kq I (Kb [[.bool false], [.string (S [])]] I I) zz):P:=h k
theorem By (h:Q→P:=by intro zz;exact Kh I (Oz [.bool false, .string (S [])] I) zz):P:=h k
theorem BY (h:Q→P:=by intro zz;exact Km I (Ye I (Ye I (Ka I (Ka I (Nt zz)))))):P:=h k
theorem DX (h:Q→P:=by intro zz;exact Cs (Kh I (Oy I I) zz)):P:=h k
theorem DY (h:Q→P:=by intro zz;exact Xf (Xb (Xb (Xf (Xb zz))))):P:=h k
theorem DZ (h:Q→P:=by intro zz;exact Nu I I (Sa I I I .tc) zz):P:=h k
theorem Ei (h:Q→P:=by intro zz;exact Kj I (Rm I I) (Kj I (Rm I I) zz)):P:=h k
theorem Ej (h:Q→P:=by intro zz;exact Km I (Nt (Cb (Lp (σ := Nat) [(0, _), (1, _), (7, _)] (fun gq => [(8, .int .i64 (gq : Int))]) (fun gq => gq ≤ l.length ∧ ∀ x ∈ l.take gq, p x = false) (fun gq => l.length - gq) (0) (S3 I I I) (S1 I) (by (try dsimp only); exact ⟨Ai _, by simp⟩) zz)))):P:=h k
theorem Ek (k1:Q1)(h:Q→Q1→P:=by intro zz zy;exact Cs (Yl I (Nt (Cq (Ci I zz zy))))):P:=h k k1
theorem El (h:Q→P:=by intro zz;exact Kq I (Ia I I I u54 (by kernel_rfl : _ = some 2) (by omega) (by (rw [ag _ _ 2 (fun _ => rfl)]; omega))) zz):P:=h k
theorem Em (h:Q→P:=by intro zz;exact Kq I (Kb [[.slice none 0 0], [.slice none 0 0], [.slice none 0 0]] I I) zz):P:=h k
theorem Eo (h:Q→P:=by intro zz;exact Ka I (Nt (Cq (Cs (Km I zz))))):P:=h k
theorem Ep (h:Q→P:=by intro zz;exact Kq I (Ia I I I u39 (by kernel_rfl : _ = some 2) (by omega) (by (rw [ag _ _ 2 (fun _ => rfl)]; omega))) zz):P:=h k
theorem Eq (h:Q→P:=by intro zz;exact Kq I (Ia I I I u56 (by kernel_rfl : _ = some 3) (by omega) (by (rw [ag _ _ 3 (fun _ => rfl)]; omega))) zz):P:=h k
theorem Er (h:Q→P:=by intro zz;exact Jf I I I I I (bU I (v := (.agg #[.bool false, .string (S [])])) (cs := [.bool false, .string (S [])]) (by kernel_rfl) I) zz):P:=h k
theorem Es (k1:Q1)(h:Q→Q1→P:=by intro zz zy;exact Yl I (Nt (Ci I zz zy))):P:=h k k1
theorem Et (h:Q→P:=by intro zz;exact Ka I (Nt (Cs (Km I zz)))):P:=h k
theorem Eu (h:Q→P:=by intro zz;exact Kj I (Ia I I I u39 (by kernel_rfl : _ = some 2) (by omega) (by (rw [ag _ _ 2 (fun _ => rfl)]; omega))) zz):P:=h k
theorem Ev (h:Q→P:=by intro zz;exact Kq I (bO _ I I u95 I (by kernel_rfl : _ = some 3) (fun _ => rfl) (by decide) I (by assumption)) zz):P:=h k
theorem Ew (h:Q→P:=by intro zz;exact Kh I (Oz [.string (S []), .string (S []), .string (S []), .string (S []), .string (S []), .string (S []), .string (S []), .string (S []), .string (S []), .string (S []), .string (S []), .string (S []), .string (S []), .string (S []), .string (S []), .string (S []), .string (S []), .string (S []), .string (S []), .string (S []), .string (S []), .string (S []), .slice none 0 0, .string (S []), .string (S [])] I) zz):P:=h k
theorem Ex (k1:Q1)(h:Q→Q1→P:=by intro zz zy;exact Yt I (Nt (Ci I zz zy))):P:=h k k1
theorem Ey (h:Q→P:=by intro zz;exact Kq I (Ib I I I u31 (by omega) (by (rw [Af]; omega))) zz):P:=h k
theorem Ez (h:Q→P:=by intro zz;exact Ck (Xa (Cq (Cb (Cs zz))))):P:=h k
theorem EA (h:Q→P:=by intro zz;exact Kq I (bO _ I I u26 I (by kernel_rfl : _ = some 2) (fun _ => rfl) (by decide) I (by assumption)) zz):P:=h k
theorem EB (h:Q→P:=by intro zz;exact Kj I (Ld I I .tc u22) zz):P:=h k
theorem EC (h:Q→P:=by intro zz;exact Kq I (Fa (q := 1) I I u33 I I) (Kq I (ldp I I .tc u26 I (by kernel_rfl : _ = some 2) (by rfl) (by rfl)) zz)):P:=h k
theorem ED (h:Q→P:=by intro zz;exact Kf 1 I u37 I I I .tc u22 zz):P:=h k
theorem EE (h:Q→P:=by intro zz;exact Kj I (Ib I I I u31 (by omega) (by (rw [Af]; omega))) zz):P:=h k
theorem EF (k1:Q1)(h:Q→Q1→P:=by intro zz zy;exact Yj I (Nt (Ci I zz zy))):P:=h k k1
theorem EG (h:Q→P:=by intro zz;exact Kq I (Ja I I I aH (by kernel_rfl : _ = some 1) (by omega)) zz):P:=h k
theorem EH (h:Q→P:=by intro zz;exact Kq I (Ld I I .tc u22) zz):P:=h k
theorem EI (h:Q→P:=by intro zz;exact WM.r I I I (ld I I (by first | exact .here | exact .t1 | exact .t2 | exact .t3 | exact .t4 | exact .t5 | exact .t6 | exact .t7) dT I (by exact iY _ u32 _ _ _ (cG (cF j (cg bs)) _ 0 (by omega)))) zz):P:=h k
theorem EJ (h:Q→P:=by intro zz;exact Kh I (Oz [.string (S []), .string (S []), .string (S []), .string (S []), .string (S []), .string (S []), .string (S []), .string (S []), .string (S []), .string (S []), .string (S []), .string (S []), .string (S []), .string (S []), .string (S []), .string (S []), .string (S [])] I) zz):P:=h k
theorem EK (h:Q→P:=by intro zz;exact Km I (Kh I (vS I I I .tc aH (by kernel_rfl) (m := (dY key).length) (by omega) (by simp; omega) (ys := K.map B) (by rw [← hK, Dr, List.nil_append, A0, Ah, List.drop_replicate, Ca, D9]; rfl)) zz)):P:=h k
theorem EL (h:Q→P:=by intro zz;exact Kj I (Ja I I I u38 (by kernel_rfl : _ = some 1) (by omega)) zz):P:=h k
theorem EM (h:Q→P:=by intro zz;exact Kq I (Ja I I I u38 (by kernel_rfl : _ = some 1) (by omega)) zz):P:=h k
theorem EN (h:Q→P:=by intro zz;exact Kj I (Re I I I) (Kj I (Re I I I) (Kj I (Ra I I) (Kj I (Ra I I) zz)))):P:=h k
theorem EO (h:Q→P:=by intro zz;exact Kq I (aw I I I (by omega)) (Km I (Kq I (aV I I I (by omega)) zz))):P:=h k
theorem EP (h:Q→P:=by intro zz;exact Ka I (Nt (Cq (Cs (Ka I (Nt (Cb zz))))))):P:=h k
theorem EQ (h:Q→P:=by intro zz;exact Kh I (Oz [.int .i64 0, .string (S []), .slice none 0 0] I) zz):P:=h k
theorem ER (h:Q→P:=by intro zz;exact Kq I (Kb [[.slice none 0 0], [.string (S [])], [.int .i64 0]] I I) zz):P:=h k
theorem ES (h:Q→P:=by intro zz;exact Js I I I I (Js I I I I (Js I I I I zz))):P:=h k
theorem ET (k1:Q1)(h:Q→Q1→P:=by intro zz zy;exact Ku I (aQ I I I hgo (jG _ _) (Kv fun w hS => hfn (l.getD i default) (ak _ _ hil) w hS.below)) (Nt (Ci I zz zy))):P:=h k k1
theorem EU (h:Q→P:=by intro zz;exact Kh I (Oa I (v := (.agg (List.replicate 64 (.int .u32 0)).toArray)) (cs := (List.replicate 64 (.int .u32 0))) (by kernel_rfl) I) zz):P:=h k
theorem EV (h:Q→P:=by intro zz;exact Kf 0 I u26 I I I .tc u22 zz):P:=h k
theorem EW (h:Q→P:=by intro zz;exact Kf 1 I u26 I I I .tc u22 zz):P:=h k
theorem EX (h:Q→P:=by intro zz;exact Kf 0 I u37 I I I .tc u4 zz):P:=h k
theorem EY (h:Q→P:=by intro zz;exact Kq I (bO _ I I u37 I (by kernel_rfl : _ = some 2) (fun _ => rfl) (by decide) I (by assumption)) zz):P:=h k
theorem EZ (h:Q→P:=by intro zz;exact Kq I (ldm I I u22 I (by assumption)) zz):P:=h k
theorem E0 (h:Q→P:=by intro zz;exact Kj I (Rm I I) zz):P:=h k
theorem E1 (h:Q→P:=by intro zz;exact WM.r I I I (Rm I I) zz):P:=h k
theorem E2 (h:Q→P:=by intro zz;exact Kj I (ldm I I u22 I (by assumption)) zz):P:=h k
theorem E3 (h:Q→P:=by intro zz;exact Cs (Km I (Km I zz))):P:=h k
theorem E4 (h:Q→P:=by intro zz;exact Kq I (Ia I I I u93 (by kernel_rfl : _ = some 4) (by omega) (by (rw [ag _ _ 4 (fun _ => rfl)]; omega))) zz):P:=h k
theorem E5 (h:Q→P:=by intro zz;exact Kq I (cO (sz := 2) _ 1 I I u22 I (fun _ => rfl) I (by assumption) (by decide) I) zz):P:=h k
theorem E6 (h:Q→P:=by intro zz;exact Kj I (bO _ I I u37 I (by kernel_rfl : _ = some 2) (fun _ => rfl) (by decide) I (by assumption)) zz):P:=h k
theorem E7 (h:Q→P:=by intro zz;exact Kh I (Oa I (v := (.agg (List.replicate 64 (.int .u8 0)).toArray)) (cs := (List.replicate 64 (.int .u8 0))) (by kernel_rfl) I) zz):P:=h k
theorem E8 (k1:Q1)(h:Q→Q1→P:=by intro zz zy;exact Yt I (Yq I (Nt (Ci I zz zy)))):P:=h k k1
theorem E9 (h:Q→P:=by intro zz;exact Kh I (Oz [.slice none 0 0, .slice none 0 0, .slice none 0 0] I) zz):P:=h k
theorem Fb (h:Q→P:=by intro zz;exact Kh I (Oz [.int .u32 0, .int .u32 0, .int .u32 0, .int .u32 0, .int .u32 0, .int .u32 0, .int .u32 0, .int .u32 0] I) zz):P:=h k
theorem Fd (h:Q→P:=by intro zz;exact Kj I (Ib I I I u38 (by omega) (by (rw [Af]; omega))) zz):P:=h k
theorem Fe (h:Q→P:=by intro zz;exact Kj I (ldp I I .tc u26 I (by kernel_rfl : _ = some 2) (by rfl) (by rfl)) zz):P:=h k
theorem Ff (h:Q→P:=by intro zz;exact Kh I (Oy I I) zz):P:=h k
theorem Fg (h:Q→P:=by intro zz;exact Kj I (Ra I I) zz):P:=h k
theorem Fh (h:Q→P:=by intro zz;exact Km I (Ye I (Ye I (Ye I (Ka I (Ka I zz)))))):P:=h k
theorem Fi (h:Q→P:=by intro zz;exact Kf 0 I u58 I I I .tc u54 zz):P:=h k
theorem Fj (h:Q→P:=by intro zz;exact Kh I (Oa I (v := (.string (S []))) (cs := [.string (S [])]) (by kernel_rfl) I) zz):P:=h k
theorem Fk (h:Q→P:=by intro zz;exact Xd (Xa (Cg (Kq I (Rz I I I (by omega)) (Km I (Nn zz)))))):P:=h k
theorem Fl (h:Q→P:=by intro zz;exact Kj I (Ia I I I u93 (by kernel_rfl : _ = some 4) (by omega) (by (rw [ag _ _ 4 (fun _ => rfl)]; omega))) zz):P:=h k
theorem Fm (h:Q→P:=by intro zz;exact Kf 2 I u58 I I I .tc u56 zz):P:=h k
theorem Fo (h:Q→P:=by intro zz;exact Kq I (Ib I I I u55 (by omega) (by (rw [ag _ _ 1 (fun _ => rfl)]; omega))) zz):P:=h k
theorem Fp (h:Q→P:=by intro zz;exact Kh I (Oz [.string (S []), .string (S []), .string (S []), .string (S []), .string (S []), .slice none 0 0, .string (S []), .string (S [])] I) zz):P:=h k
theorem Fq (h:Q→P:=by intro zz;exact Kq I (bO _ I I eK I (by kernel_rfl : _ = some 4) (fun _ => rfl) (by decide) I (by assumption)) zz):P:=h k
theorem Fs (h:Q→P:=by intro zz;exact Ck (Xa (Cq (Cs (Km I zz))))):P:=h k
theorem Ft (h:Q→P:=by intro zz;exact Kq I (Fa (q := 2) I I u30 I I) (Kq I (Fa (q := 2) I I u28 I I) (Kq I (ldp I I .tc u26 I (by kernel_rfl : _ = some 2) (by rfl) (by rfl)) zz))):P:=h k
theorem Fu (h:Q→P:=by intro zz;exact Kq I (Fa (q := 0) I I u30 I I) (Kf 0 I u24 I I I .tc u22 zz)):P:=h k
theorem Fv (h:Q→P:=by intro zz;exact Xa (Cq (Cs (Ka I (Nt (Cb zz)))))):P:=h k
theorem Fw (h:Q→P:=by intro zz;exact WL.st (fun w h => iG (more := s.es.map qaF) (f := qaF (s.es.getD k default)) h (A3 hkm)) zz):P:=h k
theorem Fx (h:Q→P:=by intro zz;exact Kf 5 I u33 I I I .tc u31 zz):P:=h k
theorem Fy (h:Q→P:=by intro zz;exact Kj I (ldm I I u3 I (by assumption)) zz):P:=h k
theorem Fz (h:Q→P:=by intro zz;exact Kh I (Oz [.slice none 0 0, .string (S []), .int .i64 0] I) zz):P:=h k
theorem FA (k1:Q1)(h:Q→Q1→P:=by intro zz zy;exact Yh I (Nt (Ci I zz zy))):P:=h k k1
theorem FB (h:Q→P:=by intro zz;exact Kh I (Oa I (v := (.int .i64 0)) (cs := [.int .i64 0]) (by kernel_rfl) I) zz):P:=h k
theorem FC (h:Q→P:=by intro zz;exact Kj I (Ld I I .tc u31) zz):P:=h k
theorem FE (h:Q→P:=by intro zz;exact Kq I (Kb [[.string (S [])], [.string (S [])]] I I) zz):P:=h k
theorem FF (h:Q→P:=by intro zz;exact Kj I (ldp I I .tc u37 I (by kernel_rfl : _ = some 2) (by rfl) (by rfl)) zz):P:=h k
theorem FG (h:Q→P:=by intro zz;exact Kq I (ldp I I .tc u37 I (by kernel_rfl : _ = some 2) (by rfl) (by rfl)) zz):P:=h k
theorem FH (h:Q→P:=by intro zz;exact Kh I (Oz [.string (S []), .string (S [])] I) zz):P:=h k
theorem FI (h:Q→P:=by intro zz;exact Kq I (bO _ I I jp I (by kernel_rfl : _ = some 1) (fun _ => rfl) (by decide) (Aw _).symm (by assumption)) zz):P:=h k
theorem FJ (h:Q→P:=by intro zz;exact Kj I (Fa (q := 2) I I u95 I I) (Kj I (Ld I I .tc u93) zz)):P:=h k
theorem FK (h:Q→P:=by intro zz;exact WM.r I I I (ld I I .tc dT I (by rfl)) zz):P:=h k
theorem FM (h:Q→P:=by intro zz;exact Kt I (Kt I (Kt I (Kt I (Yp I (Nn zz)))))):P:=h k
theorem FN (k1:Q1)(h:Q→Q1→P:=by intro zz zy;exact Ys I (Nt (Ci I zz zy))):P:=h k k1
theorem FO (h:Q→P:=by intro zz;exact WR.region (by kernel_rfl) zz):P:=h k
theorem FP (h:Q→P:=by intro zz;exact Nn (Xa (Cq (Cg (Kq I (fb I I ic (by kernel_rfl : _ = some 1)) zz))))):P:=h k
theorem FQ (h:Q→P:=by intro zz;exact Ku I (Oc I I (Kv fun w hS => e9 (a := a) (m := m) (by exact ha) (by exact hm) (by exact hm0))) zz):P:=h k
theorem FR (h:Q→P:=by intro zz;exact Ku I (Oc I I (Kv fun w hS => e9 (a := b) (m := m) (by exact hb) (by exact hm) (by exact hm0))) zz):P:=h k
theorem FS (h:Q→P:=by intro zz;exact Kf 1 I u58 I I I .tc u55 zz):P:=h k
theorem FT (h:Q→P:=by intro zz;exact Kq I (aA I I I (by omega)) zz):P:=h k
theorem FU (h:Q→P:=by intro zz;exact Kj I (Fa (q := 0) I I u26 I I) zz):P:=h k
theorem FV (h:Q→P:=by intro zz;exact Yq I (Nt (Cd I (fun h => by cases h) zz))):P:=h k
theorem FW (h:Q→P:=by intro zz;exact T4 I (Kt I (Yq I (Km I (T4 I (Kt I (Yq I (Km I (T2 I (Kt I (Yq I zz))))))))))):P:=h k
theorem FX (k1:Q1)(h:Q→Q1→P:=by intro zz zy;exact Yi I (Nt (Ci I zz zy))):P:=h k k1
theorem FY (h:Q→P:=by intro zz;exact Kq I (Ja I I I u31 (by kernel_rfl : _ = some 1) (by omega)) zz):P:=h k
theorem FZ (h:Q→P:=by intro zz;exact Kj I (Ja I I I u31 (by kernel_rfl : _ = some 1) (by omega)) zz):P:=h k
theorem F0 (h:Q→P:=by intro zz;exact Jv I I I I I (fun ext => Oc I I (Kv fun w hS => p5 (by omega) (by (exact fG hT hS)))) zz):P:=h k
theorem F1 (h:Q→P:=by intro zz;exact Kf 2 I u95 I I I .tc u93 zz):P:=h k
theorem F2 (h:Q→P:=by intro zz;exact Kq I (Fa (q := 0) I I u30 I I) (Kf 1 I u24 I I I .tc u22 zz)):P:=h k
theorem F3 (h:Q→P:=by intro zz;exact Cf [0, 1, 2, 3, 4, 5, 6] [] [0, 0, 0, 0, 0, 0, 0] (by kernel_rfl) (by kernel_rfl) I zz):P:=h k
theorem F4 (h:Q→P:=by intro zz;exact Jv I I I I I (fun ext => Oc I I (Kv fun w hS => kv (n := 1) (by omega) (by omega))) zz):P:=h k
theorem F5 (h:Q→P:=by intro zz;exact Kq I (bZ (c := 1) I I I (by omega)) zz):P:=h k
theorem F6 (k1:Q1)(h:Q→Q1→P:=by intro zz zy;exact Yg I (Nt (Ci I zz zy))):P:=h k k1
theorem F7 (h:Q→P:=by intro zz;exact Kh I (Oa I (v := (.slice none 0 0)) (cs := [.slice none 0 0]) (by kernel_rfl) I) zz):P:=h k
theorem F8 (h:Q→P:=by intro zz;exact Kq I (Fa (q := 0) I I u58 I I) (Kq I (Ld I I .tc u54) zz)):P:=h k
theorem F9 (h:Q→P:=by intro zz;exact Kq I (aJ I I I (by omega)) zz):P:=h k
theorem Ga (h:Q→P:=by intro zz;exact Kq I (bG (c := 32) I I I (by decide)) zz):P:=h k
theorem Gb (h:Q→P:=by intro zz;exact Yo I u31 (Km I (Nt (Cb zz)))):P:=h k
theorem Gc (h:Q→P:=by intro zz;exact Kj I (Fa (q := 1) I I u33 I I) zz):P:=h k
theorem Gd (h:Q→P:=by intro zz;exact Kc I (fun w hS => az) (Yt I (Km I zz))):P:=h k
theorem Ge (h:Q→P:=by intro zz;exact Kq I (Rz I I I (by omega)) zz):P:=h k
theorem Gf (h:Q→P:=by intro zz;exact Ck (Xa (Cq (Cb (Cq zz))))):P:=h k
theorem Gg (h:Q→P:=by intro zz;exact Kq I (Kb [[.bool false, .string (S [])], [.bool false, .string (S [])]] I I) zz):P:=h k
theorem Gh (h:Q→P:=by intro zz;exact Kq I (Ld I I .tc u3) zz):P:=h k
theorem Gi (h:Q→P:=by intro zz;exact Ck (Xa (Cs (Km I zz)))):P:=h k
theorem Gj (h:Q→P:=by intro zz;exact WM.r I I I (fb I I ic (by kernel_rfl : _ = some 1)) zz):P:=h k
theorem Gk (h:Q→P:=by intro zz;exact Jv I I I I I (fun ext => Oc I I (Kv fun w hS => em (n := 8) (by omega))) zz):P:=h k
theorem Gl (h:Q→P:=by intro zz;exact Kh I (Oz [.bool false, .string (S []), .bool false, .string (S [])] I) zz):P:=h k
theorem Gm (h:Q→P:=by intro zz;exact Kh I (Oz [.string (S []), .int .i64 0, .bool false, .string (S [])] I) zz):P:=h k
theorem Gn (h:Q→P:=by intro zz;exact Kj I (aA I I I (by omega)) zz):P:=h k
theorem Gq (h:Q→P:=by intro zz;exact Js I I I I (Js I I I I (Kj I (Rq I I I) zz))):P:=h k
theorem Gs (h:Q→P:=by intro zz;exact Xa (Cq (Cs (Kq I (Fa (q := 2) I I u58 I I) (Kq I (Ld I I .tc u56) zz))))):P:=h k
theorem Gt (h:Q→P:=by intro zz;exact Kj I (Re I I I) zz):P:=h k
theorem Gu (h:Q→P:=by intro zz;exact Kq I (Fa (q := 2) I I u30 I I) zz):P:=h k
theorem Gv (h:Q→P:=by intro zz;exact Kf 11 I u30 I I I .tc u22 zz):P:=h k
theorem Gw (h:Q→P:=by intro zz;exact Kf 12 I u30 I I I .tc u22 zz):P:=h k
theorem Gx (h:Q→P:=by intro zz;exact Kf 14 I u30 I I I .tc u22 zz):P:=h k
theorem Gy (h:Q→P:=by intro zz;exact Kf 16 I u30 I I I .tc u22 zz):P:=h k
theorem Gz (h:Q→P:=by intro zz;exact Km I (Kq I (Ja I I I rX (by kernel_rfl : _ = some 1) (by omega)) zz)):P:=h k
theorem GA (h:Q→P:=by intro zz;exact WM.r I I I (Ra I I) zz):P:=h k
theorem GB (h:Q→P:=by intro zz;exact WR.sr (by kernel_rfl) zz):P:=h k
theorem GD (h:Q→P:=by intro zz;exact WM.r I I I (dg I I I) zz):P:=h k
theorem GE (h:Q→P:=by intro zz;exact Km I (Kc I (fun w hS => dl (a := a) (i := k) (by omega) (by omega)) (Km I zz))):P:=h k
theorem GF (h:Q→P:=by intro zz;exact Kc I (fun w hS => a8 (x := x)) (Yt I (Km I zz))):P:=h k
theorem GG (h:Q→P:=by intro zz;exact Ka I (Nn (WX.begin hl zz))):P:=h k
theorem GH (h:Q→P:=by intro zz;exact Kq I (Ld I I .tc aH) zz):P:=h k
theorem GI (h:Q→P:=by intro zz;exact Km I (Kc I (fun w hS => az) zz)):P:=h k
theorem GJ (h:Q→P:=by intro zz;exact Kc I (fun w hS => av) zz):P:=h k
theorem GK (h:Q→P:=by intro zz;exact Kq I (bG I I I (by (show _ ≤ 64; omega))) zz):P:=h k
theorem GL (k1:Q1)(h:Q→Q1→P:=by intro zz zy;exact Yr I (Nt (Ci I zz zy))):P:=h k k1
theorem GM (h:Q→P:=by intro zz;exact WL.r I I I (cn I I) zz):P:=h k
theorem GN (h:Q→P:=by intro zz;exact Ka I (Nt (Cs (Kq I (dd I I I) zz)))):P:=h k
theorem GO (h:Q→P:=by intro zz;exact Kf 10 I u30 I I I .tc u22 zz):P:=h k
theorem GP (h:Q→P:=by intro zz;exact Kf 15 I u30 I I I .tc u22 zz):P:=h k
theorem GQ (h:Q→P:=by intro zz;exact Km I (Ku I (Oc I I (Kv fun w _ => cD _ _ (by decide) (by decide) w)) zz)):P:=h k
theorem GR (h:Q→P:=by intro zz;exact Ka I (Nt (Cq (Cs zz)))):P:=h k
theorem GS (h:Q→P:=by intro zz;exact WM.r I I I (df I I I) zz):P:=h k
theorem GT (h:Q→P:=by intro zz;exact Km I (Kc I (fun w hS => dl (a := b) (i := k) (by omega) (by omega)) zz)):P:=h k
theorem GU (h:Q→P:=by intro zz;exact Kc I (fun w hS => jA (p := p) (by assumption) (by (exact bm hD hS))) zz):P:=h k
theorem GV (h:Q→P:=by intro zz;exact Ck (Xa (Cq (Cs zz)))):P:=h k
theorem GW (h:Q→P:=by intro zz;exact Kf 0 I u41 I I I .tc u31 zz):P:=h k
theorem GX (h:Q→P:=by intro zz;exact Km I (Kq I (bQ I I I (by omega)) zz)):P:=h k
end
theorem GY {P:Prop}(h:P:=by exact R1 I I (by rw [hr]; rfl)):P:=h
theorem GZ {P:Prop}(h:P:=by exact Rn I (.agg I .tc u37 I (by kernel_rfl) (.tmp I .nil)) fun w' hS => ⟨by rw [hr]; rfl, hS.below⟩):P:=h
theorem G0 {P:Prop}(h:P:=by exact Rn I (.agg I .tc u37 I (by kernel_rfl) .nil) fun w' hS => ⟨by rw [hr]; rfl, hS.below⟩):P:=h
theorem G1 {P:Prop}(h:P:=by exact Rn I (.tmp I (.agg I .tc u37 I (by kernel_rfl) (.agg I .tc u41 I (by kernel_rfl) (.tmp I .nil)))) fun w' hS => ⟨⟨none, 0, []⟩, by rw [hr]; rfl, by rw [hr]; rfl, by rw [hr]; exact fl hS⟩):P:=h
theorem G2 {P:Prop}(h:P:=by exact Rn I (.agg I .tc u58 I (by kernel_rfl) (.tmp I .nil)) fun w' hS => cJ hr hS):P:=h
theorem G5 {P:Prop}(h:P:=by exact Rn I .nil fun w' hS => ⟨⟨_, rfl⟩, gy, by rw [hfin]; exact hgy, by rw [hfin]; dsimp only; exact au _ hS⟩):P:=h
theorem G6 {P:Prop}(h:P:=by exact WX.retM0 I (.tmp I (.agg I .tc u37 I (by kernel_rfl) (.tmp I (.tmp I .nil)))) fun w' hS => ⟨⟨none, 0, []⟩, by rw [hr]; rfl, trivial, hS.below, by rw [hr]; exact Fc bc Fn⟩):P:=h
theorem G7 {P:Prop}(h:P:=by exact Rn I (.tmp I (.agg I .tc u37 I (by kernel_rfl) (.tmp I (.tmp I .nil)))) fun w' hS => ⟨⟨none, 0, []⟩, by rw [hr]; rfl, trivial, hS.below, by rw [hr]; exact Fc bc Fn⟩):P:=h
theorem G8 {P:Prop}(h:P:=by exact R2 I I I (by rw [hr]; rfl)):P:=h
theorem G9 {P:Prop}(h:P:=by exact R1 I I (by (simp [*, tup]; done))):P:=h
theorem Ha {P:Prop}(h:P:=by exact WX.retM0 I (.agg I .tc u58 I (by kernel_rfl) (.tmp I .nil)) fun w' hS => cJ hr hS):P:=h
theorem Hb {P:Prop}(h:P:=by exact R1 I I (by rfl)):P:=h
theorem Hc {P:Prop}(h:P:=by exact Rn I (.agg I .tc u37 I (by kernel_rfl) .nil) fun w' hS => ⟨by (simp [*, tup, mkZ]; done), hS.below⟩):P:=h
theorem Hd {P:Prop}(h:P:=by exact R1 I I (by rw [show decide (elG g x) = decide (x ≠ [] ∧ val x < val g.1 ∧ Nat.gcd (val x) (val g.1) = 1) from Ag.2 hr]; (simp [*, tup]; done))):P:=h
theorem He {P:Prop}(h:P:=by exact R1 I I (by rw [jE hil hok (by simpa using hc16)]; rfl)):P:=h
theorem Hf {P:Prop}(h:P:=by exact WX.retM0 I (.tmp I (.tmp I .nil)) fun w' hS => ⟨⟨none, 0, []⟩, by rw [hr]; rfl, trivial, hS.below, by rw [hr]; exact Fc bc Fn⟩):P:=h
theorem Hg {P:Prop}(h:P:=by exact R1 I I (by (simp [*, tup, dS]; done))):P:=h
theorem Hh {P:Prop}(h:P:=by exact Rn I (.agg I .tc u37 I (by kernel_rfl) (.tmp I (.tmp I .nil))) fun w' hS => ⟨by rw [hr]; rfl, hS.below⟩):P:=h
theorem Hi {P:Prop}(h:P:=by exact R1 I I (by (simp [*, tup, okZ]; done))):P:=h
theorem Hj {P:Prop}(h:P:=by exact R1 I I (by rw [Aj hn]; rfl)):P:=h
theorem Hk {P:Prop}(h:P:=by exact R2 I I I (by rw [aT, Aa (by simp_all <;> omega)]; rfl)):P:=h
theorem Hl {P:Prop}(h:P:=by exact R1 I I (by (exact so (by omega)))):P:=h
theorem Hm {P:Prop}(h:P:=by exact Rn I (.tmp I .nil) fun w' hS => ⟨by rw [dz, Ao hS256]; rfl, hS.below⟩):P:=h
theorem Hn {P:Prop}(h:P:=by exact R3 I I I I (by rw [fT, Aa (by simp_all)]; rfl)):P:=h
theorem Ho {P:Prop}(h:P:=by exact R2 I I I (by rw [addN, Aa (by simp_all)]; rfl)):P:=h
theorem Hp {P:Prop}(h:P:=by exact R1 I I (by rw [fo hok]; rfl)):P:=h
theorem Hq {P:Prop}(h:P:=by exact R2 I I I (by rw [j5, Aa (by simp_all)]; rfl)):P:=h
theorem Hr {P:Prop}(h:P:=by exact R2 I I I (by rw [ff, Aa (by simp_all)]; rfl)):P:=h
theorem Hs {P:Prop}(h:P:=by exact R2 I I I (by rw [bI, Aa (by simp_all)]; rfl)):P:=h
theorem Ht {P:Prop}(h:P:=by exact R1 I I (by rw [ee, Aa (by simp_all)]; rfl)):P:=h
theorem Hu {P:Prop}(h:P:=by exact R1 I I (by rw [dG]; rfl)):P:=h
theorem Hv {P:Prop}(h:P:=by exact R1 I I (by simp [*, tup, jF, bX])):P:=h
end Go.Proofs.YtkdlonihbjhhoaaGreatDoor
