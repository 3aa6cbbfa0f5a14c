/-
  Parts of the walk: LayT.
-/
import Derived.Test.YtkdlonihbjhhoaaGreatDoorG2
import Derived.Shelf.Spec.TrailingZeros
namespace Go.Proofs.YtkdlonihbjhhoaaGreatDoor
set_option linter.unusedSimpArgs false
set_option linter.unusedVariables false
set_option maxRecDepth 20000
set_option maxHeartbeats 600000
def renTz : Go.Shelf.Ren := ⟨fun k => bif Nat.beq k 29 then 241 else 0, fun k => bif Nat.beq k 0 then 0 else bif Nat.beq k 3 then 3 else bif Nat.beq k 4 then 4 else bif Nat.beq k 5 then 5 else bif Nat.beq k 22 then 76 else bif Nat.beq k 25 then 171 else bif Nat.beq k 27 then 249 else bif Nat.beq k 53 then 292 else bif Nat.beq k 54 then 268 else 0, fun k => bif Nat.beq k 0 then 5 else bif Nat.beq k 1 then 3 else 0⟩
theorem BA : Go.Proofs.Lays7.n29 Tryz.prog renTz where
  mixed := by kernel_rfl
  f29 := by kernel_rfl
  t0 := by kernel_rfl
  a0 := fun w => by kernel_rfl
  z0 := fun w => by kernel_rfl
  v0 := fun w => by kernel_rfl
  i0 := by kernel_rfl
  t3 := by kernel_rfl
  a3 := fun w => by kernel_rfl
  z3 := fun w => by kernel_rfl
  v3 := fun w => by kernel_rfl
  i3 := by kernel_rfl
  t4 := by kernel_rfl
  a4 := fun w => by kernel_rfl
  z4 := fun w => by kernel_rfl
  v4 := fun w => by kernel_rfl
  i4 := by kernel_rfl
  t5 := by kernel_rfl
  a5 := fun w => by kernel_rfl
  z5 := fun w => by kernel_rfl
  v5 := fun w => by kernel_rfl
  i5 := by kernel_rfl
  t22 := by kernel_rfl
  a22 := fun w => by kernel_rfl
  z22 := fun w => by kernel_rfl
  v22 := fun w => by kernel_rfl
  i22 := by kernel_rfl
  t25 := by kernel_rfl
  a25 := fun w => by kernel_rfl
  z25 := fun w => by kernel_rfl
  v25 := fun w => by kernel_rfl
  i25 := by kernel_rfl
  t54 := by kernel_rfl
  a54 := fun w => by kernel_rfl
  z54 := fun w => by kernel_rfl
  g1 := by kernel_rfl
theorem yG (x : Nat) (hx : x < 18446744073709551616) (w : World) (hT : x ≠ 0 → Go.Proofs.TabAt (renTz.g 1) Lib.deBruijn64tab w) :
    Calls Tryz.prog 241 #[.int .u64 x] w fun e w' => e = .returned (.int .i64 (Lib.ctz 64 x)) ∧ w' = w :=
  Go.Proofs.Any7.bits_TrailingZeros64 BA x hx w hT
section
variable {P Q Q1 Q2 Q3:Prop}(k:Q)
include k
theorem ne (h:Q→P:=by intro zz;exact Ka I (Nt (Ce (Xb zz)))):P:=h k
theorem to (h:Q→P:=by intro zz;exact Ka I (Nt (Ce zz))):P:=h k
theorem AI (h:Q→P:=by intro zz;exact WM.g I I I (Oc I I (Kv fun w _ => cu _ _ (by decide) (by decide) w)) (fun _ _ h => by first | exact h | exact ⟨_, h⟩ | exact ⟨_, h.2⟩ | exact h.2 | exact h.sub (by repeat (first | exact Ax _ | apply List.Sublist.cons)) (fun _ h => by simp [*]) | exact h.2.sub (by repeat (first | exact Ax _ | apply List.Sublist.cons)) (fun _ h => by simp [*])) zz):P:=h k
theorem AS (h:Q→P:=by intro zz;exact Kh I (Oz [.bool false, .string (S [])] I) zz):P:=h k
theorem AT (h:Q→P:=by intro zz;exact Cx (Xc (Xc (Xe zz)))):P:=h k
theorem By (h:Q→P:=by intro zz;exact Kq I (Kb [[.bool false], [.string (S [])]] I I) zz):P:=h k
theorem BY (h:Q→P:=by intro zz;exact Km I (Ye I (Ye I (Ka I (Ka I (Nt zz)))))):P:=h k
theorem DN (h:Q→P:=by intro zz;exact Km I (Nt (Cb (Lp (σ := Nat) [(0, _), (1, _), (7, _)] (fun gq => [(8, .int .i64 (gq : Int))]) (fun gq => gq ≤ l.length ∧ ∀ x ∈ l.take gq, p x = false) (fun gq => l.length - gq) (0) (S3 I I I) (S1 I) (by (try dsimp only); exact ⟨Ai _, by simp⟩) zz)))):P:=h k
theorem DO (h:Q→P:=by intro zz;exact Cs (Kh I (Oy I I) zz)):P:=h k
theorem DP (k1:Q1)(h:Q→Q1→P:=by intro zz zy;exact Cs (Yl I (Nt (Cq (Ci I zz zy))))):P:=h k k1
theorem DQ (h:Q→P:=by intro zz;exact Nu I I (Sa I I I .tc) zz):P:=h k
theorem DR (h:Q→P:=by intro zz;exact Ka I (Nt (Cq (Cs (Km I zz))))):P:=h k
theorem DS (h:Q→P:=by intro zz;exact Xf (Xb (Xb (Xf (Xb zz))))):P:=h k
theorem DT (h:Q→P:=by intro zz;exact Ka I (Nt (Cs (Km I zz)))):P:=h k
theorem DU (h:Q→P:=by intro zz;exact Kh I (Oz [.string (S []), .string (S []), .string (S []), .string (S []), .string (S []), .string (S []), .string (S []), .string (S []), .string (S []), .string (S []), .string (S []), .string (S []), .string (S []), .string (S []), .string (S []), .string (S []), .string (S []), .string (S []), .string (S []), .string (S []), .string (S []), .string (S []), .slice none 0 0, .string (S []), .string (S [])] I) zz):P:=h k
theorem DV (h:Q→P:=by intro zz;exact Jf I I I I I (bJ I (v := (.agg #[.bool false, .string (S [])])) (cs := [.bool false, .string (S [])]) (by kernel_rfl) I) zz):P:=h k
theorem DW (h:Q→P:=by intro zz;exact Kj I (Rm I I) (Kj I (Rm I I) zz)):P:=h k
theorem DX (h:Q→P:=by intro zz;exact Kq I (Ia I I I u39 (by kernel_rfl : _ = some 2) (by omega) (by (rw [aj _ _ 2 (fun _ => rfl)]; omega))) zz):P:=h k
theorem DY (h:Q→P:=by intro zz;exact Kj I (Ld I I .tc u22) zz):P:=h k
theorem DZ (h:Q→P:=by intro zz;exact Kq I (Ib I I I u31 (by omega) (by (rw [Ag]; omega))) zz):P:=h k
theorem Ej (h:Q→P:=by intro zz;exact Kf 1 I u37 I I I .tc u22 zz):P:=h k
theorem Ek (h:Q→P:=by intro zz;exact Kq I (Ja I I I aE (by kernel_rfl : _ = some 1) (by omega)) zz):P:=h k
theorem El (h:Q→P:=by intro zz;exact Ck (Xa (Cq (Cb (Cs (Km I zz)))))):P:=h k
theorem Em (h:Q→P:=by intro zz;exact Kq I (Ld I I .tc u22) zz):P:=h k
theorem Eo (h:Q→P:=by intro zz;exact Km I (Kh I (vg I I I .tc aE (by kernel_rfl) (m := (dS key).length) (by omega) (by simp; omega) (ys := K.map B) (by rw [← hK, Dx, List.nil_append, Az, Ap, List.drop_replicate, B7, List.map_replicate]; rfl)) zz)):P:=h k
theorem Ep (h:Q→P:=by intro zz;exact Kq I (ldp I I .tc u26 I (by kernel_rfl : _ = some 2) (by rfl) (by rfl)) zz):P:=h k
theorem Eq (k1:Q1)(h:Q→Q1→P:=by intro zz zy;exact Yt I (Nt (Ci I zz zy))):P:=h k k1
theorem Er (h:Q→P:=by intro zz;exact WM.r I I I (ld I I (by first | exact .here | exact .t1 | exact .t2 | exact .t3 | exact .t4 | exact .t5 | exact .t6 | exact .t7) dN I (by exact iL _ u32 _ _ _ (cC (cx j (bY bs)) _ 0 (by omega)))) zz):P:=h k
theorem Es (h:Q→P:=by intro zz;exact Kh I (Oz [.string (S []), .string (S []), .string (S []), .string (S []), .string (S []), .string (S []), .string (S []), .string (S []), .string (S []), .string (S []), .string (S []), .string (S []), .string (S []), .string (S []), .string (S []), .string (S []), .string (S [])] I) zz):P:=h k
theorem Et (h:Q→P:=by intro zz;exact Kj I (Ja I I I u38 (by kernel_rfl : _ = some 1) (by omega)) zz):P:=h k
theorem Eu (h:Q→P:=by intro zz;exact Kq I (Ja I I I u38 (by kernel_rfl : _ = some 1) (by omega)) zz):P:=h k
theorem Ev (h:Q→P:=by intro zz;exact Kq I (av I I I (by omega)) (Km I (Kq I (aS I I I (by omega)) zz))):P:=h k
theorem Ew (k1:Q1)(h:Q→Q1→P:=by intro zz zy;exact Yl I (Nt (Ci I zz zy))):P:=h k k1
theorem Ex (h:Q→P:=by intro zz;exact Kq I (Kb [[.slice none 0 0], [.string (S [])], [.int .i64 0]] I I) zz):P:=h k
theorem Ey (h:Q→P:=by intro zz;exact Js I I I I (Js I I I I (Js I I I I zz))):P:=h k
theorem Ez (k1:Q1)(h:Q→Q1→P:=by intro zz zy;exact Ku I (aN I I I hgo (jq _ _) (Kv fun w hS => hfn (l.getD i default) (ap _ _ hil) w hS.below)) (Nt (Ci I zz zy))):P:=h k k1
theorem EA (h:Q→P:=by intro zz;exact Kh I (Oa I (v := (.agg (List.replicate 64 (.int .u32 0)).toArray)) (cs := (List.replicate 64 (.int .u32 0))) (by kernel_rfl) I) zz):P:=h k
theorem EB (h:Q→P:=by intro zz;exact Kq I (Ia I I I u56 (by kernel_rfl : _ = some 3) (by omega) (by (rw [aj _ _ 3 (fun _ => rfl)]; omega))) zz):P:=h k
theorem EC (h:Q→P:=by intro zz;exact Kq I (Ia I I I u54 (by kernel_rfl : _ = some 2) (by omega) (by (rw [aj _ _ 2 (fun _ => rfl)]; omega))) zz):P:=h k
theorem ED (h:Q→P:=by intro zz;exact Kf 0 I u26 I I I .tc u22 zz):P:=h k
theorem EE (h:Q→P:=by intro zz;exact Kf 1 I u26 I I I .tc u22 zz):P:=h k
theorem EF (h:Q→P:=by intro zz;exact Kq I (dL _ I I u95 I (by kernel_rfl : _ = some 3) (fun _ => rfl) (by decide) I (by assumption)) zz):P:=h k
theorem EG (h:Q→P:=by intro zz;exact Kq I (dL _ I I u26 I (by kernel_rfl : _ = some 2) (fun _ => rfl) (by decide) I (by assumption)) zz):P:=h k
theorem EH (h:Q→P:=by intro zz;exact Kq I (Kb [[.slice none 0 0], [.slice none 0 0], [.slice none 0 0]] I I) zz):P:=h k
theorem EI (h:Q→P:=by intro zz;exact Kq I (ldm I I u22 I (by assumption)) zz):P:=h k
theorem EJ (h:Q→P:=by intro zz;exact Kf 0 I u37 I I I .tc u4 zz):P:=h k
theorem EK (h:Q→P:=by intro zz;exact WM.r I I I (Rm I I) zz):P:=h k
theorem EL (k1:Q1)(h:Q→Q1→P:=by intro zz zy;exact Yj I (Nt (Ci I zz zy))):P:=h k k1
theorem EM (h:Q→P:=by intro zz;exact Kj I (Re I I I) (Kj I (Re I I I) (Kj I (Ra I I) (Kj I (Ra I I) zz)))):P:=h k
theorem EN (h:Q→P:=by intro zz;exact Ck (Xa (Cs (Km I (Km I zz))))):P:=h k
theorem EO (h:Q→P:=by intro zz;exact Kh I (Oa I (v := (.agg (List.replicate 64 (.int .u8 0)).toArray)) (cs := (List.replicate 64 (.int .u8 0))) (by kernel_rfl) I) zz):P:=h k
theorem EP (k1:Q1)(h:Q→Q1→P:=by intro zz zy;exact Yt I (Yq I (Nt (Ci I zz zy)))):P:=h k k1
theorem EQ (h:Q→P:=by intro zz;exact Kh I (Oz [.int .u32 0, .int .u32 0, .int .u32 0, .int .u32 0, .int .u32 0, .int .u32 0, .int .u32 0, .int .u32 0] I) zz):P:=h k
theorem ER (h:Q→P:=by intro zz;exact Kj I (Rm I I) zz):P:=h k
theorem ES (h:Q→P:=by intro zz;exact Kj I (Ra I I) zz):P:=h k
theorem ET (h:Q→P:=by intro zz;exact Kh I (Oa I (v := (.string (S []))) (cs := [.string (S [])]) (by kernel_rfl) I) zz):P:=h k
theorem EU (h:Q→P:=by intro zz;exact Xd (Xa (Cg (Kq I (Rz I I I (by omega)) (Km I (Nn zz)))))):P:=h k
theorem EV (h:Q→P:=by intro zz;exact Kj I (Ib I I I u31 (by omega) (by (rw [Ag]; omega))) zz):P:=h k
theorem EW (h:Q→P:=by intro zz;exact Kh I (Oy I I) zz):P:=h k
theorem EX (h:Q→P:=by intro zz;exact Km I (Ye I (Ye I (Ye I (Ka I (Ka I zz)))))):P:=h k
theorem EY (h:Q→P:=by intro zz;exact Kh I (Oz [.string (S []), .string (S []), .string (S []), .string (S []), .string (S []), .slice none 0 0, .string (S []), .string (S [])] I) zz):P:=h k
theorem EZ (h:Q→P:=by intro zz;exact Kq I (dL _ I I u37 I (by kernel_rfl : _ = some 2) (fun _ => rfl) (by decide) I (by assumption)) zz):P:=h k
theorem E0 (h:Q→P:=by intro zz;exact Cq (Cs (Km I (Km I zz)))):P:=h k
theorem E1 (h:Q→P:=by intro zz;exact Kh I (Oz [.int .i64 0, .string (S []), .slice none 0 0] I) zz):P:=h k
theorem E2 (h:Q→P:=by intro zz;exact Kq I (Fa (q := 0) I I u30 I I) (Kf 0 I u24 I I I .tc u22 zz)):P:=h k
theorem E3 (h:Q→P:=by intro zz;exact Ck (Xa (Cq (Cb (Cs zz))))):P:=h k
theorem E4 (h:Q→P:=by intro zz;exact Kq I (Fa (q := 2) I I u30 I I) (Kq I (Fa (q := 2) I I u28 I I) zz)):P:=h k
theorem E5 (h:Q→P:=by intro zz;exact Ka I (Nt (Cq (Cs (Ka I (Nt (Cb zz))))))):P:=h k
theorem E6 (h:Q→P:=by intro zz;exact Kh I (Oz [.slice none 0 0, .string (S []), .int .i64 0] I) zz):P:=h k
theorem E7 (k1:Q1)(h:Q→Q1→P:=by intro zz zy;exact Yh I (Nt (Ci I zz zy))):P:=h k k1
theorem E8 (h:Q→P:=by intro zz;exact Kq I (Ib I I I u55 (by omega) (by (rw [aj _ _ 1 (fun _ => rfl)]; omega))) zz):P:=h k
theorem E9 (h:Q→P:=by intro zz;exact Kq I (Kb [[.string (S [])], [.string (S [])]] I I) zz):P:=h k
theorem Fb (h:Q→P:=by intro zz;exact Kj I (ldp I I .tc u37 I (by kernel_rfl : _ = some 2) (by rfl) (by rfl)) zz):P:=h k
theorem Fd (h:Q→P:=by intro zz;exact Kj I (ldp I I .tc u26 I (by kernel_rfl : _ = some 2) (by rfl) (by rfl)) zz):P:=h k
theorem Fe (h:Q→P:=by intro zz;exact Ck (Xa (Cq (Cs (Km I zz))))):P:=h k
theorem Ff (h:Q→P:=by intro zz;exact Kq I (dL _ I I oW I (by kernel_rfl : _ = some 1) (fun _ => rfl) (by decide) (A0 _).symm (by assumption)) zz):P:=h k
theorem Fg (h:Q→P:=by intro zz;exact Nt (Cd I (fun h => by cases h) zz)):P:=h k
theorem Fh (h:Q→P:=by intro zz;exact WM.r I I I (ld I I .tc dN I (by rfl)) zz):P:=h k
theorem Fi (h:Q→P:=by intro zz;exact Kt I (Kt I (Kt I (Kt I (Yp I (Nn zz)))))):P:=h k
theorem Fj (h:Q→P:=by intro zz;exact Kq I (Ia I I I u93 (by kernel_rfl : _ = some 4) (by omega) (by (rw [aj _ _ 4 (fun _ => rfl)]; omega))) zz):P:=h k
theorem Fk (h:Q→P:=by intro zz;exact Nn (Xa (Cq (Cg (Kq I (eN I I gR (by kernel_rfl : _ = some 1)) zz))))):P:=h k
theorem Fl (h:Q→P:=by intro zz;exact Kj I (dL _ I I u37 I (by kernel_rfl : _ = some 2) (fun _ => rfl) (by decide) I (by assumption)) zz):P:=h k
theorem Fm (h:Q→P:=by intro zz;exact Ku I (Oc I I (Kv fun w hS => eL (a := a) (m := m) (by exact ha) (by exact hm) (by exact hm0))) zz):P:=h k
theorem Fo (h:Q→P:=by intro zz;exact Ku I (Oc I I (Kv fun w hS => eL (a := b) (m := m) (by exact hb) (by exact hm) (by exact hm0))) zz):P:=h k
theorem Fp (h:Q→P:=by intro zz;exact Kq I (dL _ I I jM I (by kernel_rfl : _ = some 4) (fun _ => rfl) (by decide) I (by assumption)) zz):P:=h k
theorem Fq (h:Q→P:=by intro zz;exact Kq I (aA I I I (by omega)) zz):P:=h k
theorem Fs (h:Q→P:=by intro zz;exact Kj I (Fa (q := 0) I I u26 I I) zz):P:=h k
theorem Ft (h:Q→P:=by intro zz;exact T4 I (Kt I (Yq I (Km I (T4 I (Kt I (Yq I (Km I (T2 I (Kt I (Yq I zz))))))))))):P:=h k
theorem Fu (k1:Q1)(h:Q→Q1→P:=by intro zz zy;exact Ys I (Nt (Ci I zz zy))):P:=h k k1
theorem Fv (h:Q→P:=by intro zz;exact Kq I (Ja I I I u31 (by kernel_rfl : _ = some 1) (by omega)) zz):P:=h k
theorem Fw (h:Q→P:=by intro zz;exact Jv I I I I I (fun ext => Oc I I (Kv fun w hS => pw (by omega) (by (exact dZ hT hS)))) zz):P:=h k
theorem Fx (h:Q→P:=by intro zz;exact Kh I (Oz [.string (S []), .string (S [])] I) zz):P:=h k
theorem Fy (h:Q→P:=by intro zz;exact Kj I (ldm I I u22 I (by assumption)) zz):P:=h k
theorem Fz (h:Q→P:=by intro zz;exact Kq I (Fa (q := 0) I I u30 I I) (Kf 1 I u24 I I I .tc u22 zz)):P:=h k
theorem FA (h:Q→P:=by intro zz;exact Cf [0, 1, 2, 3, 4, 5, 6] [] [0, 0, 0, 0, 0, 0, 0] (by kernel_rfl) (by kernel_rfl) I zz):P:=h k
theorem FB (h:Q→P:=by intro zz;exact Jv I I I I I (fun ext => Oc I I (Kv fun w hS => kf (n := 1) (by omega) (by omega))) zz):P:=h k
theorem FC (h:Q→P:=by intro zz;exact Kq I (bU (c := 1) I I I (by omega)) zz):P:=h k
theorem FE (h:Q→P:=by intro zz;exact Kq I (lE (sz := 2) _ 1 I I u22 I (fun _ => rfl) I (by assumption) (by decide) I) zz):P:=h k
theorem FF (h:Q→P:=by intro zz;exact Kq I (Fa (q := 0) I I u58 I I) (Kq I (Ld I I .tc u54) zz)):P:=h k
theorem FG (h:Q→P:=by intro zz;exact Kq I (aJ I I I (by omega)) zz):P:=h k
theorem FH (h:Q→P:=by intro zz;exact Kq I (bA (c := 32) I I I (by decide)) zz):P:=h k
theorem FI (h:Q→P:=by intro zz;exact WR.region (by kernel_rfl) zz):P:=h k
theorem FJ (h:Q→P:=by intro zz;exact Kc I (fun w hS => ay) (Yt I (Km I zz))):P:=h k
theorem FK (h:Q→P:=by intro zz;exact Kq I (Kb [[.bool false, .string (S [])], [.bool false, .string (S [])]] I I) zz):P:=h k
theorem FM (h:Q→P:=by intro zz;exact Kq I (Fa (q := 1) I I u33 I I) zz):P:=h k
theorem FN (h:Q→P:=by intro zz;exact Ck (Xa (Cs (Km I zz)))):P:=h k
theorem FP (h:Q→P:=by intro zz;exact WM.r I I I (eN I I gR (by kernel_rfl : _ = some 1)) zz):P:=h k
theorem FQ (h:Q→P:=by intro zz;exact Kf 5 I u33 I I I .tc u31 zz):P:=h k
theorem FR (k1:Q1)(h:Q→Q1→P:=by intro zz zy;exact Yg I (Nt (Ci I zz zy))):P:=h k k1
theorem FS (h:Q→P:=by intro zz;exact Cs (Km I (Km I zz))):P:=h k
theorem FT (k1:Q1)(h:Q→Q1→P:=by intro zz zy;exact Yi I (Nt (Ci I zz zy))):P:=h k k1
theorem FU (h:Q→P:=by intro zz;exact Jv I I I I I (fun ext => Oc I I (Kv fun w hS => dJ (n := 8) (by omega))) zz):P:=h k
theorem FV (h:Q→P:=by intro zz;exact Kh I (Oa I (v := (.int .i64 0)) (cs := [.int .i64 0]) (by kernel_rfl) I) zz):P:=h k
theorem FW (h:Q→P:=by intro zz;exact Yo I u31 (Km I (Nt (Cb zz)))):P:=h k
theorem FX (h:Q→P:=by intro zz;exact Kq I (ldp I I .tc u37 I (by kernel_rfl : _ = some 2) (by rfl) (by rfl)) zz):P:=h k
theorem FY (h:Q→P:=by intro zz;exact Kh I (Oz [.bool false, .string (S []), .bool false, .string (S [])] I) zz):P:=h k
theorem FZ (h:Q→P:=by intro zz;exact Kj I (aA I I I (by omega)) zz):P:=h k
theorem F0 (h:Q→P:=by intro zz;exact Js I I I I (Js I I I I (Kj I (Rq I I I) zz))):P:=h k
theorem F1 (h:Q→P:=by intro zz;exact Xa (Cq (Cs (Kq I (Fa (q := 2) I I u58 I I) (Kq I (Ld I I .tc u56) zz))))):P:=h k
theorem F2 (h:Q→P:=by intro zz;exact Kq I (Ld I I .tc u3) zz):P:=h k
theorem F3 (h:Q→P:=by intro zz;exact Kj I (Re I I I) zz):P:=h k
theorem F4 (h:Q→P:=by intro zz;exact Kf 10 I u30 I I I .tc u22 zz):P:=h k
theorem F5 (h:Q→P:=by intro zz;exact Kf 11 I u30 I I I .tc u22 zz):P:=h k
theorem F6 (h:Q→P:=by intro zz;exact Kf 12 I u30 I I I .tc u22 zz):P:=h k
theorem F7 (h:Q→P:=by intro zz;exact Kq I (Rz I I I (by omega)) zz):P:=h k
theorem F8 (h:Q→P:=by intro zz;exact Km I (Kq I (Ja I I I rm (by kernel_rfl : _ = some 1) (by omega)) zz)):P:=h k
theorem F9 (h:Q→P:=by intro zz;exact WM.r I I I (Ra I I) zz):P:=h k
theorem Ga (h:Q→P:=by intro zz;exact WR.sr (by kernel_rfl) zz):P:=h k
theorem Gb (h:Q→P:=by intro zz;exact WM.r I I I (cZ I I I) zz):P:=h k
theorem Gc (h:Q→P:=by intro zz;exact Kj I (Ld I I .tc u31) zz):P:=h k
theorem Gd (h:Q→P:=by intro zz;exact Kh I (Oz [.slice none 0 0, .slice none 0 0, .slice none 0 0] I) zz):P:=h k
theorem Ge (h:Q→P:=by intro zz;exact Km I (Kc I (fun w hS => dh (a := a) (i := k) (by omega) (by omega)) (Km I zz))):P:=h k
theorem Gf (h:Q→P:=by intro zz;exact Kc I (fun w hS => bu (x := x)) (Yt I (Km I zz))):P:=h k
theorem Gg (h:Q→P:=by intro zz;exact Ck (Xa (Cq (Cs zz)))):P:=h k
theorem Gh (h:Q→P:=by intro zz;exact Kq I (Ld I I .tc aE) zz):P:=h k
theorem Gi (h:Q→P:=by intro zz;exact Km I (Kc I (fun w hS => ay) zz)):P:=h k
theorem Gj (h:Q→P:=by intro zz;exact Kc I (fun w hS => ar) zz):P:=h k
theorem Gk (h:Q→P:=by intro zz;exact Kq I (bA I I I (by (show _ ≤ 64; omega))) zz):P:=h k
theorem Gl (h:Q→P:=by intro zz;exact Kq I (Fa (q := 2) I I u30 I I) (Kf 4 I u28 I I I .tc u22 zz)):P:=h k
theorem Gm (h:Q→P:=by intro zz;exact Kq I (Fa (q := 0) I I u43 I I) (Kf 0 I u35 I I I .tc u22 zz)):P:=h k
theorem Gn (h:Q→P:=by intro zz;exact WL.r I I I (ci I I) zz):P:=h k
theorem Gq (h:Q→P:=by intro zz;exact Ka I (Nt (Cs (Kq I (cW I I I) zz)))):P:=h k
theorem Gs (h:Q→P:=by intro zz;exact Km I (Ku I (Oc I I (Kv fun w _ => cu _ _ (by decide) (by decide) w)) zz)):P:=h k
theorem Gt (h:Q→P:=by intro zz;exact WM.r I I I (cY I I I) zz):P:=h k
theorem Gu (h:Q→P:=by intro zz;exact Km I (Kc I (fun w hS => dh (a := b) (i := k) (by omega) (by omega)) zz)):P:=h k
theorem Gv (h:Q→P:=by intro zz;exact Kc I (fun w hS => jk (p := p) (by assumption) (by (exact bh hD hS))) zz):P:=h k
theorem Gw (h:Q→P:=by intro zz;exact Kf 0 I u41 I I I .tc u31 zz):P:=h k
theorem Gx (h:Q→P:=by intro zz;exact Km I (Kq I (bM I I I (by omega)) zz)):P:=h k
end
theorem Gy {P:Prop}(h:P:=by exact Rn I (.agg I .tc u37 I (by kernel_rfl) (.tmp I .nil)) fun w' hS => ⟨by rw [hr]; rfl, hS.below⟩):P:=h
theorem Gz {P:Prop}(h:P:=by exact R1 I I (by rw [hr]; rfl)):P:=h
theorem GA {P:Prop}(h:P:=by exact Rn I (.agg I .tc u37 I (by kernel_rfl) .nil) fun w' hS => ⟨by rw [hr]; rfl, hS.below⟩):P:=h
theorem GB {P:Prop}(h:P:=by exact Rn I (.tmp I (.agg I .tc u37 I (by kernel_rfl) (.agg I .tc u41 I (by kernel_rfl) (.tmp I .nil)))) fun w' hS => ⟨⟨none, 0, []⟩, by rw [hr]; rfl, by rw [hr]; rfl, by rw [hr]; exact eU hS⟩):P:=h
theorem GD {P:Prop}(h:P:=by exact Rn I .nil fun w' hS => ⟨⟨_, rfl⟩, gy, by rw [hfin]; exact hgy, by rw [hfin]; dsimp only; exact au _ hS⟩):P:=h
theorem GE {P:Prop}(h:P:=by exact R2 I I I (by rw [hr]; rfl)):P:=h
theorem GF {P:Prop}(h:P:=by exact R1 I I (by (simp [*, tup]; done))):P:=h
theorem GG {P:Prop}(h:P:=by exact WX.retM0 I (.agg I .tc u58 I (by kernel_rfl) (.tmp I .nil)) fun w' hS => gY hr hS):P:=h
theorem GH {P:Prop}(h:P:=by exact R1 I I (by rfl)):P:=h
theorem GI {P:Prop}(h:P:=by exact Rn I (.agg I .tc u37 I (by kernel_rfl) .nil) fun w' hS => ⟨by (simp [*, tup, mkZ]; done), hS.below⟩):P:=h
theorem GJ {P:Prop}(h:P:=by exact R1 I I (by rw [show decide (elG g x) = decide (x ≠ [] ∧ val x < val g.1 ∧ Nat.gcd (val x) (val g.1) = 1) from Af.2 hr]; (simp [*, tup]; done))):P:=h
theorem GK {P:Prop}(h:P:=by exact R1 I I (by rw [jo hil hok (by simpa using hc16)]; rfl)):P:=h
theorem GL {P:Prop}(h:P:=by exact WX.retM0 I (.tmp I (.tmp I .nil)) fun w' hS => ⟨⟨none, 0, []⟩, by rw [hr]; rfl, trivial, hS.below, by rw [hr]; exact Fc cU Fn⟩):P:=h
theorem GM {P:Prop}(h:P:=by exact R1 I I (by (simp [*, tup, dM]; done))):P:=h
theorem GN {P:Prop}(h:P:=by exact Rn I (.agg I .tc u37 I (by kernel_rfl) (.tmp I (.tmp I .nil))) fun w' hS => ⟨by rw [hr]; rfl, hS.below⟩):P:=h
theorem GO {P:Prop}(h:P:=by exact R1 I I (by (simp [*, tup, okZ]; done))):P:=h
theorem GP {P:Prop}(h:P:=by exact Rn I (.tmp I .nil) fun w' hS => ⟨false, rfl, fun h => (by cases h), hS.below, Fn⟩):P:=h
theorem GQ {P:Prop}(h:P:=by exact R2 I I I (by rw [aQ, Aa (by simp_all <;> omega)]; rfl)):P:=h
theorem GR {P:Prop}(h:P:=by exact R1 I I (by (exact rA (by omega)))):P:=h
theorem GS {P:Prop}(h:P:=by exact Rn I (.tmp I .nil) fun w' hS => ⟨by rw [dr, Ah hS256]; rfl, hS.below⟩):P:=h
theorem GT {P:Prop}(h:P:=by exact R3 I I I I (by rw [fE, Aa (by simp_all)]; rfl)):P:=h
theorem GU {P:Prop}(h:P:=by exact R2 I I I (by rw [addN, Aa (by simp_all)]; rfl)):P:=h
theorem GV {P:Prop}(h:P:=by exact R1 I I (by rw [eW hok]; rfl)):P:=h
theorem GW {P:Prop}(h:P:=by exact R2 I I I (by rw [jT, Aa (by simp_all)]; rfl)):P:=h
theorem GX {P:Prop}(h:P:=by exact R2 I I I (by rw [eP, Aa (by simp_all)]; rfl)):P:=h
theorem GY {P:Prop}(h:P:=by exact R2 I I I (by rw [bG, Aa (by simp_all)]; rfl)):P:=h
theorem GZ {P:Prop}(h:P:=by exact R1 I I (by rw [Aq hn]; rfl)):P:=h
theorem G0 {P:Prop}(h:P:=by exact R1 I I (by rw [eh, Aa (by simp_all)]; rfl)):P:=h
theorem G1 {P:Prop}(h:P:=by exact R1 I I (by rw [dA]; rfl)):P:=h
theorem G2 {P:Prop}(h:P:=by exact R1 I I (by simp [*, tup, jp, bT])):P:=h
end Go.Proofs.YtkdlonihbjhhoaaGreatDoor
