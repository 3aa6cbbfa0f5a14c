/-
  The journal, in plain terms: records, their reading, disks.
-/
import Derived.Test.YtijamoagkmjcjaaStr
namespace Go.Proofs.Ytijamoagkmjcjaa
set_option linter.unusedSimpArgs false
set_option linter.unusedVariables false
set_option maxRecDepth 20000

def four (n : Nat) : Bs := [UInt8.ofNat (n / 16777216), UInt8.ofNat (n / 65536), UInt8.ofNat (n / 256), UInt8.ofNat n]
def num4 (s : Bs) : Nat := (s.getD 0 default).toNat * 16777216 + (s.getD 1 default).toNat * 65536 + (s.getD 2 default).toNat * 256 + (s.getD 3 default).toNat
theorem four_len (n : Nat) : (four n).length = 4 := rfl
theorem num4_four (n : Nat) (t : Bs) (h : n < 4294967296) : num4 (four n ++ t) = n := by
  simp only [num4, four, List.cons_append, List.nil_append, List.getD_cons_zero, List.getD_cons_succ, UInt8.toNat_ofNat']
  omega
theorem num4_lt (s : Bs) : num4 s < 4294967296 := by
  have h0 := (s.getD 0 default).toNat_lt; have h1 := (s.getD 1 default).toNat_lt; have h2 := (s.getD 2 default).toNat_lt; have h3 := (s.getD 3 default).toNat_lt
  unfold num4; omega

def headJ (k : UInt8) (c : Bs) : Bs := k :: (four c.length ++ c)
def recJ (k : UInt8) (c : Bs) : Bs := headJ k c ++ sha (headJ k c)
theorem headJ_len (k : UInt8) (c : Bs) : (headJ k c).length = c.length + 5 := by simp [headJ, four_len]; omega
theorem recJ_len (k : UInt8) (c : Bs) : (recJ k c).length = c.length + 37 := by simp [recJ, headJ_len, sha_len]
def listJ (l : List Bs) : Bs := l.flatMap fun s => four s.length ++ s

/-- a list of entries, read back; false: it is none -/
def unlF : Nat → Bs → List Bs → List Bs × Bool
  | 0, _, acc => (acc, false)
  | f + 1, s, acc => if s = [] then (acc, true) else if s.length < 4 ∨ 65536 < num4 s ∨ s.length < 4 + num4 s ∨ acc.length = 4096 then (acc, false) else unlF f (s.drop (4 + num4 s)) (acc ++ [(s.drop 4).take (num4 s)])
def unl (s : Bs) : List Bs × Bool := unlF (s.length + 1) s []
theorem unlF_fuel : ∀ (f g : Nat) (s : Bs) (acc : List Bs), s.length < f → s.length < g → unlF f s acc = unlF g s acc
  | 0, g, s, acc, h, _ => by omega
  | f + 1, 0, s, acc, _, h => by omega
  | f + 1, g + 1, s, acc, h1, h2 => by
    unfold unlF
    split
    · rfl
    · split
      · rfl
      · rename_i h3 h4
        exact unlF_fuel f g _ _ (by simp; omega) (by simp; omega)
theorem unlF_len : ∀ (f : Nat) (s : Bs) (acc : List Bs), acc.length ≤ 4096 → (unlF f s acc).1.length ≤ 4096
  | 0, s, acc, h => h
  | f + 1, s, acc, h => by
    unfold unlF
    split
    · exact h
    · split
      · exact h
      · exact unlF_len f _ _ (by simp; omega)

/-- what stands at the beginning -/
inductive R1 where
  | stop
  | err (e : Int)
  | item (k : UInt8) (c : Bs)
def firstJ (s : Bs) : R1 :=
  if s.length < 5 then .stop
  else if (s.getD 0 default ≠ 69 ∧ s.getD 0 default ≠ 82) ∨ 16777216 < num4 (s.drop 1) then .err 3
  else if s.length < 37 + num4 (s.drop 1) then .stop
  else if sha (s.take (5 + num4 (s.drop 1))) ≠ (s.drop (5 + num4 (s.drop 1))).take 32 then .err 25
  else .item (s.getD 0 default) ((s.drop 5).take (num4 (s.drop 1)))
/-- the entries behind a record, or an error -/
def applyJ (k : UInt8) (c : Bs) (out : List Bs) : Int × List Bs :=
  if k = 69 then (if 65536 < c.length then (3, []) else if 4096 < (out ++ [c]).length then (6, []) else (0, out ++ [c]))
  else if (unl c).2 = false then (3, []) else (0, (unl c).1)
/-- the reading from a position on: an error, the entries, where they begin and where the reading ends -/
def openF (s : Bs) : Nat → Nat → Nat → List Bs → Int × List Bs × Nat × Nat
  | 0, at_, fr, out => (0, out, fr, at_)
  | f + 1, at_, fr, out => match firstJ (s.drop at_) with
    | .stop => (0, out, fr, at_)
    | .err e => (e, [], 0, 0)
    | .item k c => if (applyJ k c out).1 ≠ 0 then ((applyJ k c out).1, [], 0, 0) else openF s f (at_ + 37 + c.length) (if k = 69 then fr else at_) (applyJ k c out).2

/-- a disk -/
structure Dk where
  safe : Bs
  pend : List Bs
  crash : Bool
def Dk.zero : Dk := ⟨[], [], false⟩
def appendD (d : Dk) (e : Bs) : Dk × Int := if d.crash then (.zero, 27) else if 65536 < e.length then (.zero, 5) else (⟨d.safe, d.pend ++ [recJ 69 e], false⟩, 0)
def compactD (d : Dk) (l : List Bs) : Dk × Int :=
  if d.crash then (.zero, 27) else if 4096 < l.length then (.zero, 6) else if l.any (fun s => decide (65536 < s.length)) then (.zero, 5) else if 16777216 < (listJ l).length then (.zero, 5)
  else (⟨d.safe, d.pend ++ [recJ 82 (listJ l)], false⟩, 0)
def syncD (d : Dk) : Dk × Int := if d.crash then (.zero, 27) else (⟨d.safe ++ d.pend.flatten, [], false⟩, 0)
def crashD (d : Dk) (kept bytes : Int) : Dk × Int :=
  if d.crash then (.zero, 27) else if kept < 0 ∨ (d.pend.length : Int) < kept then (.zero, 2) else if bytes < 0 ∨ ((d.pend.getD kept.toNat default).length : Int) < bytes then (.zero, 2)
  else (⟨d.safe ++ (d.pend.take kept.toNat).flatten ++ (d.pend.getD kept.toNat default).take bytes.toNat, [], true⟩, 0)
def openR (d : Dk) : Int × List Bs × Nat × Nat := if d.pend ≠ [] then (26, [], 0, 0) else openF d.safe (d.safe.length + 1) 0 0 []
def openD (d : Dk) : List Bs × Dk × Int :=
  ((openR d).2.1, (if (openR d).1 = 0 then ⟨(d.safe.take (openR d).2.2.2).drop (openR d).2.2.1, [], false⟩ else .zero), (openR d).1)
end Go.Proofs.Ytijamoagkmjcjaa
