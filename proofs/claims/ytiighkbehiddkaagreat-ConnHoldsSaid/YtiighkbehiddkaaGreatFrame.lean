/-
 Frames in plain lists: what Write, Size and Read answer. No program. No condition.
-/
import Derived.Test.YtiighkbehiddkaaGreatCodec
namespace Go.Proofs.YtiighkbehiddkaaGreat
/-- The length of a frame, and the error. -/
def flen (p : List UInt8) : Nat × Nat := if 2097152 < p.length then (0, 5) else (p.length + 1, 0)
theorem flen_cases (p : List UInt8) : (2097152 < p.length ∧ (flen p).1 = 0 ∧ (flen p).2 = 5) ∨ (p.length ≤ 2097152 ∧ (flen p).1 = p.length + 1 ∧ (flen p).2 = 0) := by
 unfold flen
 by_cases h : 2097152 < p.length
 ·rw [if_pos h]; exact .inl ⟨h, rfl, rfl⟩
 ·rw [if_neg h]; exact .inr ⟨by omega, rfl, rfl⟩
/-- The bytes of a frame, and the error. -/
def fwrite (x : UInt8) (p : List UInt8) : List UInt8 × Nat := if (flen p).2 ≠ 0 then ([], (flen p).2) else (enc (flen p).1 ++ [x] ++ p, 0)
theorem fwrite_bad {x : UInt8} {p : List UInt8} (h : (flen p).2 ≠ 0) : fwrite x p = ([], (flen p).2) := by rw [fwrite, if_pos h]
theorem fwrite_ok {x : UInt8} {p : List UInt8} (h : (flen p).2 = 0) : fwrite x p = (enc (flen p).1 ++ [x] ++ p, 0) := by rw [fwrite, if_neg (by omega)]
theorem fwrite_short {x : UInt8} {p : List UInt8} (h : p.length ≤ 2097152) : fwrite x p = (enc (p.length + 1) ++ [x] ++ p, 0) := by
 rcases flen_cases p with ⟨h1, _⟩ | ⟨_, h2, h3⟩
 ·omega
 ·rw [fwrite_ok h3, h2]
theorem fwrite_long {x : UInt8} {p : List UInt8} (h : 2097152 < p.length) : fwrite x p = ([], 5) := by
 rcases flen_cases p with ⟨_, _, h3⟩ | ⟨h1, _⟩
 ·rw [fwrite_bad (by omega), h3]
 ·omega
/-- The frame that bytes begin with: code and payload, size, error. -/
def fread (l : List UInt8) (most : Int) : (UInt8 × List UInt8) × Nat × Nat :=
 if most < 0 ∨ 2097152 < most then ((0, []), 0, 2)
 else if (vget l).2.2 = 4 then ((0, []), 0, 4)
 else if (vget l).2.2 ≠ 0 ∨ most + 1 < ((vget l).1 : Int) then ((0, []), 0, 5)
 else if (vget l).1 = 0 then ((0, []), 0, 6)
 else if l.length - (vget l).2.1 < (vget l).1 then ((0, []), 0, 4)
 else ((l.getD (vget l).2.1 0, (l.drop ((vget l).2.1 + 1)).take ((vget l).1 - 1)), (vget l).2.1 + (vget l).1, 0)
section
variable {l : List UInt8} {most : Int}
theorem fread_arg (h : most < 0 ∨ 2097152 < most) : fread l most = ((0, []), 0, 2) := by rw [fread, if_pos h]
theorem fread_short0 (h : 0 ≤ most ∧ most ≤ 2097152) (h1 : (vget l).2.2 = 4) : fread l most = ((0, []), 0, 4) := by rw [fread, if_neg (by omega), if_pos h1]
theorem fread_long (h : 0 ≤ most ∧ most ≤ 2097152) (h1 : ¬ (vget l).2.2 = 4) (h2 : (vget l).2.2 ≠ 0 ∨ most + 1 < ((vget l).1 : Int)) : fread l most = ((0, []), 0, 5) := by rw [fread, if_neg (by omega), if_neg h1, if_pos h2]
theorem fread_fmt (h : 0 ≤ most ∧ most ≤ 2097152) (h1 : (vget l).2.2 = 0) (h2 : (vget l).1 = 0) : fread l most = ((0, []), 0, 6) := by rw [fread, if_neg (by omega), if_neg (by omega), if_neg (by omega), if_pos h2]
theorem fread_short (h : 0 ≤ most ∧ most ≤ 2097152) (h1 : (vget l).2.2 = 0) (h2 : ¬ most + 1 < ((vget l).1 : Int)) (h3 : ¬ (vget l).1 = 0) (h4 : l.length - (vget l).2.1 < (vget l).1) : fread l most = ((0, []), 0, 4) := by
 rw [fread, if_neg (by omega), if_neg (by omega), if_neg (by omega), if_neg h3, if_pos h4]
theorem fread_ok (h : 0 ≤ most ∧ most ≤ 2097152) (h1 : (vget l).2.2 = 0) (h2 : ¬ most + 1 < ((vget l).1 : Int)) (h3 : ¬ (vget l).1 = 0) (h4 : ¬ l.length - (vget l).2.1 < (vget l).1) :
  fread l most = ((l.getD (vget l).2.1 0, (l.drop ((vget l).2.1 + 1)).take ((vget l).1 - 1)), (vget l).2.1 + (vget l).1, 0) := by
 rw [fread, if_neg (by omega), if_neg (by omega), if_neg (by omega), if_neg h3, if_neg h4]
theorem fread_props (l : List UInt8) (most : Int) : (fread l most).1.2.length ≤ l.length ∧ (fread l most).2.1 ≤ l.length ∧ (fread l most).2.2 ≤ 6 := by
 have hs := vget_size l
 unfold fread
 repeat' split
 all_goals simp
 all_goals omega
end
end Go.Proofs.YtiighkbehiddkaaGreat