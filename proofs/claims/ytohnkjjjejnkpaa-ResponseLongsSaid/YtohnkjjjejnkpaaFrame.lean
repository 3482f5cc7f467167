/-
  Frames in plain lists: what Write, Size and Read answer. No program. No condition.
-/
import Derived.Test.YtohnkjjjejnkpaaCodec
namespace Go.Proofs.Ytohnkjjjejnkpaa

/-- The length of a frame, and the error. -/
def flen (p : List UInt8) : Nat × Nat := if 2097152 < p.length then (0, 5) else (p.length + 1, 0)
theorem flen_cases (p : List UInt8) : (2097152 < p.length ∧ (flen p).1 = 0 ∧ (flen p).2 = 5) ∨ (p.length ≤ 2097152 ∧ (flen p).1 = p.length + 1 ∧ (flen p).2 = 0) := by
  unfold flen
  by_cases h : 2097152 < p.length
  · rw [if_pos h]; exact .inl ⟨h, rfl, rfl⟩
  · rw [if_neg h]; exact .inr ⟨by omega, rfl, rfl⟩
def fsize (p : List UInt8) : Nat × Nat := if (flen p).2 ≠ 0 then (0, (flen p).2) else ((enc (flen p).1).length + (flen p).1, 0)
theorem fsize_bad {p : List UInt8} (h : (flen p).2 ≠ 0) : fsize p = (0, (flen p).2) := by rw [fsize, if_pos h]
theorem fsize_ok {p : List UInt8} (h : (flen p).2 = 0) : fsize p = ((enc (flen p).1).length + (flen p).1, 0) := by rw [fsize, if_neg (by omega)]
/-- The bytes of a frame, and the error. -/
def fwrite (x : UInt8) (p : List UInt8) : List UInt8 × Nat := if (flen p).2 ≠ 0 then ([], (flen p).2) else (enc (flen p).1 ++ [x] ++ p, 0)
theorem fwrite_bad {x : UInt8} {p : List UInt8} (h : (flen p).2 ≠ 0) : fwrite x p = ([], (flen p).2) := by rw [fwrite, if_pos h]
theorem fwrite_ok {x : UInt8} {p : List UInt8} (h : (flen p).2 = 0) : fwrite x p = (enc (flen p).1 ++ [x] ++ p, 0) := by rw [fwrite, if_neg (by omega)]
theorem fwrite_short {x : UInt8} {p : List UInt8} (h : p.length ≤ 2097152) : fwrite x p = (enc (p.length + 1) ++ [x] ++ p, 0) := by
  rcases flen_cases p with ⟨h1, _⟩ | ⟨_, h2, h3⟩
  · omega
  · rw [fwrite_ok h3, h2]
theorem fwrite_long {x : UInt8} {p : List UInt8} (h : 2097152 < p.length) : fwrite x p = ([], 5) := by
  rcases flen_cases p with ⟨_, _, h3⟩ | ⟨h1, _⟩
  · rw [fwrite_bad (by omega), h3]
  · omega
theorem fsize_fwrite (x : UInt8) (p : List UInt8) : fsize p = ((fwrite x p).1.length, (fwrite x p).2) := by
  by_cases h : (flen p).2 = 0
  · have hc := flen_cases p
    rw [fsize_ok h, fwrite_ok h]
    refine Prod.ext ?_ rfl
    show (enc (flen p).1).length + (flen p).1 = (enc (flen p).1 ++ [x] ++ p).length
    simp only [List.length_append, List.length_singleton]
    omega
  · rw [fsize_bad h, fwrite_bad h]; rfl

/-- The frame that bytes begin with: code and payload, size, error. -/
def fread (l : List UInt8) (most : Int) : (UInt8 × List UInt8) × Nat × Nat :=
  if most < 0 ∨ 2097152 < most then ((0, []), 0, 2)
  else if (vget l).2.2 = 4 then ((0, []), 0, 4)
  else if (vget l).2.2 ≠ 0 ∨ most + 1 < ((vget l).1 : Int) then ((0, []), 0, 5)
  else if (vget l).1 = 0 then ((0, []), 0, 6)
  else if l.length - (vget l).2.1 < (vget l).1 then ((0, []), 0, 4)
  else ((l.getD (vget l).2.1 0, (l.drop ((vget l).2.1 + 1)).take ((vget l).1 - 1)), (vget l).2.1 + (vget l).1, 0)
section
variable {l : List UInt8} {most : Int}
theorem fread_arg (h : most < 0 ∨ 2097152 < most) : fread l most = ((0, []), 0, 2) := by rw [fread, if_pos h]
theorem fread_short0 (h : 0 ≤ most ∧ most ≤ 2097152) (h1 : (vget l).2.2 = 4) : fread l most = ((0, []), 0, 4) := by rw [fread, if_neg (by omega), if_pos h1]
theorem fread_long (h : 0 ≤ most ∧ most ≤ 2097152) (h1 : ¬ (vget l).2.2 = 4) (h2 : (vget l).2.2 ≠ 0 ∨ most + 1 < ((vget l).1 : Int)) : fread l most = ((0, []), 0, 5) := by rw [fread, if_neg (by omega), if_neg h1, if_pos h2]
theorem fread_fmt (h : 0 ≤ most ∧ most ≤ 2097152) (h1 : (vget l).2.2 = 0) (h2 : (vget l).1 = 0) : fread l most = ((0, []), 0, 6) := by rw [fread, if_neg (by omega), if_neg (by omega), if_neg (by omega), if_pos h2]
theorem fread_short (h : 0 ≤ most ∧ most ≤ 2097152) (h1 : (vget l).2.2 = 0) (h2 : ¬ most + 1 < ((vget l).1 : Int)) (h3 : ¬ (vget l).1 = 0) (h4 : l.length - (vget l).2.1 < (vget l).1) : fread l most = ((0, []), 0, 4) := by
  rw [fread, if_neg (by omega), if_neg (by omega), if_neg (by omega), if_neg h3, if_pos h4]
theorem fread_ok (h : 0 ≤ most ∧ most ≤ 2097152) (h1 : (vget l).2.2 = 0) (h2 : ¬ most + 1 < ((vget l).1 : Int)) (h3 : ¬ (vget l).1 = 0) (h4 : ¬ l.length - (vget l).2.1 < (vget l).1) :
    fread l most = ((l.getD (vget l).2.1 0, (l.drop ((vget l).2.1 + 1)).take ((vget l).1 - 1)), (vget l).2.1 + (vget l).1, 0) := by
  rw [fread, if_neg (by omega), if_neg (by omega), if_neg (by omega), if_neg h3, if_neg h4]
theorem fread_props (l : List UInt8) (most : Int) : (fread l most).1.2.length ≤ l.length ∧ (fread l most).2.1 ≤ l.length ∧ (fread l most).2.2 ≤ 6 := by
  have hs := vget_size l
  unfold fread
  repeat' split
  all_goals simp
  all_goals omega
end

/-- Read inverts Write, whatever follows. -/
theorem fread_wire {x : UInt8} {p : List UInt8} {most : Int} (hp : (p.length : Int) ≤ most) (hm : most ≤ 2097152) (rest : List UInt8) :
    fread (enc (p.length + 1) ++ [x] ++ p ++ rest) most = ((x, p), (enc (p.length + 1)).length + (p.length + 1), 0) := by
  have h := vget_enc (n := p.length + 1) (by omega) ([x] ++ p ++ rest)
  simp only [List.append_assoc] at h ⊢
  have hok := fread_ok (l := enc (p.length + 1) ++ ([x] ++ (p ++ rest))) (most := most) (by omega) (by rw [h]) (by rw [h]; show ¬ most + 1 < ((p.length + 1 : Nat) : Int); omega) (by rw [h]; simp) (by rw [h]; simp)
  rw [hok, h]
  refine Prod.ext (Prod.ext ?_ ?_) rfl
  · simp [List.getD]
  · show ((enc (p.length + 1) ++ ([x] ++ (p ++ rest))).drop ((enc (p.length + 1)).length + 1)).take (p.length + 1 - 1) = p
    rw [← List.append_assoc, List.drop_left' (by simp), show p.length + 1 - 1 = p.length by omega, List.take_left']
    rfl

/-- By the number of the payload's bytes alone. -/
def fsizeN (n : Nat) : Nat × Nat := if 2097152 < n then (0, 5) else ((enc (n + 1)).length + (n + 1), 0)
theorem fsize_N (p : List UInt8) : fsize p = fsizeN p.length := by
  rcases flen_cases p with ⟨h1, h2, h3⟩ | ⟨h1, h2, h3⟩
  · rw [fsize_bad (by omega), h3, fsizeN, if_pos h1]
  · rw [fsize_ok h3, h2, fsizeN, if_neg (by omega)]

theorem vgetF_cut : ∀ (f n i acc j : Nat), i + f = 10 → acc < 128 ^ i → n * 128 ^ i + acc < 18446744073709551616 → j < (encF f n).length → vgetF i acc ((encF f n).take j) = (0, 0, 4)
  | 0, n, i, acc, j, hi, ha, hn, hj => by simp [encF] at hj
  | f + 1, n, i, acc, 0, hi, ha, hn, hj => by simp [vgetF]
  | f + 1, n, i, acc, j + 1, hi, ha, hn, hj => by
    have h9 : i = 9 → n ≤ 1 := by
      intro e
      subst e
      have h3 : (128 : Nat) ^ 9 = 9223372036854775808 := rfl
      rw [h3] at hn
      omega
    rw [encF_succ] at hj ⊢
    by_cases hs : n < 128
    · rw [if_pos hs] at hj; simp at hj
    · rw [if_neg hs] at hj ⊢
      rw [List.length_cons] at hj
      have hc : (UInt8.ofNat (128 + n % 128)).toNat = 128 + n % 128 := by rw [UInt8.toNat_ofNat']; omega
      have hd : n = n % 128 + 128 * (n / 128) := by omega
      have e1 : n * 128 ^ i = (n % 128) * 128 ^ i + (n / 128) * 128 ^ (i + 1) := by
        have h : n * 128 ^ i = (n % 128 + 128 * (n / 128)) * 128 ^ i := congrArg (fun z => z * 128 ^ i) hd
        rw [h, Nat.add_mul, Nat.pow_succ, Nat.mul_comm 128 (n / 128), Nat.mul_assoc, Nat.mul_comm 128]
      rw [List.take_succ_cons, vgetF, hc, if_neg (by rintro (⟨e, h⟩ | ⟨e, h⟩); have := h9 e; omega; omega), if_neg (by omega), show (128 + n % 128) % 128 = n % 128 by omega]
      exact vgetF_cut f (n / 128) (i + 1) (acc + (n % 128) * 128 ^ i) j (by omega) (acc_next acc n i ha) (by omega) (by omega)

theorem vget_cut {n j : Nat} (hn : n < 18446744073709551616) (hj : j < (enc n).length) : vget ((enc n).take j) = (0, 0, 4) :=
  vgetF_cut 10 n 0 0 j (by omega) (by simp) (by simpa using hn) hj

/-- No shorter beginning of a frame is one. -/
theorem fread_cut {x : UInt8} {p : List UInt8} {most : Int} {j : Nat} (hp : (p.length : Int) ≤ most) (hm : most ≤ 2097152) (hj : j < (enc (p.length + 1) ++ [x] ++ p).length) :
    fread ((enc (p.length + 1) ++ [x] ++ p).take j) most = ((0, []), 0, 4) := by
  rw [List.append_assoc] at hj ⊢
  by_cases h : j < (enc (p.length + 1)).length
  · rw [List.take_append_of_le_length (by omega)]
    exact fread_short0 (by omega) (by rw [vget_cut (by omega) h])
  · have e : (enc (p.length + 1) ++ ([x] ++ p)).take j = enc (p.length + 1) ++ ([x] ++ p).take (j - (enc (p.length + 1)).length) := by
      rw [List.take_append, List.take_of_length_le (by omega)]
    have hv := vget_enc (n := p.length + 1) (by omega) (([x] ++ p).take (j - (enc (p.length + 1)).length))
    rw [e]
    refine fread_short (by omega) (by rw [hv]) (by rw [hv]; show ¬ most + 1 < ((p.length + 1 : Nat) : Int); omega) (by rw [hv]; simp) ?_
    rw [hv]
    simp only [List.length_append, List.length_take, List.length_singleton] at hj ⊢
    omega
/-- A frame that is longer than may be. -/
theorem fread_more {x : UInt8} {p : List UInt8} {most : Int} (h0 : 0 ≤ most) (hm : most ≤ 2097152) (hp : most < (p.length : Int)) (hn : p.length ≤ 2097152) : fread (enc (p.length + 1) ++ [x] ++ p) most = ((0, []), 0, 5) := by
  have hv := vget_enc (n := p.length + 1) (by omega) ([x] ++ p)
  rw [List.append_assoc]
  refine fread_long (by omega) (by rw [hv]; simp) (.inr (by rw [hv]; show most + 1 < ((p.length + 1 : Nat) : Int); omega))
theorem fread_wire0 {x : UInt8} {p : List UInt8} {most : Int} (hp : (p.length : Int) ≤ most) (hm : most ≤ 2097152) :
    fread (enc (p.length + 1) ++ [x] ++ p) most = ((x, p), (enc (p.length + 1)).length + (p.length + 1), 0) := by
  have := fread_wire (x := x) hp hm []
  rwa [List.append_nil] at this

end Go.Proofs.Ytohnkjjjejnkpaa
