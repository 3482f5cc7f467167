/-
 Get inverts Put, and Put inverts Get: plain lists, no program. No condition.
-/
import Derived.Test.YtiighkbehiddkaaGreatPlain
namespace Go.Proofs.YtiighkbehiddkaaGreat
theorem vgetF_inv : ∀ (l : List UInt8) (i acc N s : Nat), i ≤ 9 → acc < 128 ^ i → vgetF i acc l = (N, s, 0) → ∃ m, N = acc + m * 128 ^ i ∧ i ≤ s ∧ encF (10 - i) m = l.take (s - i) ∧ (0 < i → 0 < m)
 | [], i, acc, N, s, hi, ha, h => by simp [vgetF] at h
 | c :: cs, i, acc, N, s, hi, ha, h => by
  rw [vgetF] at h
  split at h
  ·simp at h
  ·rename_i hb
   split at h
   ·rename_i hlt
    simp only [Prod.mk.injEq, and_true] at h
    obtain ⟨h1, h2⟩ := h
    refine ⟨c.toNat, h1.symm, by omega, ?_, fun h0 => by omega⟩
    rw [show 10 - i = (9 - i) + 1 by omega, encF_succ, if_pos hlt, ← h2, show i + 1 - i = 1 by omega]
    simp
   ·rename_i hge
    have hlt := c.toNat_lt
    obtain ⟨m, h1, h2, h3, h4⟩ := vgetF_inv cs (i + 1) _ N s (by omega) (acc_next acc c.toNat i ha) h
    have h5 := h4 (by omega)
    refine ⟨c.toNat % 128 + 128 * m, ?_, by omega, ?_, fun _ => by omega⟩
    ·rw [h1, Nat.add_mul, Nat.pow_succ, Nat.mul_comm 128 m, Nat.mul_assoc, Nat.mul_comm 128, Nat.add_assoc]
    ·rw [show 10 - i = (9 - i) + 1 by omega, encF_succ, if_neg (by omega), show (c.toNat % 128 + 128 * m) / 128 = m by omega, show (c.toNat % 128 + 128 * m) % 128 = c.toNat % 128 by omega,
      show 9 - i = 10 - (i + 1) by omega, h3, show s - i = (s - (i + 1)) + 1 by omega, List.take_succ_cons]
     have : 128 + c.toNat % 128 = c.toNat := by omega
     rw [this]
     simp
theorem vget_inv {l : List UInt8} (h : (vget l).2.2 = 0) : enc (vget l).1 = l.take (vget l).2.1 := by
 obtain ⟨m, h1, _, h3, _⟩ := vgetF_inv l 0 0 (vget l).1 (vget l).2.1 (by omega) (by simp) (by show vget l = _; exact Prod.ext rfl (Prod.ext rfl h))
 have : (vget l).1 = m := by simpa using h1
 rw [this]
 simpa [enc] using h3
end Go.Proofs.YtiighkbehiddkaaGreat