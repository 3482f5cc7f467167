/-
  Get inverts Put, and Put inverts Get: plain lists, no program. No condition.
-/
import Derived.Test.YtohnkjjjejnkpaaPlain
namespace Go.Proofs.Ytohnkjjjejnkpaa

theorem vgetF_enc : ∀ (f n i acc : Nat) (rest : List UInt8), i + f = 10 → acc < 128 ^ i → n * 128 ^ i + acc < 18446744073709551616 → (0 < i → 0 < n) →
    vgetF i acc (encF f n ++ rest) = (acc + n * 128 ^ i, i + (encF f n).length, 0)
  | 0, n, i, acc, rest, hi, ha, hn, h0 => by
    have e : i = 10 := by omega
    subst e
    have h1 := h0 (by omega)
    have h2 : 1 * 128 ^ 10 ≤ n * 128 ^ 10 := Nat.mul_le_mul_right _ h1
    have h3 : (128 : Nat) ^ 10 = 1180591620717411303424 := rfl
    omega
  | f + 1, n, i, acc, rest, hi, ha, hn, h0 => by
    have h9 : i = 9 → n ≤ 1 := by
      intro e
      subst e
      have h3 : (128 : Nat) ^ 9 = 9223372036854775808 := rfl
      rw [h3] at hn
      omega
    rw [encF_succ]
    by_cases hs : n < 128
    · rw [if_pos hs]
      have hc : (UInt8.ofNat n).toNat = n := by rw [UInt8.toNat_ofNat']; omega
      rw [List.singleton_append, vgetF, hc, if_neg (by rintro (⟨e, h⟩ | ⟨e, h⟩); have := h9 e; omega; have := h0 e; omega), if_pos hs]
      rfl
    · rw [if_neg hs]
      have hc : (UInt8.ofNat (128 + n % 128)).toNat = 128 + n % 128 := by rw [UInt8.toNat_ofNat']; omega
      have hd : n = n % 128 + 128 * (n / 128) := by omega
      have e1 : n * 128 ^ i = (n % 128) * 128 ^ i + (n / 128) * 128 ^ (i + 1) := by
        have h : n * 128 ^ i = (n % 128 + 128 * (n / 128)) * 128 ^ i := congrArg (fun z => z * 128 ^ i) hd
        rw [h, Nat.add_mul, Nat.pow_succ, Nat.mul_comm 128 (n / 128), Nat.mul_assoc, Nat.mul_comm 128]
      rw [List.cons_append, vgetF, hc, if_neg (by rintro (⟨e, h⟩ | ⟨e, h⟩); have := h9 e; omega; omega), if_neg (by omega), show (128 + n % 128) % 128 = n % 128 by omega]
      rw [vgetF_enc f (n / 128) (i + 1) (acc + (n % 128) * 128 ^ i) rest (by omega) (acc_next acc n i ha) (by omega) (fun _ => by omega)]
      refine Prod.ext ?_ (Prod.ext ?_ rfl)
      · show acc + n % 128 * 128 ^ i + n / 128 * 128 ^ (i + 1) = acc + n * 128 ^ i
        omega
      · show i + 1 + (encF f (n / 128)).length = i + (_ :: encF f (n / 128)).length
        rw [List.length_cons]
        omega

theorem vget_enc {n : Nat} (hn : n < 18446744073709551616) (rest : List UInt8) : vget (enc n ++ rest) = (n, (enc n).length, 0) := by
  have := vgetF_enc 10 n 0 0 rest (by omega) (by simp) (by simpa using hn) (by omega)
  simpa [vget, enc] using this

theorem vgetF_inv : ∀ (l : List UInt8) (i acc N s : Nat), i ≤ 9 → acc < 128 ^ i → vgetF i acc l = (N, s, 0) → ∃ m, N = acc + m * 128 ^ i ∧ i ≤ s ∧ encF (10 - i) m = l.take (s - i) ∧ (0 < i → 0 < m)
  | [], i, acc, N, s, hi, ha, h => by simp [vgetF] at h
  | c :: cs, i, acc, N, s, hi, ha, h => by
    rw [vgetF] at h
    split at h
    · simp at h
    · rename_i hb
      split at h
      · rename_i hlt
        simp only [Prod.mk.injEq, and_true] at h
        obtain ⟨h1, h2⟩ := h
        refine ⟨c.toNat, h1.symm, by omega, ?_, fun h0 => by omega⟩
        rw [show 10 - i = (9 - i) + 1 by omega, encF_succ, if_pos hlt, ← h2, show i + 1 - i = 1 by omega]
        simp
      · rename_i hge
        have hlt := c.toNat_lt
        obtain ⟨m, h1, h2, h3, h4⟩ := vgetF_inv cs (i + 1) _ N s (by omega) (acc_next acc c.toNat i ha) h
        have h5 := h4 (by omega)
        refine ⟨c.toNat % 128 + 128 * m, ?_, by omega, ?_, fun _ => by omega⟩
        · rw [h1, Nat.add_mul, Nat.pow_succ, Nat.mul_comm 128 m, Nat.mul_assoc, Nat.mul_comm 128, Nat.add_assoc]
        · rw [show 10 - i = (9 - i) + 1 by omega, encF_succ, if_neg (by omega), show (c.toNat % 128 + 128 * m) / 128 = m by omega, show (c.toNat % 128 + 128 * m) % 128 = c.toNat % 128 by omega,
            show 9 - i = 10 - (i + 1) by omega, h3, show s - i = (s - (i + 1)) + 1 by omega, List.take_succ_cons]
          have : 128 + c.toNat % 128 = c.toNat := by omega
          rw [this]
          simp

theorem vget_inv {l : List UInt8} (h : (vget l).2.2 = 0) : enc (vget l).1 = l.take (vget l).2.1 := by
  obtain ⟨m, h1, _, h3, _⟩ := vgetF_inv l 0 0 (vget l).1 (vget l).2.1 (by omega) (by simp) (by show vget l = _; exact Prod.ext rfl (Prod.ext rfl h))
  have : (vget l).1 = m := by simpa using h1
  rw [this]
  simpa [enc] using h3

theorem vpart_enc {b : List UInt8} {most : Int} (hb : (b.length : Int) ≤ most) (hn : b.length < 18446744073709551616) (rest : List UInt8) : vpart (enc b.length ++ (b ++ rest)) most = (b, (enc b.length).length + b.length, 0) := by
  have h := vget_enc hn (b ++ rest)
  have hok := vpart_ok (l := enc b.length ++ (b ++ rest)) (most := most) (by omega) (by rw [h]; simp) (by rw [h]; simp; omega) (by rw [h]; simp)
  rw [hok, h]
  simp

theorem drop_enc2 (b r : List UInt8) : (enc b.length ++ (b ++ r)).drop ((enc b.length).length + b.length) = r := by
  rw [← List.append_assoc, List.drop_left' (by simp)]

end Go.Proofs.Ytohnkjjjejnkpaa
