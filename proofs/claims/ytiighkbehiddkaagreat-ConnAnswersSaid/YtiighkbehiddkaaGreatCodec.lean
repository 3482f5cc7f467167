/-
 Get inverts Put, and Put inverts Get: plain lists, no program. No condition.
-/
import Derived.Test.YtiighkbehiddkaaGreatPlain
namespace Go.Proofs.YtiighkbehiddkaaGreat
theorem vgetF_enc : ∀ (f n i acc : Nat) (rest : List UInt8), i + f = 10 → acc < 128 ^ i → n * 128 ^ i + acc < 18446744073709551616 → (0 < i → 0 < n) →
  vgetF i acc (encF f n ++ rest) = (acc + n * 128 ^ i, i + (encF f n).length, 0)
 | 0, n, i, acc, rest, hi, ha, hn, h0 => by
  have e : i = 10 := by omega
  subst e
  have h1 := h0 (by omega)
  have h2 : 1 * 128 ^ 10 ≤ n * 128 ^ 10 := Nat.mul_le_mul_right _ h1
  have h3 : (128 : Nat) ^ 10 = 1180591620717411303424 := rfl
  omega
 | f + 1, n, i, acc, rest, hi, ha, hn, h0 => by
  have h9 : i = 9 → n ≤ 1 := by
   intro e
   subst e
   have h3 : (128 : Nat) ^ 9 = 9223372036854775808 := rfl
   rw [h3] at hn
   omega
  rw [encF_succ]
  by_cases hs : n < 128
  ·rw [if_pos hs]
   have hc : (UInt8.ofNat n).toNat = n := by rw [UInt8.toNat_ofNat']; omega
   rw [List.singleton_append, vgetF, hc, if_neg (by rintro (⟨e, h⟩ | ⟨e, h⟩); have := h9 e; omega; have := h0 e; omega), if_pos hs]
   rfl
  ·rw [if_neg hs]
   have hc : (UInt8.ofNat (128 + n % 128)).toNat = 128 + n % 128 := by rw [UInt8.toNat_ofNat']; omega
   have hd : n = n % 128 + 128 * (n / 128) := by omega
   have e1 : n * 128 ^ i = (n % 128) * 128 ^ i + (n / 128) * 128 ^ (i + 1) := by
    have h : n * 128 ^ i = (n % 128 + 128 * (n / 128)) * 128 ^ i := congrArg (fun z => z * 128 ^ i) hd
    rw [h, Nat.add_mul, Nat.pow_succ, Nat.mul_comm 128 (n / 128), Nat.mul_assoc, Nat.mul_comm 128]
   rw [List.cons_append, vgetF, hc, if_neg (by rintro (⟨e, h⟩ | ⟨e, h⟩); have := h9 e; omega; omega), if_neg (by omega), show (128 + n % 128) % 128 = n % 128 by omega]
   rw [vgetF_enc f (n / 128) (i + 1) (acc + (n % 128) * 128 ^ i) rest (by omega) (acc_next acc n i ha) (by omega) (fun _ => by omega)]
   refine Prod.ext ?_ (Prod.ext ?_ rfl)
   ·show acc + n % 128 * 128 ^ i + n / 128 * 128 ^ (i + 1) = acc + n * 128 ^ i
    omega
   ·show i + 1 + (encF f (n / 128)).length = i + (_ :: encF f (n / 128)).length
    rw [List.length_cons]
    omega
theorem vget_enc {n : Nat} (hn : n < 18446744073709551616) (rest : List UInt8) : vget (enc n ++ rest) = (n, (enc n).length, 0) := by
 have := vgetF_enc 10 n 0 0 rest (by omega) (by simp) (by simpa using hn) (by omega)
 simpa [vget, enc] using this
theorem vpart_enc {b : List UInt8} {most : Int} (hb : (b.length : Int) ≤ most) (hn : b.length < 18446744073709551616) (rest : List UInt8) : vpart (enc b.length ++ (b ++ rest)) most = (b, (enc b.length).length + b.length, 0) := by
 have h := vget_enc hn (b ++ rest)
 have hok := vpart_ok (l := enc b.length ++ (b ++ rest)) (most := most) (by omega) (by rw [h]; simp) (by rw [h]; simp; omega) (by rw [h]; simp)
 rw [hok, h]
 simp
theorem drop_enc2 (b r : List UInt8) : (enc b.length ++ (b ++ r)).drop ((enc b.length).length + b.length) = r := by
 rw [← List.append_assoc, List.drop_left' (by simp)]
end Go.Proofs.YtiighkbehiddkaaGreat