/-
 Plain mathematics: numbers in groups of seven bits, as lists of bytes. No program in sight. No condition.
-/
import Derived.Laws.BitsAllLaws
import Derived.Test.YtiighkbehiddkaaGreatMake
namespace Go.Proofs.YtiighkbehiddkaaGreat
theorem wi64 {x : Int} (h1 : -9223372036854775808 ≤ x) (h2 : x ≤ 9223372036854775807) : IntKind.i64.wrap x = x := by rw [IntKind.wrap_i64]; omega
theorem wu64 {x : Int} (h1 : 0 ≤ x) (h2 : x ≤ 18446744073709551615) : IntKind.u64.wrap x = x := by
 simp only [IntKind.wrap, IntKind.signed, IntKind.bits]
 simp
 omega
theorem wu8 {x : Int} (h1 : 0 ≤ x) (h2 : x ≤ 255) : IntKind.u8.wrap x = x := by
 simp only [IntKind.wrap, IntKind.signed, IntKind.bits]
 simp
 omega
theorem wu8m (x : Int) : IntKind.u8.wrap x = x % 256 := by
 simp only [IntKind.wrap, IntKind.signed, IntKind.bits]
 simp
theorem bt {p : Prop} {_ : Decidable p} (h : p) : Value.bool (decide p) = .bool true := congrArg Value.bool (decide_eq_true h)
theorem bf {p : Prop} {_ : Decidable p} (h : ¬ p) : Value.bool (decide p) = .bool false := congrArg Value.bool (decide_eq_false h)
/-- The number that bytes begin with, from its i-th group on: number, size, error. -/
def vgetF (i acc : Nat) : List UInt8 → Nat × Nat × Nat
 | [] => (0, 0, 4)
 | c :: cs =>
  if (i = 9 ∧ 1 < c.toNat) ∨ (0 < i ∧ c.toNat = 0) then (0, 0, 6)
  else if c.toNat < 128 then (acc + c.toNat * 128 ^ i, i + 1, 0)
  else vgetF (i + 1) (acc + (c.toNat % 128) * 128 ^ i) cs
def vget (l : List UInt8) : Nat × Nat × Nat := vgetF 0 0 l
/-- The encoding of a number, with fuel. -/
def encF : Nat → Nat → List UInt8
 | 0, _ => []
 | f + 1, n => if n < 128 then [UInt8.ofNat n] else UInt8.ofNat (128 + n % 128) :: encF f (n / 128)
def enc (n : Nat) : List UInt8 := encF 10 n
theorem vgetF_props : ∀ (l : List UInt8) (i acc : Nat), i ≤ 9 → acc < 128 ^ i →
  (vgetF i acc l).1 < 18446744073709551616 ∧ (vgetF i acc l).2.1 ≤ i + l.length ∧ ((vgetF i acc l).2.2 = 0 ∨ (vgetF i acc l).2.2 = 4 ∨ (vgetF i acc l).2.2 = 6) ∧
  ((vgetF i acc l).2.2 ≠ 0 → (vgetF i acc l).1 = 0 ∧ (vgetF i acc l).2.1 = 0) ∧ ((vgetF i acc l).2.2 = 0 → i + 1 ≤ (vgetF i acc l).2.1 ∧ (vgetF i acc l).2.1 ≤ 10)
 | [], i, acc, _, _ => by simp [vgetF]
 | c :: cs, i, acc, hi, ha => by
  have hc := c.toNat_lt
  simp only [vgetF, List.length_cons]
  have h9 : i ≤ 8 → 128 ^ i ≤ 72057594037927936 := fun h => by
   have := Nat.pow_le_pow_right (n := 128) (by omega) h; simpa using this
  have h99 : i = 9 → 128 ^ i = 9223372036854775808 := fun h => by subst h; rfl
  split
  ·simp
  ·rename_i hb
   split
   ·rename_i hlt
    refine ⟨?_, by show i + 1 ≤ i + (cs.length + 1); omega, by simp, by simp, fun _ => ⟨by simp, by show i + 1 ≤ 10; omega⟩⟩
    by_cases e : i = 9
    ·have hc1 : c.toNat ≤ 1 := by omega
     have := h99 e
     simp only
     have : c.toNat * 128 ^ i ≤ 1 * 128 ^ i := Nat.mul_le_mul_right _ hc1
     omega
    ·have := h9 (by omega)
     simp only
     have : c.toNat * 128 ^ i ≤ 127 * 128 ^ i := Nat.mul_le_mul_right _ (by omega)
     omega
   ·rename_i hge
    have hi8 : i ≤ 8 := by omega
    have hp : 128 ^ (i + 1) = 128 ^ i * 128 := Nat.pow_succ _ _
    have hm : (c.toNat % 128) * 128 ^ i ≤ 127 * 128 ^ i := Nat.mul_le_mul_right _ (by omega)
    have ih := vgetF_props cs (i + 1) (acc + (c.toNat % 128) * 128 ^ i) (by omega) (by omega)
    obtain ⟨h1, h2, h3, h4, h5⟩ := ih
    exact ⟨h1, by omega, h3, h4, fun h => ⟨by have := (h5 h).1; omega, (h5 h).2⟩⟩
theorem vget_lt (l : List UInt8) : (vget l).1 < 18446744073709551616 := (vgetF_props l 0 0 (by omega) (by simp)).1
theorem vget_size (l : List UInt8) : (vget l).2.1 ≤ l.length := by have := (vgetF_props l 0 0 (by omega) (by simp)).2.1; simpa [vget] using this
theorem vget_err (l : List UInt8) : (vget l).2.2 = 0 ∨ (vget l).2.2 = 4 ∨ (vget l).2.2 = 6 := (vgetF_props l 0 0 (by omega) (by simp)).2.2.1
theorem vget_bad (l : List UInt8) (h : (vget l).2.2 ≠ 0) : (vget l).1 = 0 ∧ (vget l).2.1 = 0 := (vgetF_props l 0 0 (by omega) (by simp)).2.2.2.1 h
theorem vget_ok (l : List UInt8) (h : (vget l).2.2 = 0) : 1 ≤ (vget l).2.1 ∧ (vget l).2.1 ≤ 10 := by have := (vgetF_props l 0 0 (by omega) (by simp)).2.2.2.2 h; simpa [vget] using this
/-- One round of a reader's loop. -/
theorem vgetF_step (l : List UInt8) (i acc : Nat) (hi : i < l.length) :
  vgetF i acc (l.drop i) = if (i = 9 ∧ 1 < (l.getD i 0).toNat) ∨ (0 < i ∧ (l.getD i 0).toNat = 0) then (0, 0, 6)
   else if (l.getD i 0).toNat < 128 then (acc + (l.getD i 0).toNat * 128 ^ i, i + 1, 0)
   else vgetF (i + 1) (acc + ((l.getD i 0).toNat % 128) * 128 ^ i) (l.drop (i + 1)) := by
 rw [List.drop_eq_getElem_cons hi, vgetF]
 simp [List.getD, hi]
/-- The bits of a program's number and the sums of a reference's are the same. -/
theorem or_add (acc c i : Nat) (ha : acc < 128 ^ i) : acc ||| c * 128 ^ i = acc + c * 128 ^ i := by
 have e : (128 : Nat) ^ i = 2 ^ (7 * i) := by rw [Nat.pow_mul]
 rw [e] at ha ⊢
 have := Nat.two_pow_add_eq_or_of_lt ha c
 rw [Nat.or_comm, Nat.mul_comm c, ← this, Nat.add_comm]
theorem pow_le (i : Nat) (h : i ≤ 9) : 128 ^ i ≤ 9223372036854775808 := by
 have := Nat.pow_le_pow_right (n := 128) (by omega) h; simpa using this
theorem and127 (c : Nat) (h : c < 256) : bits .and .u8 (c : Int) 127 = ((c % 128 : Nat) : Int) := by
 have := u8_and_nat c 127 h (by omega)
 rw [show ((127 : Nat) : Int) = 127 from rfl] at this
 rw [this]
 congr 1
 exact Nat.and_two_pow_sub_one_eq_mod c 7
theorem or128 (n : Nat) : bits .or .u8 ((n % 256 : Nat) : Int) 128 = ((128 + n % 128 : Nat) : Int) := by
 have hb : bits .or .u8 ((n % 256 : Nat) : Int) ((128 : Nat) : Int) = ((n % 256 ||| 128 : Nat) : Int) := u8_or_nat (n % 256) 128 (by omega) (by omega)
 rw [show ((128 : Nat) : Int) = 128 from rfl] at hb
 rw [hb]
 congr 1
 have h7 : n % 128 < 2 ^ 7 := by omega
 have := Nat.two_pow_add_eq_or_of_lt h7 1
 by_cases h : n % 256 < 128
 ·have e : n % 256 = n % 128 := by omega
  rw [e, Nat.or_comm]
  simpa using this.symm
 ·have e : n % 256 = 128 + n % 128 := by omega
  have e2 : (128 + n % 128) = (2 ^ 7 * 1 ||| n % 128) := by simpa using this
  rw [e, e2, Nat.or_comm, ← Nat.or_assoc]
  simp
theorem tmodN (a b : Nat) : (a : Int).tmod (b : Int) = ((a % b : Nat) : Int) := rfl
theorem tdivN (a b : Nat) : (a : Int).tdiv (b : Int) = ((a / b : Nat) : Int) := rfl
theorem addN (a b : Nat) (h : a + b ≤ 18446744073709551615) : IntKind.u64.wrap ((a : Int) + (b : Int)) = ((a + b : Nat) : Int) := by
 rw [← Int.natCast_add]; exact wu64 (by omega) (by omega)
theorem wu8n (m : Nat) : IntKind.u8.wrap (m : Int) = ((m % 256 : Nat) : Int) := by rw [wu8m]; omega
theorem wu8o (m : Nat) : IntKind.u8.wrap (m : Int) = ((UInt8.ofNat m).toNat : Int) := by rw [wu8n]; simp
theorem or128b (m : Nat) : bits .or .u8 ((m % 256 : Nat) : Int) 128 = ((UInt8.ofNat (128 + m % 128)).toNat : Int) := by
 rw [or128]
 congr 1
 simp
 omega
theorem shr7 (m : Nat) : (m : Int) / 2 ^ (7 : Int).toNat = ((m / 128 : Nat) : Int) := by
 rw [show (7 : Int).toNat = 7 from rfl]
 omega
/-- uint64(c) << (7 * i) behind an or. -/
theorem or_shl (acc c i : Nat) (hi : i ≤ 9) (ha : acc < 128 ^ i) (hc : acc + c * 128 ^ i < 18446744073709551616) :
  bits .or .u64 (acc : Int) (IntKind.u64.wrap ((c : Int) * 2 ^ (7 * (i : Int)).toNat)) = ((acc + c * 128 ^ i : Nat) : Int) := by
 have e : ((c : Int) * 2 ^ (7 * (i : Int)).toNat) = ((c * 128 ^ i : Nat) : Int) := by
  have h1 : (7 * (i : Int)).toNat = 7 * i := by omega
  rw [h1, Int.natCast_mul]
  congr 1
  rw [show (128 : Nat) ^ i = 2 ^ (7 * i) by rw [Nat.pow_mul]]
  simp
 have hp := pow_le i hi
 rw [e, wu64 (by omega) (by omega), u64_or_nat acc (c * 128 ^ i) (by omega) (by omega), or_add acc c i ha]
theorem get_end (l : List UInt8) (k acc : Nat) (h : l.length ≤ k) : vgetF k acc (l.drop k) = (0, 0, 4) := by
 rw [List.drop_of_length_le h]; rfl
theorem get_bad (l : List UInt8) (k acc : Nat) (h : k < l.length) (hb : (k = 9 ∧ 1 < (l.getD k 0).toNat) ∨ (0 < k ∧ (l.getD k 0).toNat = 0)) : vgetF k acc (l.drop k) = (0, 0, 6) := by
 rw [vgetF_step l k acc h, if_pos hb]
theorem get_done (l : List UInt8) (k acc : Nat) (h : k < l.length) (hk : k ≤ 9) (ha : acc < 128 ^ k) (hb : ¬ ((k = 9 ∧ 1 < (l.getD k 0).toNat) ∨ (0 < k ∧ (l.getD k 0).toNat = 0))) (hlt : (l.getD k 0).toNat < 128) :
  vgetF k acc (l.drop k) = (acc + (l.getD k 0).toNat * 128 ^ k, k + 1, 0) ∧ acc + (l.getD k 0).toNat * 128 ^ k < 18446744073709551616 := by
 have e : vgetF k acc (l.drop k) = (acc + (l.getD k 0).toNat * 128 ^ k, k + 1, 0) := by rw [vgetF_step l k acc h, if_neg hb, if_pos hlt]
 refine ⟨e, ?_⟩
 have := (vgetF_props (l.drop k) k acc hk ha).1
 rw [e] at this
 exact this
theorem acc_next (acc x k : Nat) (ha : acc < 128 ^ k) : acc + (x % 128) * 128 ^ k < 128 ^ (k + 1) := by
 have hm : (x % 128) * 128 ^ k ≤ 127 * 128 ^ k := Nat.mul_le_mul_right _ (by omega)
 rw [Nat.pow_succ]
 omega
theorem get_go (l : List UInt8) (k acc : Nat) (h : k < l.length) (hk : k ≤ 9) (ha : acc < 128 ^ k) (hb : ¬ ((k = 9 ∧ 1 < (l.getD k 0).toNat) ∨ (0 < k ∧ (l.getD k 0).toNat = 0))) (hlt : ¬ (l.getD k 0).toNat < 128) :
  vgetF k acc (l.drop k) = vgetF (k + 1) (acc + ((l.getD k 0).toNat % 128) * 128 ^ k) (l.drop (k + 1)) ∧ k ≤ 8 ∧ acc + ((l.getD k 0).toNat % 128) * 128 ^ k < 128 ^ (k + 1) ∧ acc + ((l.getD k 0).toNat % 128) * 128 ^ k < 18446744073709551616 := by
 have hk8 : k ≤ 8 := by omega
 have h1 := acc_next acc (l.getD k 0).toNat k ha
 have h2 := pow_le (k + 1) (by omega)
 exact ⟨by rw [vgetF_step l k acc h, if_neg hb, if_neg hlt], hk8, h1, by omega⟩
/-- What a call of Get returns. -/
def vgetT (l : List UInt8) : Value := .tuple #[.int .u64 ((vget l).1 : Int), .int .i64 ((vget l).2.1 : Int), .int .i64 ((vget l).2.2 : Int)]
theorem vgetT_of {l : List UInt8} {n s e : Nat} (h : vget l = (n, s, e)) : Value.tuple #[.int .u64 (n : Int), .int .i64 (s : Int), .int .i64 (e : Int)] = vgetT l := by simp [vgetT, h]
theorem encF_succ (f n : Nat) : encF (f + 1) n = if n < 128 then [UInt8.ofNat n] else UInt8.ofNat (128 + n % 128) :: encF f (n / 128) := rfl
theorem encF_more : ∀ (f n : Nat), n < 128 ^ (f + 1) → encF (f + 1) n = encF (f + 2) n
 | 0, n, h => by
  have h' : n < 128 := by simpa using h
  simp [encF, h']
 | f + 1, n, h => by
  have hn : n / 128 < 128 ^ (f + 1) := by
   rw [Nat.div_lt_iff_lt_mul (by omega)]
   rw [Nat.pow_succ] at h
   exact h
  rw [encF_succ, encF_succ (f + 2), encF_more f (n / 128) hn]
theorem encF_10 (k : Nat) (n : Nat) (h : n < 128 ^ (k + 1)) (hk : k ≤ 9) : encF (k + 1) n = enc n := by
 have key : ∀ m, encF (k + 1) n = encF (k + 1 + m) n := by
  intro m
  induction m with
  | zero => rfl
  | succ m ih =>
   rw [ih]
   exact encF_more (k + m) n (Nat.lt_of_lt_of_le h (Nat.pow_le_pow_right (by omega) (by omega))) |>.trans (by rw [show k + m + 2 = k + 1 + (m + 1) by omega]) |> fun e => by rw [show k + 1 + m = k + m + 1 by omega]; exact e
 rw [key (9 - k), show k + 1 + (9 - k) = 10 by omega]
 rfl
theorem enc_small (n : Nat) (h : n < 128) : enc n = [UInt8.ofNat n] := by simp [enc, encF, h]
theorem enc_big (n : Nat) (h : 128 ≤ n) (hn : n < 18446744073709551616) : enc n = UInt8.ofNat (128 + n % 128) :: enc (n / 128) := by
 have h1 : n / 128 < 128 ^ 9 := by
  have : (128 : Nat) ^ 9 = 9223372036854775808 := rfl
  omega
 rw [enc, encF_succ, if_neg (by omega), encF_10 8 _ h1 (by omega)]
theorem enc_len (n : Nat) : 1 ≤ (enc n).length ∧ (enc n).length ≤ 10 := by
 have key : ∀ f m, (encF f m).length ≤ f := by
  intro f
  induction f with
  | zero => intro m; simp [encF]
  | succ f ih => intro m; rw [encF_succ]; split <;> simp; exact ih _
 refine ⟨?_, key 10 n⟩
 rw [enc, encF_succ]; split <;> simp
/-- How many bits a number has. -/
def bl (n : Nat) : Nat := if n = 0 then 0 else Nat.log2 n + 1
/-- A cut's bounds. -/
theorem cut_eq (l : List UInt8) {i k : Int} {a n : Nat} (h1 : i = (a : Int)) (h2 : k = (a : Int) + (n : Int)) : (l.drop i.toNat).take (k.toNat - i.toNat) = (l.drop a).take n := by
 rw [show k.toNat - i.toNat = n by omega, show i.toNat = a by omega]
theorem enc_len_of (k n : Nat) (hk : k ≤ 9) (h1 : n < 128 ^ (k + 1)) (h2 : k = 0 ∨ 128 ^ k ≤ n) : (enc n).length = k + 1 := by
 have key : ∀ (k f n : Nat), n < 128 ^ (k + 1) → (k = 0 ∨ 128 ^ k ≤ n) → k < f → (encF f n).length = k + 1 := by
  intro k
  induction k with
  | zero =>
   intro f n h1 _ hf
   obtain ⟨f, rfl⟩ : ∃ g, f = g + 1 := ⟨f - 1, by omega⟩
   rw [encF_succ, if_pos (by simpa using h1)]; rfl
  | succ k ih =>
   intro f n h1 h2 hf
   obtain ⟨f, rfl⟩ : ∃ g, f = g + 1 := ⟨f - 1, by omega⟩
   have h2' : 128 ^ k * 128 ≤ n := by rcases h2 with h | h; omega; rwa [Nat.pow_succ] at h
   have hpos : 0 < 128 ^ k := Nat.pow_pos (by omega)
   have hn : ¬ n < 128 := by omega
   rw [encF_succ, if_neg hn, List.length_cons, ih f (n / 128) (by rw [Nat.div_lt_iff_lt_mul (by omega)]; rwa [Nat.pow_succ] at h1) (.inr (by rw [Nat.le_div_iff_mul_le (by omega)]; exact h2')) (by omega)]
 exact key k 10 n h1 h2 (by omega)
/-- The bytes whose length bytes begin with: bytes, size, error. -/
def vpart (l : List UInt8) (most : Int) : List UInt8 × Nat × Nat :=
 if most < 0 then ([], 0, 2)
 else if (vget l).2.2 ≠ 0 then ([], 0, (vget l).2.2)
 else if most < ((vget l).1 : Int) then ([], 0, 5)
 else if l.length - (vget l).2.1 < (vget l).1 then ([], 0, 4)
 else ((l.drop (vget l).2.1).take (vget l).1, (vget l).2.1 + (vget l).1, 0)
theorem vpart_neg {l : List UInt8} {most : Int} (h : most < 0) : vpart l most = ([], 0, 2) := by rw [vpart, if_pos h]
theorem vpart_bad {l : List UInt8} {most : Int} (h : ¬ most < 0) (h1 : (vget l).2.2 ≠ 0) : vpart l most = ([], 0, (vget l).2.2) := by rw [vpart, if_neg h, if_pos h1]
theorem vpart_long {l : List UInt8} {most : Int} (h : ¬ most < 0) (h1 : ¬ (vget l).2.2 ≠ 0) (h2 : most < ((vget l).1 : Int)) : vpart l most = ([], 0, 5) := by rw [vpart, if_neg h, if_neg h1, if_pos h2]
theorem vpart_short {l : List UInt8} {most : Int} (h : ¬ most < 0) (h1 : ¬ (vget l).2.2 ≠ 0) (h2 : ¬ most < ((vget l).1 : Int)) (h3 : l.length - (vget l).2.1 < (vget l).1) : vpart l most = ([], 0, 4) := by rw [vpart, if_neg h, if_neg h1, if_neg h2, if_pos h3]
theorem vpart_ok {l : List UInt8} {most : Int} (h : ¬ most < 0) (h1 : ¬ (vget l).2.2 ≠ 0) (h2 : ¬ most < ((vget l).1 : Int)) (h3 : ¬ l.length - (vget l).2.1 < (vget l).1) : vpart l most = ((l.drop (vget l).2.1).take (vget l).1, (vget l).2.1 + (vget l).1, 0) := by rw [vpart, if_neg h, if_neg h1, if_neg h2, if_neg h3]
theorem vpart_bad0 (l : List UInt8) (most : Int) (h : (vpart l most).2.2 ≠ 0) : (vpart l most).1 = [] ∧ (vpart l most).2.1 = 0 := by
 unfold vpart at h ⊢
 repeat' split
 all_goals first | exact ⟨rfl, rfl⟩ | (simp_all)
theorem vpart_props (l : List UInt8) (most : Int) : (vpart l most).1.length ≤ l.length ∧ (vpart l most).2.1 ≤ l.length ∧ (vpart l most).2.2 ≤ 6 := by
 have h1 := vget_size l
 have h2 := vget_err l
 unfold vpart
 repeat' split
 all_goals (simp only [List.length_nil, List.length_take, List.length_drop]; omega)
end Go.Proofs.YtiighkbehiddkaaGreat