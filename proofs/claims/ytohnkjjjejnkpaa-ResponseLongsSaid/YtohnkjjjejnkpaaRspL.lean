/-
  Long responses, plainly: what the reference writes of one that is not valid is not read. No program in sight. No condition.
-/
import Derived.Test.YtohnkjjjejnkpaaRp
namespace Go.Proofs.Ytohnkjjjejnkpaa
open Go.RowKit
set_option linter.unusedVariables false
set_option maxRecDepth 4000

theorem refW_len (r : Rsp) : (refW r).length ≤ rsz r + 40 := by
  have h1 := enc_len r.err.toNat
  have h2 := hdR_len r
  have h3 := items_len' r.items
  have h4 := encs_len r.nums
  unfold refW rsz
  rw [List.length_append]
  split
  · rw [List.length_append, List.length_append]; omega
  · rw [List.length_nil]; omega
theorem ref_good {r : Rsp} (hok : RspOk r) (h : RV r) : rdR r.op (refW r) = (r, 0) := by
  obtain ⟨_, _, _, _, _, _, h1, h2⟩ := wr_of_valid h hok
  rw [refW_eq h]; exact Prod.ext h2 h1
theorem ref_bad {r : Rsp} (h : ¬ RdOkR r.op (refW r)) : rdR r.op (refW r) = (rspO 0 0, 6) := rdR_bad h
theorem bad_e {r : Rsp} (h1 : 100000 < r.err) (h2 : r.err < 9223372036854775808) : ¬ RdOkR r.op (refW r) := by
  rintro ⟨_, _, q3, _⟩
  have e : refW r = enc r.err.toNat ++ [] := by unfold refW; rw [if_neg (by omega)]
  have hl := rK_le q3
  rw [e, (num_enc8 (n := r.err.toNat) [] (by omega)).1] at hl
  omega
/-- What follows the error. -/
def refM (r : Rsp) : List UInt8 := hdR r ++ (r.items.flatMap wI ++ r.nums.flatMap enc)
theorem ref_m {r : Rsp} (he : r.err = 0) (h : RdOkR r.op (refW r)) : (gend r.op (refM r)).ok = true := by
  have e : refW r = enc 0 ++ refM r := by unfold refW refM; rw [if_pos he, he]; rfl
  obtain ⟨a, b, _⟩ := num_enc8 (n := 0) (refM r) (by decide)
  obtain ⟨_, _, _, _, q5, _⟩ := h
  rw [e, b] at q5
  exact (q5 a).1
theorem bad_c {r : Rsp} (n : needsN r.op = 99) (e : pl r.op = [99]) (he : r.err = 0) (h1 : 1099511627776 < r.count) (h2 : r.count < 9223372036854775808) : ¬ RdOkR r.op (refW r) := by
  intro h
  have hm : refM r = enc r.count.toNat ++ (r.items.flatMap wI ++ r.nums.flatMap enc) := by unfold refM hdR; rw [n]; rfl
  have hg : gend r.op (refM r) = gstep ⟨rspO r.op 0, true, refM r, true⟩ 99 := by unfold gend gst; rw [e]; rfl
  have hk := ref_m he h
  rw [hg] at hk
  have hk' : (true && rK 1099511627776 (refM r)) = true := hk
  rw [Bool.true_and] at hk'
  have hl := rK_le hk'
  rw [hm, (num_enc8 (n := r.count.toNat) _ (by omega)).1] at hl
  omega
theorem bad_w {r : Rsp} (n : needsN r.op = 119) (e : pl r.op = [118, 99]) (he : r.err = 0) (hv : r.ver < 18446744073709551616) (h1 : 1099511627776 < r.count) (h2 : r.count < 9223372036854775808) : ¬ RdOkR r.op (refW r) := by
  intro h
  have hm : refM r = enc r.ver ++ (enc r.count.toNat ++ (r.items.flatMap wI ++ r.nums.flatMap enc)) := by
    unfold refM hdR; rw [if_pos n, List.append_assoc]
  have hg : gend r.op (refM r) = gstep (gstep ⟨rspO r.op 0, true, refM r, true⟩ 118) 99 := by unfold gend gst; rw [e]; rfl
  have hk := ref_m he h
  rw [hg] at hk
  have hk' : (true && rK 18446744073709551615 (refM r) && rK 1099511627776 (nR (refM r))) = true := hk
  rw [Bool.true_and, Bool.and_eq_true] at hk'
  have hl := rK_le hk'.2
  rw [hm, (num_enc8 (n := r.ver) _ hv).2.1, (num_enc8 (n := r.count.toNat) _ (by omega)).1] at hl
  omega
theorem bad_n {r : Rsp} (n : needsN r.op = 110) (e : pl r.op = [110]) (he : r.err = 0) (h1 : 64 < r.nums.length) (h2 : r.nums.length < 9223372036854775808) : ¬ RdOkR r.op (refW r) := by
  intro h
  have hm : refM r = enc r.nums.length ++ (r.items.flatMap wI ++ r.nums.flatMap enc) := by unfold refM hdR; rw [n]; rfl
  have hg : gend r.op (refM r) = gstep ⟨rspO r.op 0, true, refM r, true⟩ 110 := by unfold gend gst; rw [e]; rfl
  have hk := ref_m he h
  rw [hg] at hk
  have hk' : (true && (rK 64 (refM r) && (uS (nV (refM r)) (nR (refM r))).2.2)) = true := hk
  rw [Bool.true_and, Bool.and_eq_true] at hk'
  have hl := rK_le hk'.1
  rw [hm, (num_enc8 (n := r.nums.length) _ (by omega)).1] at hl
  omega
theorem bad_m {r : Rsp} (n : needsN r.op = 109) (e : pl r.op = [109, 105]) (he : r.err = 0) (h1 : 16 < r.items.length) (h2 : r.items.length < 9223372036854775808) : ¬ RdOkR r.op (refW r) := by
  intro h
  have hm : refM r = enc r.items.length ++ (r.items.flatMap wI ++ r.nums.flatMap enc) := by unfold refM hdR; rw [n]; rfl
  have hg : gend r.op (refM r) = gstep (gstep ⟨rspO r.op 0, true, refM r, true⟩ 109) 105 := by unfold gend gst; rw [e]; rfl
  have hk := ref_m he h
  rw [hg] at hk
  have hk' : (true && (rK 16 (refM r) && decide (0 < nV (refM r))) && (iS (List.replicate (nV (refM r)) zI).length (nR (refM r))).2.2) = true := hk
  rw [Bool.true_and, Bool.and_eq_true, Bool.and_eq_true] at hk'
  have hl := rK_le hk'.1.1
  rw [hm, (num_enc8 (n := r.items.length) _ (by omega)).1] at hl
  omega
theorem bK_long {v : List UInt8} (q : List UInt8) (h1 : 65536 < v.length) (h2 : v.length < 9223372036854775808) : bK (pb v ++ q) = false := by
  have e : pb v ++ q = enc v.length ++ (v ++ q) := by unfold pb; rw [List.append_assoc]
  have hg := vget_enc (n := v.length) (by omega) (v ++ q)
  refine decide_eq_false fun k => ?_
  rw [e] at k
  rw [vpart_long (by decide) (by rw [hg]; exact fun z => z rfl) (by rw [hg]; show (65536 : Int) < (v.length : Int); omega)] at k
  cases k
theorem bad_i {r : Rsp} {x : Itm} (n : needsN r.op = 105) (e : pl r.op = [111, 105]) (he : r.err = 0) (hx : r.items = [x]) (hm1 : 1 ≤ x.mark) (hm2 : x.mark ≤ 2) (hv : x.ver < 18446744073709551616) (hd : x.dead < 18446744073709551616) (h1 : 65536 < x.value.length) (h2 : x.value.length < 9223372036854775808) : ¬ RdOkR r.op (refW r) := by
  intro h
  have hm : refM r = enc x.mark.toNat ++ (enc x.ver ++ (enc x.dead ++ (pb x.value ++ r.nums.flatMap enc))) := by
    unfold refM hdR
    rw [n, hx, List.flatMap_singleton]
    show wI x ++ _ = _
    unfold wI
    rw [if_neg (by omega)]
    simp only [List.append_assoc]
  have hg : gend r.op (refM r) = gstep (gstep ⟨rspO r.op 0, true, refM r, true⟩ 111) 105 := by unfold gend gst; rw [e]; rfl
  have hk := ref_m he h
  rw [hg] at hk
  have hk' : (true && iK (refM r)) = true := hk
  rw [Bool.true_and, hm] at hk'
  obtain ⟨a, b, _⟩ := num_enc8 (n := x.mark.toNat) (enc x.ver ++ (enc x.dead ++ (pb x.value ++ r.nums.flatMap enc))) (by omega)
  obtain ⟨_, b2, _⟩ := num_enc8 (enc x.dead ++ (pb x.value ++ r.nums.flatMap enc)) hv
  obtain ⟨_, b3, _⟩ := num_enc8 (pb x.value ++ r.nums.flatMap enc) hd
  have k : rK 2 (enc x.mark.toNat ++ (enc x.ver ++ (enc x.dead ++ (pb x.value ++ r.nums.flatMap enc)))) = true := rK_enc _ (by omega) (by omega)
  rw [(iK_full k (by rw [a]; omega)).1, b, b2, b3, bK_long _ h1 h2, Bool.and_false] at hk'
  cases hk'
/-- A long response: what is needed to check it. -/
structure LongR (r : Rsp) : Prop where
  ok : RspOk r
  sz : rsz r ≤ 4398046511104
  o1 : 0 ≤ r.op
  o2 : r.op ≤ 15
  e1 : 0 ≤ r.err
  e2 : r.err ≤ 9223372036854775807
  c1 : 0 ≤ r.count
  ms : ∀ x ∈ r.items, 0 ≤ x.mark ∧ x.mark ≤ 9223372036854775807
  bad : ¬ RV r → ¬ RdOkR r.op (refW r)
theorem LongR.code {r : Rsp} (h : LongR r) : ((codeR r).toNat : Int) - 64 = r.op := codeR_sub h.o1 h.o2
theorem LongR.no {r : Rsp} (h : LongR r) (q : ¬ RV r) : rdR (((codeR r).toNat : Int) - 64) (refW r) = (rspO 0 0, 6) := by rw [h.code]; exact rdR_bad (h.bad q)
theorem LongR.yes {r : Rsp} (h : LongR r) (q : RV r) : rdR (((codeR r).toNat : Int) - 64) (refW r) = (r, 0) := by rw [h.code]; exact ref_good h.ok q
theorem LongR.len {r : Rsp} (h : LongR r) : (refW r).length ≤ 140737488355328 := by have := refW_len r; have := h.sz; omega
theorem LongR.wr {r : Rsp} (h : LongR r) (q : RV r) : wrR r = ((codeR r, refW r), 0) := by rw [refW_eq q]; exact wr_val h.ok q
theorem noI : ∀ x ∈ ([] : List Itm), x.ver < 18446744073709551616 ∧ x.dead < 18446744073709551616 := fun x hx => by cases hx
theorem noM : ∀ x ∈ ([] : List Itm), 0 ≤ x.mark ∧ x.mark ≤ 9223372036854775807 := fun x hx => by cases hx
theorem noN : ∀ n ∈ ([] : List Nat), n < 18446744073709551616 := fun x hx => by cases hx
def rGet (n : Nat) : Rsp := ⟨4, 0, [⟨2, List.replicate n 0, 18446744073709551615, 18446744073709551615⟩], 0, 0, []⟩
def miI (i : Nat) : Itm := ⟨1, [], i, 0⟩
def miT (i : Nat) : IT := (miI i, none, 0)
def rMGet (k : Nat) : Rsp := ⟨5, 0, (List.range k).map miI, 0, 0, []⟩
def rStats (k : Nat) : Rsp := ⟨15, 0, [], 0, 0, List.replicate k 18446744073709551615⟩
def rDel (c : Int) : Rsp := ⟨7, 0, [], 0, c, []⟩
def rAdd (c : Int) : Rsp := ⟨2, 0, [], 18446744073709551615, c, []⟩
theorem vals_miT (k : Nat) : vals ((List.range k).map miT) = (List.range k).map miI := by
  unfold vals; rw [List.map_map]; rfl
theorem long_get {n : Nat} (h : n ≤ 65538) : LongR (rGet n) where
  ok := ⟨by show (0 : Nat) < _; decide, fun x hx => by rw [List.mem_singleton.1 hx]; exact ⟨by show (18446744073709551615 : Nat) < _; decide, by show (18446744073709551615 : Nat) < _; decide⟩, noN, by show (0 : Int) ≤ _; decide⟩
  sz := by
    show ((List.replicate n (0 : UInt8)).length + 40 + 0) + 10 * 0 + 100 ≤ _
    rw [List.length_replicate]; omega
  o1 := by show (0 : Int) ≤ 4; decide
  o2 := by show (4 : Int) ≤ 15; decide
  e1 := by show (0 : Int) ≤ 0; decide
  e2 := by show (0 : Int) ≤ _; decide
  c1 := by show (0 : Int) ≤ 0; decide
  ms := fun x hx => by rw [List.mem_singleton.1 hx]; exact ⟨by show (0 : Int) ≤ 2; decide, by show (2 : Int) ≤ _; decide⟩
  bad := fun q => by
    by_cases hn : n ≤ 65536
    · refine absurd ⟨by show (0 : Int) ≤ 4; decide, by show (4 : Int) ≤ 15; decide, by show (0 : Int) ≤ 0; decide, by show (0 : Int) ≤ _; decide, (fun z => absurd z.1 (by show ¬ (4 : Int) = 0; decide)), (only_i (r := rGet n) rfl (.inl (nd_b rfl))).symm, ?_, (fun z => z.2.2 rfl), (fun z => absurd z.2.1 (by show ¬ needsN 4 = 109; decide)), by show (0 : Int) ≤ 0; decide, by show (0 : Int) ≤ _; decide, Nat.zero_le _⟩ q
      show (okV _ && true) = true
      rw [Bool.and_true]
      refine decide_eq_true ⟨fun z => absurd z.1 (by show ¬ (2 : Int) = 0; decide), by show (0 : Int) ≤ 2; decide, by show (2 : Int) ≤ 2; decide, ?_⟩
      show (List.replicate n (0 : UInt8)).length ≤ _
      rw [List.length_replicate]; exact hn
    · have hl : (List.replicate n (0 : UInt8)).length = n := List.length_replicate
      exact bad_i (r := rGet n) (x := ⟨2, List.replicate n 0, 18446744073709551615, 18446744073709551615⟩) (nd_b rfl) (pl_b rfl).1 rfl rfl (by show (1 : Int) ≤ 2; decide) (by show (2 : Int) ≤ 2; decide) (by show (18446744073709551615 : Nat) < _; decide) (by show (18446744073709551615 : Nat) < _; decide) (by show 65536 < (List.replicate n (0 : UInt8)).length; omega) (by show (List.replicate n (0 : UInt8)).length < _; omega)
theorem isz_miI : ∀ k, (((List.range k).map miI).map isz).sum = 40 * k
  | 0 => rfl
  | k + 1 => by
    rw [List.range_succ, List.map_append, List.map_append, List.sum_append, isz_miI k]
    show 40 * k + (0 + 40 + 0) = _
    omega
theorem long_mget {k : Nat} (h0 : 1 ≤ k) (h : k ≤ 18) : LongR (rMGet k) where
  ok := ⟨by show (0 : Nat) < _; decide, fun x hx => by
    obtain ⟨i, hi, rfl⟩ := List.mem_map.1 hx
    have := List.mem_range.1 hi
    exact ⟨by show i < _; omega, by show (0 : Nat) < _; decide⟩, noN, by show (0 : Int) ≤ _; decide⟩
  sz := by
    show (((List.range k).map miI).map isz).sum + 10 * 0 + 100 ≤ _
    rw [isz_miI]; omega
  o1 := by show (0 : Int) ≤ 5; decide
  o2 := by show (5 : Int) ≤ 15; decide
  e1 := by show (0 : Int) ≤ 0; decide
  e2 := by show (0 : Int) ≤ _; decide
  c1 := by show (0 : Int) ≤ 0; decide
  ms := fun x hx => by
    obtain ⟨i, hi, rfl⟩ := List.mem_map.1 hx
    exact ⟨by show (0 : Int) ≤ 1; decide, by show (1 : Int) ≤ _; decide⟩
  bad := fun q => by
    have hl : ((List.range k).map miI).length = k := by rw [List.length_map, List.length_range]
    by_cases hn : k ≤ 16
    · refine absurd ⟨by show (0 : Int) ≤ 5; decide, by show (5 : Int) ≤ 15; decide, by show (0 : Int) ≤ 0; decide, by show (0 : Int) ≤ _; decide, (fun z => absurd z.1 (by show ¬ (5 : Int) = 0; decide)), (only_i (r := rMGet k) rfl (.inr (nd_c rfl))).symm, ?_, (fun z => absurd z.2.1 (by show ¬ needsN 5 = 105; decide)), (fun z => ?_), by show (0 : Int) ≤ 0; decide, by show (0 : Int) ≤ _; decide, Nat.zero_le _⟩ q
      · refine List.all_eq_true.2 fun x hx => ?_
        obtain ⟨i, hi, rfl⟩ := List.mem_map.1 hx
        exact decide_eq_true ⟨fun z => absurd z.1 (by show ¬ (1 : Int) = 0; decide), by show (0 : Int) ≤ 1; decide, by show (1 : Int) ≤ 2; decide, by show (0 : Nat) ≤ _; decide⟩
      · have z2 : ((List.range k).map miI).length < 1 ∨ 16 < ((List.range k).map miI).length := z.2.2
        omega
    · exact bad_m (r := rMGet k) (nd_c rfl) (pl_c rfl).1 rfl (by show 16 < ((List.range k).map miI).length; omega) (by show ((List.range k).map miI).length < _; omega)
theorem long_stats {k : Nat} (h : k ≤ 66) : LongR (rStats k) where
  ok := ⟨by show (0 : Nat) < _; decide, noI, fun n hn => by rw [List.eq_of_mem_replicate hn]; decide, by show (0 : Int) ≤ _; decide⟩
  sz := by
    show 0 + 10 * (List.replicate k 18446744073709551615).length + 100 ≤ _
    rw [List.length_replicate]; omega
  o1 := by show (0 : Int) ≤ 15; decide
  o2 := by show (15 : Int) ≤ 15; decide
  e1 := by show (0 : Int) ≤ 0; decide
  e2 := by show (0 : Int) ≤ _; decide
  c1 := by show (0 : Int) ≤ 0; decide
  ms := noM
  bad := fun q => by
    have hl : (List.replicate k 18446744073709551615).length = k := List.length_replicate
    by_cases hn : k ≤ 64
    · refine absurd ⟨by show (0 : Int) ≤ 15; decide, by show (15 : Int) ≤ 15; decide, by show (0 : Int) ≤ 0; decide, by show (0 : Int) ≤ _; decide, (fun z => absurd z.1 (by show ¬ (15 : Int) = 0; decide)), (only_n (r := rStats k) rfl (nd_d rfl)).symm, rfl, (fun z => absurd z.2.1 (by show ¬ needsN 15 = 105; decide)), (fun z => absurd z.2.1 (by show ¬ needsN 15 = 109; decide)), by show (0 : Int) ≤ 0; decide, by show (0 : Int) ≤ _; decide, by show (List.replicate k 18446744073709551615).length ≤ 64; omega⟩ q
    · exact bad_n (r := rStats k) (nd_d rfl) (pl_d rfl).1 rfl (by show 64 < (List.replicate k 18446744073709551615).length; omega) (by show (List.replicate k 18446744073709551615).length < _; omega)
theorem long_del {c : Int} (h0 : 0 ≤ c) (h : c ≤ 1099511627778) : LongR (rDel c) where
  ok := ⟨by show (0 : Nat) < _; decide, noI, noN, by show c ≤ _; omega⟩
  sz := by show 0 + 10 * 0 + 100 ≤ _; decide
  o1 := by show (0 : Int) ≤ 7; decide
  o2 := by show (7 : Int) ≤ 15; decide
  e1 := by show (0 : Int) ≤ 0; decide
  e2 := by show (0 : Int) ≤ _; decide
  c1 := h0
  ms := noM
  bad := fun q => by
    by_cases hn : c ≤ 1099511627776
    · exact absurd ⟨by show (0 : Int) ≤ 7; decide, by show (7 : Int) ≤ 15; decide, by show (0 : Int) ≤ 0; decide, by show (0 : Int) ≤ _; decide, (fun z => absurd z.1 (by show ¬ (7 : Int) = 0; decide)), (only_c (r := rDel c) rfl (by show needsN 7 = 99; decide)).symm, rfl, (fun z => absurd z.2.1 (by show ¬ needsN 7 = 105; decide)), (fun z => absurd z.2.1 (by show ¬ needsN 7 = 109; decide)), h0, hn, Nat.zero_le _⟩ q
    · exact bad_c (r := rDel c) (by show needsN 7 = 99; decide) (by show pl 7 = [99]; decide) rfl (by show _ < c; omega) (by show c < _; omega)
theorem long_add {c : Int} (h0 : 0 ≤ c) (h : c ≤ 1099511627778) : LongR (rAdd c) where
  ok := ⟨by show (18446744073709551615 : Nat) < _; decide, noI, noN, by show c ≤ _; omega⟩
  sz := by show 0 + 10 * 0 + 100 ≤ _; decide
  o1 := by show (0 : Int) ≤ 2; decide
  o2 := by show (2 : Int) ≤ 15; decide
  e1 := by show (0 : Int) ≤ 0; decide
  e2 := by show (0 : Int) ≤ _; decide
  c1 := h0
  ms := noM
  bad := fun q => by
    by_cases hn : c ≤ 1099511627776
    · exact absurd ⟨by show (0 : Int) ≤ 2; decide, by show (2 : Int) ≤ 15; decide, by show (0 : Int) ≤ 0; decide, by show (0 : Int) ≤ _; decide, (fun z => absurd z.1 (by show ¬ (2 : Int) = 0; decide)), (only_w (r := rAdd c) rfl (by show needsN 2 = 119; decide)).symm, rfl, (fun z => absurd z.2.1 (by show ¬ needsN 2 = 105; decide)), (fun z => absurd z.2.1 (by show ¬ needsN 2 = 109; decide)), h0, hn, Nat.zero_le _⟩ q
    · exact bad_w (r := rAdd c) (by show needsN 2 = 119; decide) (by show pl 2 = [118, 99]; decide) rfl (by show (18446744073709551615 : Nat) < _; decide) (by show _ < c; omega) (by show c < _; omega)
theorem long_err {op e : Int} (o1 : 0 ≤ op) (o2 : op ≤ 15) (h0 : 0 < e) (h : e ≤ 100002) : LongR (rspO op e) where
  ok := ⟨by show (0 : Nat) < _; decide, noI, noN, by show (0 : Int) ≤ _; decide⟩
  sz := by show 0 + 10 * 0 + 100 ≤ _; decide
  o1 := o1
  o2 := o2
  e1 := by show 0 ≤ e; omega
  e2 := by show e ≤ _; omega
  c1 := by show (0 : Int) ≤ 0; decide
  ms := noM
  bad := fun q => by
    by_cases hn : e ≤ 100000
    · have hne : ¬ e = 0 := by omega
      exact absurd ⟨o1, o2, by show 0 ≤ e; omega, hn, (fun z => hne z.2), (only_e hne).symm, rfl, (fun z => hne z.1), (fun z => hne z.1), by show (0 : Int) ≤ 0; decide, by show (0 : Int) ≤ _; decide, Nat.zero_le _⟩ q
    · exact bad_e (r := rspO op e) (by show _ < e; omega) (by show e < _; omega)
end Go.Proofs.Ytohnkjjjejnkpaa
