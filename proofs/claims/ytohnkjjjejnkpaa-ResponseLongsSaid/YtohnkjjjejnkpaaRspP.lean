/-
  Responses, plainly: what Read answers is what Write writes. No program in sight. No condition.
-/
import Derived.Test.YtohnkjjjejnkpaaRj
import Derived.Test.YtohnkjjjejnkpaaCodec
namespace Go.Proofs.Ytohnkjjjejnkpaa
open Go.RowKit
set_option linter.unusedVariables false
set_option maxRecDepth 4000

theorem num_inv {l : List UInt8} (h : nK l = true) : l = enc (nV l) ++ nR l := by
  have e : (vget l).2.2 = 0 := of_decide_eq_true h
  have h1 := vget_inv e
  unfold nV nR
  rw [h1, List.take_append_drop]
theorem part_inv {l : List UInt8} (h : bK l = true) : l = pb (bV l) ++ bR l ∧ (bV l).length ≤ 65536 := by
  have e : (vpart l 65536).2.2 = 0 := of_decide_eq_true h
  have h0 : ¬ (65536 : Int) < 0 := by decide
  by_cases h1 : (vget l).2.2 ≠ 0
  · rw [vpart_bad h0 h1] at e; exact absurd e h1
  by_cases h2 : (65536 : Int) < ((vget l).1 : Int)
  · rw [vpart_long h0 h1 h2] at e; cases e
  by_cases h3 : l.length - (vget l).2.1 < (vget l).1
  · rw [vpart_short h0 h1 h2 h3] at e; cases e
  have hp := vpart_ok h0 h1 h2 h3
  have hv : bV l = (l.drop (vget l).2.1).take (vget l).1 := by unfold bV; rw [hp]
  have hr : bR l = l.drop ((vget l).2.1 + (vget l).1) := by unfold bR; rw [hp]
  have hn := num_inv (l := l) (decide_eq_true (Decidable.not_not.1 h1))
  have hl : (bV l).length = (vget l).1 := by rw [hv, List.length_take, List.length_drop]; omega
  refine ⟨?_, by omega⟩
  unfold pb
  rw [hl, hv, hr, ← List.drop_drop, List.append_assoc, List.take_append_drop]
  exact hn
theorem rK_nK {m : Nat} {l : List UInt8} (h : rK m l = true) : nK l = true := by unfold rK at h; rw [Bool.and_eq_true] at h; exact h.1
/-- An item that was read is what would be written. -/
theorem item_inv {l : List UInt8} (h : iK l = true) : l = wI (iV l) ++ iR l ∧ okI (iV l) = true ∧ (iV l).ver < 18446744073709551616 ∧ (iV l).dead < 18446744073709551616 := by
  have hk : rK 2 l = true := by
    cases hr : rK 2 l with
    | true => rfl
    | false => rw [iK_bad hr] at h; cases h
  have hn := num_inv (rK_nK hk)
  have h2 := rK_le hk
  by_cases h0 : nV l = 0
  · obtain ⟨_, ev, er⟩ := iK_zero hk h0
    rw [ev, er]
    refine ⟨?_, rfl, by decide, by decide⟩
    rw [show wI zI = enc 0 from by rw [wI_zero rfl]; rfl, ← h0]
    exact hn
  · obtain ⟨ek, ev, er⟩ := iK_full hk h0
    rw [ek, Bool.and_eq_true, Bool.and_eq_true] at h
    obtain ⟨⟨k1, k2⟩, k3⟩ := h
    have n1 := num_inv k1
    have n2 := num_inv k2
    obtain ⟨n3, hb⟩ := part_inv k3
    rw [ev, er]
    refine ⟨?_, decide_eq_true ⟨by show (0 : Int) ≤ (nV l : Int); omega, by show (nV l : Int) ≤ 2; omega, hb⟩, nV_lt _, nV_lt _⟩
    show l = (enc ((nV l : Int)).toNat ++ if (nV l : Int) = 0 then [] else enc (nV (nR l)) ++ (enc (nV (nR (nR l))) ++ pb (bV (nR (nR (nR l)))))) ++ bR (nR (nR (nR l)))
    rw [if_neg (by omega), Int.toNat_natCast, List.append_assoc, List.append_assoc, List.append_assoc, ← n3, ← n2, ← n1]
    exact hn
theorem items_inv (l : List UInt8) : ∀ k, (iS k l).2.2 = true → l = (iS k l).1.flatMap wI ++ (iS k l).2.1 ∧ (iS k l).1.all okI = true ∧ ∀ x ∈ (iS k l).1, x.ver < 18446744073709551616 ∧ x.dead < 18446744073709551616
  | 0, _ => ⟨rfl, rfl, fun x h => by cases h⟩
  | k + 1, h => by
    rw [iS, Bool.and_eq_true] at h
    obtain ⟨h1, h2, h3⟩ := items_inv l k h.1
    obtain ⟨e1, e2, e3⟩ := item_inv h.2
    refine ⟨?_, ?_, ?_⟩
    · rw [iS, List.flatMap_append, List.append_assoc]
      show l = (iS k l).1.flatMap wI ++ (([iV (iS k l).2.1].flatMap wI) ++ iR (iS k l).2.1)
      rw [List.flatMap_singleton, ← e1]
      exact h1
    · rw [iS, List.all_append, h2]
      show (true && (okI (iV (iS k l).2.1) && true)) = true
      rw [e2]; rfl
    · intro x hx
      rw [iS] at hx
      rcases List.mem_append.1 hx with hx | hx
      · exact h3 x hx
      · rw [List.mem_singleton.1 hx]; exact e3
theorem nums_inv (l : List UInt8) : ∀ k, (uS k l).2.2 = true → l = (uS k l).1.flatMap enc ++ (uS k l).2.1 ∧ ∀ n ∈ (uS k l).1, n < 18446744073709551616
  | 0, _ => ⟨rfl, fun x h => by cases h⟩
  | k + 1, h => by
    rw [uS, Bool.and_eq_true] at h
    obtain ⟨h1, h3⟩ := nums_inv l k h.1
    have e1 := num_inv h.2
    refine ⟨?_, ?_⟩
    · rw [uS, List.flatMap_append, List.append_assoc]
      show l = (uS k l).1.flatMap enc ++ (([nV (uS k l).2.1].flatMap enc) ++ nR (uS k l).2.1)
      rw [List.flatMap_singleton, ← e1]
      exact h1
    · intro x hx
      rw [uS] at hx
      rcases List.mem_append.1 hx with hx | hx
      · exact h3 x hx
      · rw [List.mem_singleton.1 hx]; exact nV_lt _
theorem vsum_wI : ∀ (xs : List Itm), xs.all okI = true → (∀ x ∈ xs, x.mark = 0 → x.value = []) → vsum xs ≤ (xs.flatMap wI).length
  | [], _, _ => by simp [vsum]
  | x :: r, h, h0 => by
    rw [List.all_cons, Bool.and_eq_true] at h
    have h2 := vsum_wI r h.2 (fun y hy => h0 y (List.mem_cons_of_mem _ hy))
    have h1 : x.value.length ≤ (wI x).length := by
      by_cases hm : x.mark = 0
      · rw [h0 x (List.mem_cons_self ..) hm]; exact Nat.zero_le _
      · unfold wI pb; rw [if_neg hm]; simp only [List.length_append]; omega
    unfold vsum at *
    rw [List.map_cons, List.sum_cons, List.flatMap_cons, List.length_append]; omega
theorem iV_zero {l : List UInt8} (h : (iV l).mark = 0) : (iV l).value = [] := by
  unfold iV at *
  split at h
  · rename_i e; rw [if_pos e]; rfl
  · rename_i e
    have : (nV l : Int) = 0 := h
    omega
theorem iS_zero (l : List UInt8) : ∀ k, ∀ x ∈ (iS k l).1, x.mark = 0 → x.value = []
  | 0, x, h, _ => by cases h
  | k + 1, x, h, h0 => by
    rw [iS] at h
    rcases List.mem_append.1 h with h | h
    · exact iS_zero l k x h h0
    · rw [List.mem_singleton.1 h] at h0 ⊢; exact iV_zero h0
/-- What the end of the reading says, by the list of the parts. -/
structure EndOk (op : Int) (l : List UInt8) : Prop where
  bytes : l = (pl op).flatMap (putC (gend op l).x) ++ (gend op l).l
  all : (pl op).all (okP (gend op l).x) = true
  ok : RspOk (gend op l).x
  hop : (gend op l).x.op = op
  err : (gend op l).x.err = 0
  i16 : (gend op l).x.items.length ≤ 16
  n64 : (gend op l).x.nums.length ≤ 64
  vs : vsum (gend op l).x.items ≤ l.length
theorem end_inv {op : Int} {l : List UInt8} (h : (gend op l).ok = true) : EndOk op l := by
  have hz : ∀ x ∈ ([] : List Itm), x.ver < 18446744073709551616 ∧ x.dead < 18446744073709551616 := fun x hx => by cases hx
  have hy : ∀ n ∈ ([] : List Nat), n < 18446744073709551616 := fun x hx => by cases hx
  rcases pl_cases op with e | e | e | e | e
  · have hg : gend op l = gstep (gstep ⟨rspO op 0, true, l, true⟩ 118) 99 := by unfold gend gst; rw [e]; rfl
    rw [hg] at h
    have hk : (true && rK 18446744073709551615 l && rK 1099511627776 (nR l)) = true := h
    rw [Bool.true_and, Bool.and_eq_true] at hk
    have h1 := num_inv (rK_nK hk.1)
    have h2 := num_inv (rK_nK hk.2)
    have h3 := rK_le hk.2
    refine ⟨?_, ?_, ?_, ?_, ?_, ?_, ?_, ?_⟩
    · rw [hg, e]
      show l = enc (nV l) ++ (enc ((nV (nR l) : Int)).toNat ++ []) ++ nR (nR l)
      rw [Int.toNat_natCast, List.append_nil, List.append_assoc, ← h2]; exact h1
    · rw [hg, e]
      show (true && (decide (0 ≤ (nV (nR l) : Int) ∧ (nV (nR l) : Int) ≤ 1099511627776) && true)) = true
      rw [decide_eq_true (by omega)]; rfl
    · rw [hg]; exact ⟨nV_lt _, hz, hy, by show (nV (nR l) : Int) ≤ _; omega⟩
    · rw [hg]; rfl
    · rw [hg]; rfl
    · rw [hg]; exact Nat.zero_le _
    · rw [hg]; exact Nat.zero_le _
    · rw [hg]; exact Nat.zero_le _
  · have hg : gend op l = gstep (gstep ⟨rspO op 0, true, l, true⟩ 111) 105 := by unfold gend gst; rw [e]; rfl
    rw [hg] at h
    have hk : (iS 1 l).2.2 = true := h
    obtain ⟨h1, h2, h3⟩ := items_inv l 1 hk
    have hl := (iS_len l 1).1
    refine ⟨?_, ?_, ?_, ?_, ?_, ?_, ?_, ?_⟩
    · rw [hg, e]
      show l = [] ++ ((iS 1 l).1.flatMap wI ++ []) ++ (iS 1 l).2.1
      rw [List.append_nil, List.nil_append]; exact h1
    · rw [hg, e]
      show (decide ((iS 1 l).1.length = 1) && ((iS 1 l).1.all okI && true)) = true
      rw [h2, decide_eq_true hl]; rfl
    · rw [hg]; exact ⟨by show (0 : Nat) < _; decide, h3, hy, by show (0 : Int) ≤ _; decide⟩
    · rw [hg]; rfl
    · rw [hg]; rfl
    · rw [hg]; show (iS 1 l).1.length ≤ 16; omega
    · rw [hg]; exact Nat.zero_le _
    · rw [hg]
      have hv := vsum_wI _ h2 (iS_zero l 1)
      have hc := congrArg List.length h1
      rw [List.length_append] at hc
      show vsum (iS 1 l).1 ≤ _
      omega
  · have hg : gend op l = gstep (gstep ⟨rspO op 0, true, l, true⟩ 109) 105 := by unfold gend gst; rw [e]; rfl
    rw [hg] at h
    have hrl : (List.replicate (nV l) zI).length = nV l := List.length_replicate
    have hk0 : (true && (rK 16 l && decide (0 < nV l)) && (iS (List.replicate (nV l) zI).length (nR l)).2.2) = true := h
    rw [hrl, Bool.true_and, Bool.and_eq_true, Bool.and_eq_true, decide_eq_true_eq] at hk0
    obtain ⟨⟨k1, k2⟩, k3⟩ := hk0
    have h0 := num_inv (rK_nK k1)
    have h16 := rK_le k1
    obtain ⟨h1, h2, h3⟩ := items_inv (nR l) (nV l) k3
    have hl := (iS_len (nR l) (nV l)).1
    have hx : (gstep (gstep ⟨rspO op 0, true, l, true⟩ 109) 105).x = { rspO op 0 with items := (iS (nV l) (nR l)).1 } := by
      show ({ rspO op 0 with items := (iS (List.replicate (nV l) zI).length (nR l)).1 } : Rsp) = _
      rw [hrl]
    have hr : (gstep (gstep ⟨rspO op 0, true, l, true⟩ 109) 105).l = (iS (nV l) (nR l)).2.1 := by
      show (iS (List.replicate (nV l) zI).length (nR l)).2.1 = _
      rw [hrl]
    refine ⟨?_, ?_, ?_, ?_, ?_, ?_, ?_, ?_⟩
    · rw [hg, hx, hr, e]
      show l = enc (iS (nV l) (nR l)).1.length ++ ((iS (nV l) (nR l)).1.flatMap wI ++ []) ++ (iS (nV l) (nR l)).2.1
      rw [hl, List.append_nil, List.append_assoc, ← h1]; exact h0
    · rw [hg, hx, e]
      show (decide (1 ≤ (iS (nV l) (nR l)).1.length ∧ (iS (nV l) (nR l)).1.length ≤ 16) && ((iS (nV l) (nR l)).1.all okI && true)) = true
      rw [h2, decide_eq_true (by omega)]; rfl
    · rw [hg, hx]; exact ⟨by show (0 : Nat) < _; decide, h3, hy, by show (0 : Int) ≤ _; decide⟩
    · rw [hg]; rfl
    · rw [hg]; rfl
    · rw [hg, hx]; show (iS (nV l) (nR l)).1.length ≤ 16; omega
    · rw [hg, hx]; exact Nat.zero_le _
    · rw [hg, hx]
      have hv := vsum_wI _ h2 (iS_zero (nR l) (nV l))
      have hc := congrArg List.length h1
      have hn := nR_len l
      rw [List.length_append] at hc
      show vsum (iS (nV l) (nR l)).1 ≤ _
      omega
  · have hg : gend op l = gstep ⟨rspO op 0, true, l, true⟩ 110 := by unfold gend gst; rw [e]; rfl
    rw [hg] at h
    have hk : (true && (rK 64 l && (uS (nV l) (nR l)).2.2)) = true := h
    rw [Bool.true_and, Bool.and_eq_true] at hk
    have h0 := num_inv (rK_nK hk.1)
    have h64 := rK_le hk.1
    obtain ⟨h1, h3⟩ := nums_inv (nR l) (nV l) hk.2
    have hl := (uS_len (nR l) (nV l)).1
    refine ⟨?_, ?_, ?_, ?_, ?_, ?_, ?_, ?_⟩
    · rw [hg, e]
      show l = (enc (uS (nV l) (nR l)).1.length ++ (uS (nV l) (nR l)).1.flatMap enc) ++ [] ++ (uS (nV l) (nR l)).2.1
      rw [hl, List.append_nil, List.append_assoc, ← h1]; exact h0
    · rw [hg, e]
      show (decide ((uS (nV l) (nR l)).1.length ≤ 64) && true) = true
      rw [decide_eq_true (by omega)]; rfl
    · rw [hg]; exact ⟨by show (0 : Nat) < _; decide, hz, h3, by show (0 : Int) ≤ _; decide⟩
    · rw [hg]; rfl
    · rw [hg]; rfl
    · rw [hg]; exact Nat.zero_le _
    · rw [hg]; show (uS (nV l) (nR l)).1.length ≤ 64; omega
    · rw [hg]; exact Nat.zero_le _
  · have hg : gend op l = gstep ⟨rspO op 0, true, l, true⟩ 99 := by unfold gend gst; rw [e]; rfl
    rw [hg] at h
    have hk : (true && rK 1099511627776 l) = true := h
    rw [Bool.true_and] at hk
    have h0 := num_inv (rK_nK hk)
    have h3 := rK_le hk
    refine ⟨?_, ?_, ?_, ?_, ?_, ?_, ?_, ?_⟩
    · rw [hg, e]
      show l = (enc ((nV l : Int)).toNat ++ []) ++ nR l
      rw [Int.toNat_natCast, List.append_nil]; exact h0
    · rw [hg, e]
      show (decide (0 ≤ (nV l : Int) ∧ (nV l : Int) ≤ 1099511627776) && true) = true
      rw [decide_eq_true (by omega)]; rfl
    · rw [hg]; exact ⟨by show (0 : Nat) < _; decide, hz, hy, by show (nV l : Int) ≤ _; omega⟩
    · rw [hg]; rfl
    · rw [hg]; rfl
    · rw [hg]; exact Nat.zero_le _
    · rw [hg]; exact Nat.zero_le _
    · rw [hg]; exact Nat.zero_le _
/-- Write inverts Read. -/
structure RdWr (op : Int) (l : List UInt8) : Prop where
  o1 : 0 ≤ op
  o2 : op ≤ 15
  hop : (rdR op l).1.op = op
  ok : RspOk (rdR op l).1
  sz : rsz (rdR op l).1 ≤ l.length + 2000
  bytes : wbytes (rdR op l).1 = l
  wr : WrOk (rdR op l).1
theorem rd_wr {op : Int} {l : List UInt8} (h : (rdR op l).2 = 0) : RdWr op l := by
  have hq : RdOkR op l := by
    by_cases hq : RdOkR op l
    · exact hq
    · rw [rdR_bad hq] at h; cases h
  have hq' := hq
  obtain ⟨q1, q2, q3, q4, q5, q6⟩ := hq
  have hnum := num_inv (rK_nK q3)
  have hle := rK_le q3
  by_cases h0 : nV l = 0
  · have hr := rdR_0 hq' h0
    obtain ⟨k1, k2⟩ := q5 h0
    have E := end_inv k1
    have hx : (rdR op l).1 = (gend op (nR l)).x := congrArg Prod.fst hr
    have hb : wbytes (rdR op l).1 = l := by
      have hl := E.bytes
      rw [List.eq_nil_of_length_eq_zero k2, List.append_nil] at hl
      unfold wbytes
      rw [hx, E.err, if_pos rfl, E.hop, ← hl]
      rw [h0] at hnum
      exact hnum.symm
    have hn := nR_len l
    refine ⟨q1, q2, by rw [hx]; exact E.hop, by rw [hx]; exact E.ok, ?_, hb, ?_⟩
    · rw [hx, vsum_rsz]; have a := E.vs; have b := E.i16; have c := E.n64; omega
    · refine ⟨by rw [hx, E.hop]; exact q1, by rw [hx, E.hop]; exact q2, by rw [hx, E.err]; decide, by rw [hx, E.err]; decide, ?_, fun _ => by rw [hx, E.hop]; exact E.all, ?_, ?_⟩
      · rcases q4 with q | q
        · exact .inl (by rw [hx, E.hop]; exact q)
        · exact absurd h0 q
      · rw [hb, show (rdR op l).1.op = op from by rw [hx]; exact E.hop]; exact h
      · rw [hb, show (rdR op l).1.op = op from by rw [hx]; exact E.hop]
  · have hr := rdR_e hq' h0
    have k := q6 h0
    have hx : (rdR op l).1 = rspO op (nV l) := congrArg Prod.fst hr
    have hne : ¬ (rspO op (nV l)).err = 0 := by show ¬ (nV l : Int) = 0; omega
    have hb : wbytes (rdR op l).1 = l := by
      rw [hx, wbytes_e hne]
      show enc ((nV l : Int)).toNat = l
      rw [Int.toNat_natCast]
      rw [List.eq_nil_of_length_eq_zero k, List.append_nil] at hnum
      exact hnum.symm
    refine ⟨q1, q2, by rw [hx]; rfl, by rw [hx]; exact ⟨by show (0 : Nat) < _; decide, (fun x hx => by cases hx), (fun x hx => by cases hx), by show (0 : Int) ≤ _; decide⟩, ?_, hb, ?_⟩
    · rw [hx, vsum_rsz]; show 0 + 40 * 0 + 10 * 0 + 100 ≤ _; omega
    · refine ⟨by rw [hx]; exact q1, by rw [hx]; exact q2, by rw [hx]; show (0 : Int) ≤ (nV l : Int); omega, by rw [hx]; show (nV l : Int) ≤ 100000; omega, .inr (by rw [hx]; exact hne), fun h' => absurd h' (by rw [hx]; exact hne), ?_, ?_⟩
      · rw [hb, show (rdR op l).1.op = op from by rw [hx]; rfl]; exact h
      · rw [hb, show (rdR op l).1.op = op from by rw [hx]; rfl]
end Go.Proofs.Ytohnkjjjejnkpaa
