/-
  Responses, plainly: what the reference reads is what Read reads. No program in sight. No condition.
-/
import Derived.Test.YtohnkjjjejnkpaaRt
import Derived.Test.YtohnkjjjejnkpaaRspQ
namespace Go.Proofs.Ytohnkjjjejnkpaa
open Go.RowKit
set_option linter.unusedVariables false
set_option maxRecDepth 4000

theorem numX_k {l : List UInt8} (b : Bool) (h : nK l = true) : numX l b = (nV l, nR l, b) := if_pos (of_decide_eq_true h)
theorem numX_f {l : List UInt8} {b : Bool} (h : (numX l b).2.2 = false) : b = false ∧ nK l = true := by
  by_cases k : (vget l).2.2 = 0
  · rw [numX_ok b k] at h; exact ⟨h, decide_eq_true k⟩
  · rw [numX_bad b k] at h; cases h
theorem bytX_k {l : List UInt8} (b : Bool) (h : bK l = true) : bytX l b = (bV l, bR l, b) := if_pos (of_decide_eq_true h)
theorem bytX_f {l : List UInt8} {b : Bool} (h : (bytX l b).2.2 = false) : b = false ∧ bK l = true := by
  by_cases k : (vpart l 65536).2.2 = 0
  · rw [bytX_ok b k] at h; exact ⟨h, decide_eq_true k⟩
  · rw [bytX_bad b k] at h; cases h
theorem itX_k {l : List UInt8} (h : iK l = true) : itX l false = (iV l, iR l, false) ∧ (numX l false).1 ≤ 2 := by
  have hk : rK 2 l = true := by
    cases hr : rK 2 l with
    | true => rfl
    | false => rw [iK_bad hr] at h; cases h
  have n1 := numX_k false (rK_nK hk)
  have h2 := rK_le hk
  by_cases h0 : nV l = 0
  · obtain ⟨_, ev, er⟩ := iK_zero hk h0
    refine ⟨?_, by rw [n1]; exact h2⟩
    rw [ev, er]
    unfold itX
    rw [n1]
    exact if_pos h0
  · obtain ⟨ek, ev, er⟩ := iK_full hk h0
    rw [ek, Bool.and_eq_true, Bool.and_eq_true] at h
    obtain ⟨⟨k1, k2⟩, k3⟩ := h
    refine ⟨?_, by rw [n1]; exact h2⟩
    rw [ev, er]
    unfold itX
    rw [n1]
    refine (if_neg h0).trans ?_
    show it1 (nV l) (numX (nR l) false) = _
    rw [numX_k false k1]
    show it2 (nV l) (nV (nR l)) (numX (nR (nR l)) false) = _
    rw [numX_k false k2]
    show it3 (nV l) (nV (nR l)) (nV (nR (nR l))) (bytX (nR (nR (nR l))) false) = _
    rw [bytX_k false k3]
    rfl
/-- One item, from the numbers it is made of. -/
theorem itX_f {l : List UInt8} {b : Bool} (h : (itX l b).2.2 = false) (h2 : (numX l b).1 ≤ 2) : b = false ∧ iK l = true := by
  obtain ⟨n0, l0, b0, e0⟩ : ∃ n x y, numX l b = (n, x, y) := ⟨_, _, _, rfl⟩
  rw [e0] at h2
  replace h2 : n0 ≤ 2 := h2
  by_cases h0 : n0 = 0
  · rw [itX_zero e0 h0] at h
    replace h : b0 = false := h
    obtain ⟨hb, hk⟩ := numX_f (l := l) (b := b) (by rw [e0]; exact h)
    rw [numX_k b hk] at e0
    have hv : nV l = 0 := (congrArg Prod.fst e0).trans h0
    exact ⟨hb, (iK_zero (by unfold rK; rw [hk, decide_eq_true (show nV l ≤ 2 by omega)]; rfl) hv).1⟩
  · obtain ⟨n1, l1, b1, e1⟩ : ∃ n x y, numX l0 b0 = (n, x, y) := ⟨_, _, _, rfl⟩
    obtain ⟨n2, l2, b2, e2⟩ : ∃ n x y, numX l1 b1 = (n, x, y) := ⟨_, _, _, rfl⟩
    obtain ⟨v3, l3, b3, e3⟩ : ∃ n x y, bytX l2 b2 = (n, x, y) := ⟨_, _, _, rfl⟩
    rw [itX_full e0 h0 e1 e2 e3] at h
    replace h : b3 = false := h
    obtain ⟨f2, k3⟩ := bytX_f (l := l2) (b := b2) (by rw [e3]; exact h)
    obtain ⟨f1, k2⟩ := numX_f (l := l1) (b := b1) (by rw [e2]; exact f2)
    obtain ⟨f0, k1⟩ := numX_f (l := l0) (b := b0) (by rw [e1]; exact f1)
    obtain ⟨fb, k0⟩ := numX_f (l := l) (b := b) (by rw [e0]; exact f0)
    rw [numX_k b k0] at e0
    rw [numX_k b0 k1] at e1
    rw [numX_k b1 k2] at e2
    simp only [Prod.mk.injEq] at e0 e1 e2
    obtain ⟨rfl, rfl, rfl⟩ := e0
    obtain ⟨rfl, rfl, rfl⟩ := e1
    obtain ⟨rfl, rfl, rfl⟩ := e2
    have hk : rK 2 l = true := by unfold rK; rw [k0, decide_eq_true h2]; rfl
    refine ⟨fb, ?_⟩
    rw [(iK_full hk h0).1, k1, k2, k3]; rfl
theorem xS_k {l : List UInt8} : ∀ k, (iS k l).2.2 = true → xS k l false = ((iS k l).1, (iS k l).2.1, false) ∧ xM k l false = true
  | 0, _ => ⟨rfl, rfl⟩
  | k + 1, h => by
    rw [iS, Bool.and_eq_true] at h
    obtain ⟨e, m⟩ := xS_k k h.1
    obtain ⟨e2, m2⟩ := itX_k h.2
    refine ⟨?_, ?_⟩
    · rw [xS, iS, e]
      show ((iS k l).1 ++ [(itX (iS k l).2.1 false).1], (itX (iS k l).2.1 false).2) = _
      rw [e2]
    · rw [xM, m, e]
      show (true && decide ((numX (iS k l).2.1 false).1 ≤ 2)) = true
      rw [decide_eq_true m2]; rfl
theorem xS_f {l : List UInt8} {b : Bool} : ∀ k, (xS k l b).2.2 = false → xM k l b = true → b = false ∧ (iS k l).2.2 = true
  | 0, h, _ => ⟨h, rfl⟩
  | k + 1, h, m => by
    rw [xS] at h
    rw [xM, Bool.and_eq_true, decide_eq_true_eq] at m
    obtain ⟨f, k1⟩ := itX_f h m.2
    obtain ⟨hb, hi⟩ := xS_f k f m.1
    subst hb
    rw [(xS_k k hi).1] at k1
    replace k1 : iK (iS k l).2.1 = true := k1
    refine ⟨rfl, ?_⟩
    rw [iS]
    show ((iS k l).2.2 && iK (iS k l).2.1) = true
    rw [hi, k1]; rfl
theorem kS_k {l : List UInt8} : ∀ k, (uS k l).2.2 = true → kS k l false = ((uS k l).1, (uS k l).2.1, false)
  | 0, _ => rfl
  | k + 1, h => by
    rw [uS, Bool.and_eq_true] at h
    rw [kS, uS, kS_k k h.1]
    show ((uS k l).1 ++ [(numX (uS k l).2.1 false).1], (numX (uS k l).2.1 false).2) = _
    rw [numX_k false h.2]
theorem kS_f {l : List UInt8} {b : Bool} : ∀ k, (kS k l b).2.2 = false → b = false ∧ (uS k l).2.2 = true
  | 0, h => ⟨h, rfl⟩
  | k + 1, h => by
    rw [kS] at h
    obtain ⟨f, k1⟩ := numX_f h
    obtain ⟨hb, hi⟩ := kS_f k f
    subst hb
    rw [kS_k k hi] at k1
    replace k1 : nK (uS k l).2.1 = true := k1
    refine ⟨rfl, ?_⟩
    rw [uS]
    show ((uS k l).2.2 && nK (uS k l).2.1) = true
    rw [hi, k1]; rfl
theorem fin_inv {r : Rsp} {s : List UInt8 × Bool} (h : (finX r s).2 = true) : s.2 = false ∧ s.1.length = 0 ∧ RV r := by
  by_cases q : s.2 = false ∧ s.1.length = 0 ∧ RV r
  · exact q
  · rw [fin_bad q] at h; cases h
theorem fin_no {r : Rsp} {s : List UInt8 × Bool} (h : (finX r s).2 = false) : finX r s = (rspO 0 0, false) := by
  by_cases q : s.2 = false ∧ s.1.length = 0 ∧ RV r
  · rw [fin_ok q] at h; cases h
  · exact fin_bad q
/-- The end, without anything wrong. -/
structure TailOk (op : Int) (n v it nu : Nat) (l : List UInt8) : Prop where
  hn : n ≤ 1099511627776
  ht : it ≤ 16
  hw : nu ≤ 64
  hi : (iS it l).2.2 = true
  hu : (uS nu (iS it l).2.1).2.2 = true
  he : (uS nu (iS it l).2.1).2.1.length = 0
  hv : RV ⟨op, 0, (iS it l).1, v, (n : Int), (uS nu (iS it l).2.1).1⟩
theorem tX_ok {op : Int} {n v it nu : Nat} {l : List UInt8} (h : TailOk op n v it nu l) : tailX op (n, v, it, nu, l, false) = (⟨op, 0, (iS it l).1, v, (n : Int), (uS nu (iS it l).2.1).1⟩, true) := by
  obtain ⟨a, b, c, d, e, f, g⟩ := h
  obtain ⟨x1, x2⟩ := xS_k it d
  have k1 := kS_k nu e
  have q : ¬ (1099511627776 < n ∨ 16 < it ∨ 64 < nu ∨ xM it l false = false) := by rw [x2]; rintro (q | q | q | q) <;> first | omega | cases q
  refine (if_neg q).trans ?_
  show tl1 op n v nu (xS it l false) = _
  rw [x1]
  show tl2 op n v (iS it l).1 (kS nu (iS it l).2.1 false) = _
  rw [k1]
  exact fin_ok ⟨rfl, f, g⟩
theorem tX_inv {op : Int} {n v it nu : Nat} {l : List UInt8} {b : Bool} (h : (tailX op (n, v, it, nu, l, b)).2 = true) : b = false ∧ TailOk op n v it nu l := by
  by_cases q : 1099511627776 < n ∨ 16 < it ∨ 64 < nu ∨ xM it l b = false
  · rw [show tailX op (n, v, it, nu, l, b) = (rspO 0 0, false) from if_pos q] at h; cases h
  rw [show tailX op (n, v, it, nu, l, b) = tl1 op n v nu (xS it l b) from if_neg q] at h
  have hm : xM it l b = true := by
    cases hx : xM it l b with
    | true => rfl
    | false => exact absurd (.inr (.inr (.inr hx))) q
  obtain ⟨f, he, hv⟩ := fin_inv (show (finX ⟨op, 0, (xS it l b).1, v, (n : Int), (kS nu (xS it l b).2.1 (xS it l b).2.2).1⟩ (kS nu (xS it l b).2.1 (xS it l b).2.2).2).2 = true from h)
  obtain ⟨f1, hu⟩ := kS_f nu f
  obtain ⟨f0, hi⟩ := xS_f it f1 hm
  subst f0
  rw [(xS_k it hi).1] at he hv hu
  replace hu : (uS nu (iS it l).2.1).2.2 = true := hu
  replace he : (kS nu (iS it l).2.1 false).2.1.length = 0 := he
  replace hv : RV ⟨op, 0, (iS it l).1, v, (n : Int), (kS nu (iS it l).2.1 false).1⟩ := hv
  rw [kS_k nu hu] at he hv
  exact ⟨rfl, by omega, by omega, by omega, hi, hu, he, hv⟩
theorem tX_no {op : Int} {h : Nat × Nat × Nat × Nat × List UInt8 × Bool} (q : (tailX op h).2 = false) : tailX op h = (rspO 0 0, false) := by
  unfold tailX at *
  split at q
  · rename_i c; exact if_pos c
  · rename_i c; exact (if_neg c).trans (fin_no q)
theorem refRd_no {op : Int} {l : List UInt8} (q : (refRd op l).2 = false) : refRd op l = (rspO 0 0, false) := by
  unfold refRd at *
  split at q
  · rename_i c; exact if_pos c
  · rename_i c
    split at q
    · rename_i c2; exact (if_neg c).trans ((if_pos c2).trans (fin_no q))
    · rename_i c2; exact (if_neg c).trans ((if_neg c2).trans (tX_no q))
/-! The head, by what the command needs. -/
theorem hX_w {op : Int} {m : List UInt8} (n : needsN op = 119) (k1 : nK m = true) (k2 : nK (nR m) = true) : hX op m false = (nV (nR m), nV m, 0, 0, nR (nR m), false) := by
  unfold hX
  rw [if_pos n, numX_k false k1]
  show ((numX (nR m) false).1, nV m, 0, 0, (numX (nR m) false).2) = _
  rw [numX_k false k2]
theorem hX_i {op : Int} {m : List UInt8} (n : needsN op = 105) (b : Bool) : hX op m b = (0, 0, 1, 0, m, b) := by
  unfold hX; rw [if_neg (by rw [n]; decide), if_pos n]
theorem hX_m {op : Int} {m : List UInt8} (n : needsN op = 109) (b : Bool) : hX op m b = (0, 0, (numX m b).1, 0, (numX m b).2) := by
  unfold hX; rw [if_neg (by rw [n]; decide), if_neg (by rw [n]; decide), if_pos n]
theorem hX_c {op : Int} {m : List UInt8} (n : needsN op = 99) (b : Bool) : hX op m b = ((numX m b).1, 0, 0, 0, (numX m b).2) := by
  unfold hX; rw [if_neg (by rw [n]; decide), if_neg (by rw [n]; decide), if_neg (by rw [n]; decide), if_pos n]
theorem hX_n {op : Int} {m : List UInt8} (n : needsN op = 110) (b : Bool) : hX op m b = (0, 0, 0, (numX m b).1, (numX m b).2) := by
  unfold hX; rw [if_neg (by rw [n]; decide), if_neg (by rw [n]; decide), if_neg (by rw [n]; decide), if_neg (by rw [n]; decide), if_pos n]
theorem hX_w0 {op : Int} {m : List UInt8} (n : needsN op = 119) (b : Bool) : hX op m b = ((numX (numX m b).2.1 (numX m b).2.2).1, (numX m b).1, 0, 0, (numX (numX m b).2.1 (numX m b).2.2).2) := by
  unfold hX; rw [if_pos n]
theorem refRd_of {op : Int} {l : List UInt8} (h1 : 0 ≤ op) (h2 : op ≤ 15) (k : nK l = true) (h3 : nV l ≤ 100000) : refRd op l = if ¬ nV l = 0 then finX (rspO op (nV l : Int)) (nR l, false) else tailX op (hX op (nR l) false) := by
  unfold refRd
  rw [numX_k false k]
  refine if_neg ?_
  rintro (q | q)
  · exact q ⟨h1, h2⟩
  · replace q : 100000 < nV l := q
    omega
/-- What Read takes, the reference takes. -/
theorem refRd_ok {op : Int} {l : List UInt8} (h' : RdOkR op l) : refRd op l = ((rdR op l).1, true) := by
  have hv : RV (rdR op l).1 := rd_valid (by unfold rdR; rw [if_pos h'])
  obtain ⟨q1, q2, q3, q4, q5, q6⟩ := id h'
  rw [refRd_of q1 q2 (rK_nK q3) (rK_le q3)]
  by_cases h0 : nV l = 0
  · rw [if_neg (fun q => q h0)]
    have hr := rdR_0 h' h0
    obtain ⟨k1, k2⟩ := q5 h0
    rw [hr] at hv ⊢
    replace hv : RV (gend op (nR l)).x := hv
    show _ = ((gend op (nR l)).x, true)
    generalize nR l = m at *
    rcases op_cases op with ⟨_, e, n⟩ | ⟨_, e, n⟩ | ⟨_, e, n⟩ | ⟨_, e, n⟩ | ⟨_, _, _, _, e, n⟩
    · have hg : gend op m = gstep (gstep ⟨rspO op 0, true, m, true⟩ 118) 99 := by unfold gend gst; rw [e]; rfl
      rw [hg] at k1 k2 hv ⊢
      have hk : (true && rK 18446744073709551615 m && rK 1099511627776 (nR m)) = true := k1
      rw [Bool.true_and, Bool.and_eq_true] at hk
      rw [hX_w n (rK_nK hk.1) (rK_nK hk.2)]
      exact tX_ok ⟨rK_le hk.2, by decide, by decide, rfl, rfl, k2, hv⟩
    · have hg : gend op m = gstep (gstep ⟨rspO op 0, true, m, true⟩ 111) 105 := by unfold gend gst; rw [e]; rfl
      rw [hg] at k1 k2 hv ⊢
      rw [hX_i n]
      exact tX_ok ⟨by decide, by decide, by decide, k1, rfl, k2, hv⟩
    · have hg : gend op m = gstep (gstep ⟨rspO op 0, true, m, true⟩ 109) 105 := by unfold gend gst; rw [e]; rfl
      rw [hg] at k1 k2 hv ⊢
      have hrl : (List.replicate (nV m) zI).length = nV m := List.length_replicate
      have hk0 : (true && (rK 16 m && decide (0 < nV m)) && (iS (List.replicate (nV m) zI).length (nR m)).2.2) = true := k1
      have hx : (gstep (gstep ⟨rspO op 0, true, m, true⟩ 109) 105).x = { rspO op 0 with items := (iS (nV m) (nR m)).1 } := by
        show ({ rspO op 0 with items := (iS (List.replicate (nV m) zI).length (nR m)).1 } : Rsp) = _
        rw [hrl]
      replace k2 : (iS (List.replicate (nV m) zI).length (nR m)).2.1.length = 0 := k2
      rw [hrl] at hk0 k2
      rw [Bool.true_and, Bool.and_eq_true, Bool.and_eq_true, decide_eq_true_eq] at hk0
      obtain ⟨⟨a1, a2⟩, a3⟩ := hk0
      rw [hx] at hv ⊢
      rw [hX_m n, numX_k false (rK_nK a1)]
      exact tX_ok ⟨by decide, rK_le a1, by decide, a3, rfl, k2, hv⟩
    · have hg : gend op m = gstep ⟨rspO op 0, true, m, true⟩ 110 := by unfold gend gst; rw [e]; rfl
      rw [hg] at k1 k2 hv ⊢
      have hk : (true && (rK 64 m && (uS (nV m) (nR m)).2.2)) = true := k1
      rw [Bool.true_and, Bool.and_eq_true] at hk
      rw [hX_n n, numX_k false (rK_nK hk.1)]
      exact tX_ok ⟨by decide, by decide, rK_le hk.1, rfl, hk.2, k2, hv⟩
    · have hg : gend op m = gstep ⟨rspO op 0, true, m, true⟩ 99 := by unfold gend gst; rw [e]; rfl
      rw [hg] at k1 k2 hv ⊢
      have hk : (true && rK 1099511627776 m) = true := k1
      rw [Bool.true_and] at hk
      rw [hX_c n, numX_k false (rK_nK hk)]
      exact tX_ok ⟨rK_le hk, by decide, by decide, rfl, rfl, k2, hv⟩
  · rw [if_pos h0]
    have hr := rdR_e h' h0
    rw [hr] at hv ⊢
    exact fin_ok ⟨rfl, q6 h0, hv⟩
theorem plOk_of {op : Int} {x : Rsp} (h : RV x) (ho : x.op = op) (he : x.err = 0) : plOk op = true := by
  have a := h.o1
  have b := h.o2
  have c : ¬ x.op = 0 := fun q => h.ne ⟨q, he⟩
  exact decide_eq_true (by omega)
theorem rK_of {m : Nat} {l : List UInt8} (h : nK l = true) (h2 : nV l ≤ m) : rK m l = true := by unfold rK; rw [h, decide_eq_true h2]; rfl
/-- What the reference takes, Read takes. -/
theorem refRd_inv {op : Int} {l : List UInt8} (h : (refRd op l).2 = true) : RdOkR op l := by
  by_cases c : ¬ (0 ≤ op ∧ op ≤ 15) ∨ 100000 < (numX l false).1
  · rw [show refRd op l = (rspO 0 0, false) from if_pos c] at h; cases h
  have o12 : 0 ≤ op ∧ op ≤ 15 := Decidable.not_not.1 fun q => c (.inl q)
  have hk : nK l = true := by
    by_cases h0 : ¬ (numX l false).1 = 0
    · rw [show refRd op l = finX (rspO op ((numX l false).1 : Int)) (numX l false).2 from (if_neg c).trans (if_pos h0)] at h
      exact (numX_f (fin_inv h).1).2
    · rw [show refRd op l = tailX op (hX op (numX l false).2.1 (numX l false).2.2) from (if_neg c).trans (if_neg h0)] at h
      rcases op_cases op with ⟨_, e, n⟩ | ⟨_, e, n⟩ | ⟨_, e, n⟩ | ⟨_, e, n⟩ | ⟨_, _, _, _, e, n⟩
      · rw [hX_w0 n] at h
        exact (numX_f (numX_f (numX_f (tX_inv h).1).1).1).2
      · rw [hX_i n] at h
        exact (numX_f (tX_inv h).1).2
      · rw [hX_m n] at h
        exact (numX_f (numX_f (tX_inv h).1).1).2
      · rw [hX_n n] at h
        exact (numX_f (numX_f (tX_inv h).1).1).2
      · rw [hX_c n] at h
        exact (numX_f (numX_f (tX_inv h).1).1).2
  rw [numX_k false hk] at c
  have h3 : nV l ≤ 100000 := Nat.not_lt.1 fun q => c (.inr q)
  rw [refRd_of o12.1 o12.2 hk h3] at h
  by_cases h0 : nV l = 0
  · rw [if_neg (fun q => q h0)] at h
    suffices hs : plOk op = true ∧ (gend op (nR l)).ok = true ∧ (gend op (nR l)).l.length = 0 from ⟨o12.1, o12.2, rK_of hk h3, .inl hs.1, fun _ => hs.2, fun q => absurd h0 q⟩
    generalize nR l = m at *
    rcases op_cases op with ⟨_, e, n⟩ | ⟨_, e, n⟩ | ⟨_, e, n⟩ | ⟨_, e, n⟩ | ⟨_, _, _, _, e, n⟩
    · have hg : gend op m = gstep (gstep ⟨rspO op 0, true, m, true⟩ 118) 99 := by unfold gend gst; rw [e]; rfl
      rw [hg]
      have h' := h
      rw [hX_w0 n] at h'
      obtain ⟨f1, k2⟩ := numX_f (tX_inv h').1
      have k1 := (numX_f f1).2
      rw [numX_k false k1] at k2
      replace k2 : nK (nR m) = true := k2
      rw [hX_w n k1 k2] at h
      obtain ⟨_, T⟩ := tX_inv h
      refine ⟨plOk_of T.hv rfl rfl, ?_, T.he⟩
      show (true && rK 18446744073709551615 m && rK 1099511627776 (nR m)) = true
      rw [rK_of k1 (by have := nV_lt m; omega), rK_of k2 T.hn]; rfl
    · have hg : gend op m = gstep (gstep ⟨rspO op 0, true, m, true⟩ 111) 105 := by unfold gend gst; rw [e]; rfl
      rw [hg]
      rw [hX_i n] at h
      obtain ⟨_, T⟩ := tX_inv h
      exact ⟨plOk_of T.hv rfl rfl, T.hi, T.he⟩
    · have hg : gend op m = gstep (gstep ⟨rspO op 0, true, m, true⟩ 109) 105 := by unfold gend gst; rw [e]; rfl
      rw [hg]
      have hrl : (List.replicate (nV m) zI).length = nV m := List.length_replicate
      have h' := h
      rw [hX_m n] at h'
      have k1 := (numX_f (tX_inv h').1).2
      rw [hX_m n, numX_k false k1] at h
      obtain ⟨_, T⟩ := tX_inv h
      have hm := T.hv.many
      have hl := (iS_len (nR m) (nV m)).1
      have hp : 0 < nV m := by
        refine Nat.pos_of_ne_zero fun q => hm ⟨rfl, n, .inl ?_⟩
        show (iS (nV m) (nR m)).1.length < 1
        omega
      refine ⟨plOk_of T.hv rfl rfl, ?_, ?_⟩
      · show (true && (rK 16 m && decide (0 < nV m)) && (iS (List.replicate (nV m) zI).length (nR m)).2.2) = true
        rw [hrl, rK_of k1 T.ht, decide_eq_true hp, T.hi]; rfl
      · show (iS (List.replicate (nV m) zI).length (nR m)).2.1.length = 0
        rw [hrl]; exact T.he
    · have hg : gend op m = gstep ⟨rspO op 0, true, m, true⟩ 110 := by unfold gend gst; rw [e]; rfl
      rw [hg]
      have h' := h
      rw [hX_n n] at h'
      have k1 := (numX_f (tX_inv h').1).2
      rw [hX_n n, numX_k false k1] at h
      obtain ⟨_, T⟩ := tX_inv h
      refine ⟨plOk_of T.hv rfl rfl, ?_, T.he⟩
      show (true && (rK 64 m && (uS (nV m) (nR m)).2.2)) = true
      rw [rK_of k1 T.hw, show (uS (nV m) (nR m)).2.2 = true from T.hu]; rfl
    · have hg : gend op m = gstep ⟨rspO op 0, true, m, true⟩ 99 := by unfold gend gst; rw [e]; rfl
      rw [hg]
      have h' := h
      rw [hX_c n] at h'
      have k1 := (numX_f (tX_inv h').1).2
      rw [hX_c n, numX_k false k1] at h
      obtain ⟨_, T⟩ := tX_inv h
      refine ⟨plOk_of T.hv rfl rfl, ?_, T.he⟩
      show (true && rK 1099511627776 m) = true
      rw [rK_of k1 T.hn]; rfl
  · rw [if_pos h0] at h
    obtain ⟨_, hl, hv⟩ := fin_inv h
    exact ⟨o12.1, o12.2, rK_of hk h3, .inr h0, fun q => absurd q h0, fun _ => hl⟩
/-- The reference's Read is Read. -/
theorem refRd_eq (op : Int) (l : List UInt8) : refRd op l = if (rdR op l).2 = 0 then ((rdR op l).1, true) else (rspO 0 0, false) := by
  by_cases h : RdOkR op l
  · have e : (rdR op l).2 = 0 := by unfold rdR; rw [if_pos h]
    rw [if_pos e]; exact refRd_ok h
  · have e : ¬ (rdR op l).2 = 0 := by rw [rdR_bad h]; decide
    rw [if_neg e]
    refine refRd_no ?_
    cases hb : (refRd op l).2 with
    | false => rfl
    | true => exact absurd (refRd_inv hb) h
end Go.Proofs.Ytohnkjjjejnkpaa
