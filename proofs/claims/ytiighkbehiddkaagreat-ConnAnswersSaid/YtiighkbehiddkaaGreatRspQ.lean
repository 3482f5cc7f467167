/-
 Responses, plainly: which ones Write writes. No program in sight. No condition.
-/
import Derived.Test.YtiighkbehiddkaaGreatRspP
import Derived.Test.YtiighkbehiddkaaGreatRl
namespace Go.Proofs.YtiighkbehiddkaaGreat
open Go.RowKit
set_option linter.unusedVariables false
set_option maxRecDepth 4000
theorem okV_okI {x : Itm} (h : okV x = true) : okI x = true ∧ (x.mark = 0 → x = zI) := by
 have h1 : ¬ (x.mark = 0 ∧ ¬ x = zI) ∧ 0 ≤ x.mark ∧ x.mark ≤ 2 ∧ x.value.length ≤ 65536 := of_decide_eq_true h
 exact ⟨decide_eq_true h1.2, fun e => Decidable.not_not.1 fun h2 => h1.1 ⟨e, h2⟩⟩
theorem all_okI {xs : List Itm} (h : xs.all okV = true) : xs.all okI = true := List.all_eq_true.2 fun x hx => (okV_okI (List.all_eq_true.1 h x hx)).1
/-- The parts, by the number of the command. -/
theorem op_cases (op : Int) : ((op = 1 ∨ op = 2 ∨ op = 3) ∧ pl op = [118, 99] ∧ needsN op = 119) ∨ (op = 4 ∧ pl op = [111, 105] ∧ needsN op = 105) ∨ (op = 5 ∧ pl op = [109, 105] ∧ needsN op = 109) ∨ (op = 15 ∧ pl op = [110] ∧ needsN op = 110) ∨ (¬ (op = 1 ∨ op = 2 ∨ op = 3) ∧ ¬ op = 4 ∧ ¬ op = 5 ∧ ¬ op = 15 ∧ pl op = [99] ∧ needsN op = 99) := by
 by_cases h1 : op = 1 ∨ op = 2 ∨ op = 3
 ·exact .inl ⟨h1, (pl_a h1).1, nd_a h1⟩
 by_cases h2 : op = 4
 ·exact .inr (.inl ⟨h2, (pl_b h2).1, nd_b h2⟩)
 by_cases h3 : op = 5
 ·exact .inr (.inr (.inl ⟨h3, (pl_c h3).1, nd_c h3⟩))
 by_cases h4 : op = 15
 ·exact .inr (.inr (.inr (.inl ⟨h4, (pl_d h4).1, nd_d h4⟩)))
 ·exact .inr (.inr (.inr (.inr ⟨h1, h2, h3, h4, pl_e h1 h2 h3 h4, nd_e h1 h2 h3 h4⟩)))
theorem only_w {r : Rsp} (he : r.err = 0) (n : needsN r.op = 119) : onlyR r = ⟨r.op, r.err, [], r.ver, r.count, []⟩ := by unfold onlyR; rw [if_neg (fun q => q he), if_pos n]; rfl
theorem only_i {r : Rsp} (he : r.err = 0) (n : needsN r.op = 105 ∨ needsN r.op = 109) : onlyR r = ⟨r.op, r.err, r.items, 0, 0, []⟩ := by
 unfold onlyR; rw [if_neg (fun q => q he), if_neg (by rcases n with n | n <;> rw [n] <;> decide), if_pos n]; rfl
theorem only_c {r : Rsp} (he : r.err = 0) (n : needsN r.op = 99) : onlyR r = ⟨r.op, r.err, [], 0, r.count, []⟩ := by
 unfold onlyR; rw [if_neg (fun q => q he), if_neg (by rw [n]; decide), if_neg (by rw [n]; decide), if_pos n]; rfl
theorem only_n {r : Rsp} (he : r.err = 0) (n : needsN r.op = 110) : onlyR r = ⟨r.op, r.err, [], 0, 0, r.nums⟩ := by
 unfold onlyR; rw [if_neg (fun q => q he), if_neg (by rw [n]; decide), if_neg (by rw [n]; decide), if_neg (by rw [n]; decide), if_pos n]; rfl
theorem only_e {op e : Int} (h : ¬ e = 0) : onlyR (rspO op e) = rspO op e := if_pos h
/-! The other way: a valid response is read back. -/
theorem num_enc8 {n : Nat} (r : List UInt8) (h : n < 18446744073709551616) : nV (enc n ++ r) = n ∧ nR (enc n ++ r) = r ∧ nK (enc n ++ r) = true := by
 have e := vget_enc h r
 refine ⟨by unfold nV; rw [e], by unfold nR; rw [e]; exact List.drop_left, by unfold nK; rw [e]; rfl⟩
theorem rK_enc {n m : Nat} (r : List UInt8) (h : n < 18446744073709551616) (hm : n ≤ m) : rK m (enc n ++ r) = true := by
 obtain ⟨a, b, c⟩ := num_enc8 r h
 unfold rK; rw [c, a, decide_eq_true hm]; rfl
theorem part_enc8 {v : List UInt8} (r : List UInt8) (h : v.length ≤ 65536) : bV (pb v ++ r) = v ∧ bR (pb v ++ r) = r ∧ bK (pb v ++ r) = true := by
 have e := vpart_enc (b := v) (most := 65536) (by omega) (by omega) r
 have e2 : pb v ++ r = enc v.length ++ (v ++ r) := by unfold pb; rw [List.append_assoc]
 refine ⟨by unfold bV; rw [e2, e], by unfold bR; rw [e2, e]; exact drop_enc2 v r, by unfold bK; rw [e2, e]; rfl⟩
theorem item_enc {x : Itm} (q : List UInt8) (h : okV x = true) (h1 : x.ver < 18446744073709551616) (h2 : x.dead < 18446744073709551616) : iV (wI x ++ q) = x ∧ iR (wI x ++ q) = q ∧ iK (wI x ++ q) = true := by
 obtain ⟨ho, hz⟩ := okV_okI h
 have hm : 0 ≤ x.mark ∧ x.mark ≤ 2 ∧ x.value.length ≤ 65536 := of_decide_eq_true ho
 by_cases h0 : x.mark = 0
 ·have hx := hz h0
  subst hx
  rw [wI_zero rfl]
  obtain ⟨a, b, c⟩ := num_enc8 (n := 0) q (by decide)
  have a' : nV (enc (zI.mark).toNat ++ q) = 0 := a
  have k : rK 2 (enc (zI.mark).toNat ++ q) = true := rK_enc (n := 0) q (by decide) (by decide)
  obtain ⟨e1, e2, e3⟩ := iK_zero k a'
  exact ⟨e2, e3.trans b, e1⟩
 ·have e : wI x ++ q = enc x.mark.toNat ++ (enc x.ver ++ (enc x.dead ++ (pb x.value ++ q))) := by
   unfold wI; rw [if_neg h0]; simp only [List.append_assoc]
  rw [e]
  obtain ⟨a, b, c⟩ := num_enc8 (n := x.mark.toNat) (enc x.ver ++ (enc x.dead ++ (pb x.value ++ q))) (by omega)
  obtain ⟨a2, b2, c2⟩ := num_enc8 (enc x.dead ++ (pb x.value ++ q)) h1
  obtain ⟨a3, b3, c3⟩ := num_enc8 (pb x.value ++ q) h2
  obtain ⟨a4, b4, c4⟩ := part_enc8 q hm.2.2
  have k : rK 2 (enc x.mark.toNat ++ (enc x.ver ++ (enc x.dead ++ (pb x.value ++ q)))) = true := rK_enc _ (by omega) (by omega)
  obtain ⟨e1, e2, e3⟩ := iK_full k (by rw [a]; omega)
  rw [a, b, a2, b2, a3, b3, a4] at e2
  rw [b, b2, b3, b4] at e3
  rw [b, c2, b2, c3, b3, c4] at e1
  refine ⟨?_, e3, e1⟩
  rw [e2, Int.toNat_of_nonneg hm.1]
theorem items_enc (xs : List Itm) (q : List UInt8) (h : xs.all okV = true) (hb : ∀ x ∈ xs, x.ver < 18446744073709551616 ∧ x.dead < 18446744073709551616) : ∀ k, k ≤ xs.length → iS k (xs.flatMap wI ++ q) = (xs.take k, (xs.drop k).flatMap wI ++ q, true)
 | 0, _ => by rw [iS, List.take_zero, List.drop_zero]
 | k + 1, hk => by
  have ih := items_enc xs q h hb k (by omega)
  have hx : xs[k]? = some xs[k] := List.getElem?_eq_getElem (by omega)
  have hm : xs[k] ∈ xs := List.getElem_mem _
  have hd : xs.drop k = xs[k] :: xs.drop (k + 1) := List.drop_eq_getElem_cons (by omega)
  have e : (xs.drop k).flatMap wI ++ q = wI xs[k] ++ ((xs.drop (k + 1)).flatMap wI ++ q) := by rw [hd, List.flatMap_cons, List.append_assoc]
  obtain ⟨a, b, c⟩ := item_enc ((xs.drop (k + 1)).flatMap wI ++ q) (List.all_eq_true.1 h _ hm) (hb _ hm).1 (hb _ hm).2
  rw [iS, ih]
  show (xs.take k ++ [iV ((xs.drop k).flatMap wI ++ q)], iR ((xs.drop k).flatMap wI ++ q), true && iK ((xs.drop k).flatMap wI ++ q)) = _
  rw [e, a, b, c, List.take_add_one, hx]; rfl
theorem nums_enc (xs : List Nat) (q : List UInt8) (hb : ∀ n ∈ xs, n < 18446744073709551616) : ∀ k, k ≤ xs.length → uS k (xs.flatMap enc ++ q) = (xs.take k, (xs.drop k).flatMap enc ++ q, true)
 | 0, _ => by rw [uS, List.take_zero, List.drop_zero]
 | k + 1, hk => by
  have ih := nums_enc xs q hb k (by omega)
  have hx : xs[k]? = some xs[k] := List.getElem?_eq_getElem (by omega)
  have hm : xs[k] ∈ xs := List.getElem_mem _
  have hd : xs.drop k = xs[k] :: xs.drop (k + 1) := List.drop_eq_getElem_cons (by omega)
  have e : (xs.drop k).flatMap enc ++ q = enc xs[k] ++ ((xs.drop (k + 1)).flatMap enc ++ q) := by rw [hd, List.flatMap_cons, List.append_assoc]
  obtain ⟨a, b, c⟩ := num_enc8 ((xs.drop (k + 1)).flatMap enc ++ q) (hb _ hm)
  rw [uS, ih]
  show (xs.take k ++ [nV ((xs.drop k).flatMap enc ++ q)], nR ((xs.drop k).flatMap enc ++ q), true && nK ((xs.drop k).flatMap enc ++ q)) = _
  rw [e, a, b, c, List.take_add_one, hx]; rfl
/-- A valid response without an error, read back from its parts. -/
theorem end_enc {r : Rsp} (h : RV r) (hb : RspOk r) (he : r.err = 0) : (gend r.op ((pl r.op).flatMap (putC r))).ok = true ∧ (gend r.op ((pl r.op).flatMap (putC r))).x = r ∧ (gend r.op ((pl r.op).flatMap (putC r))).l = [] ∧ (pl r.op).all (okP r) = true := by
 rcases op_cases r.op with ⟨_, e, n⟩ | ⟨_, e, n⟩ | ⟨_, e, n⟩ | ⟨_, e, n⟩ | ⟨_, _, _, _, e, n⟩
 ·have ho := h.only.trans (only_w he n)
  rw [he] at ho
  have hl : (pl r.op).flatMap (putC r) = enc r.ver ++ (enc r.count.toNat ++ []) := by rw [e]; rfl
  have hg : ∀ l, gend r.op l = gstep (gstep ⟨rspO r.op 0, true, l, true⟩ 118) 99 := fun l => by unfold gend gst; rw [e]; rfl
  have c1 := h.c1
  have c2 := h.c2
  obtain ⟨a, b, c⟩ := num_enc8 (enc r.count.toNat ++ []) hb.1
  obtain ⟨a2, b2, k2⟩ := num_enc8 (n := r.count.toNat) [] (by omega)
  have k := rK_enc (n := r.ver) (m := 18446744073709551615) (enc r.count.toNat ++ []) hb.1 (by have := hb.1; omega)
  have k' := rK_enc (n := r.count.toNat) (m := 1099511627776) [] (by omega) (by omega)
  rw [hg, hl]
  refine ⟨?_, ?_, ?_, ?_⟩
  ·show (true && rK 18446744073709551615 (enc r.ver ++ (enc r.count.toNat ++ [])) && rK 1099511627776 (nR (enc r.ver ++ (enc r.count.toNat ++ [])))) = true
   rw [k, b, k']; rfl
  ·show ({ rspO r.op 0 with ver := nV (enc r.ver ++ (enc r.count.toNat ++ [])), count := (nV (nR (enc r.ver ++ (enc r.count.toNat ++ []))) : Int) } : Rsp) = r
   rw [a, b, a2, Int.toNat_of_nonneg c1]; exact ho.symm
  ·show nR (nR (enc r.ver ++ (enc r.count.toNat ++ []))) = []
   rw [b, b2]
  ·rw [e]
   show (true && (decide (0 ≤ r.count ∧ r.count ≤ 1099511627776) && true)) = true
   rw [decide_eq_true ⟨c1, c2⟩]; rfl
 ·have ho := h.only.trans (only_i he (.inl n))
  rw [he] at ho
  have h1 : r.items.length = 1 := Decidable.not_not.1 fun q => h.one ⟨he, n, q⟩
  have hl : (pl r.op).flatMap (putC r) = r.items.flatMap wI ++ [] := by rw [e]; rfl
  have hg : ∀ l, gend r.op l = gstep (gstep ⟨rspO r.op 0, true, l, true⟩ 111) 105 := fun l => by unfold gend gst; rw [e]; rfl
  have hi := items_enc r.items [] h.items hb.2.1 1 (by omega)
  rw [hg, hl]
  refine ⟨?_, ?_, ?_, ?_⟩
  ·show (iS 1 (r.items.flatMap wI ++ [])).2.2 = true
   rw [hi]
  ·show ({ rspO r.op 0 with items := (iS 1 (r.items.flatMap wI ++ [])).1 } : Rsp) = r
   rw [hi]
   show ({ rspO r.op 0 with items := r.items.take 1 } : Rsp) = r
   rw [List.take_of_length_le (by omega)]; exact ho.symm
  ·show (iS 1 (r.items.flatMap wI ++ [])).2.1 = []
   rw [hi]
   show (r.items.drop 1).flatMap wI ++ [] = []
   rw [List.drop_of_length_le (by omega)]; rfl
  ·rw [e]
   show (decide (r.items.length = 1) && (r.items.all okI && true)) = true
   rw [decide_eq_true h1, all_okI h.items]; rfl
 ·have ho := h.only.trans (only_i he (.inr n))
  rw [he] at ho
  have hmn : ¬ (r.items.length < 1 ∨ 16 < r.items.length) := fun q => h.many ⟨he, n, q⟩
  have hl : (pl r.op).flatMap (putC r) = enc r.items.length ++ (r.items.flatMap wI ++ []) := by rw [e]; rfl
  have hg : ∀ l, gend r.op l = gstep (gstep ⟨rspO r.op 0, true, l, true⟩ 109) 105 := fun l => by unfold gend gst; rw [e]; rfl
  obtain ⟨a, b, c⟩ := num_enc8 (n := r.items.length) (r.items.flatMap wI ++ []) (by omega)
  have k := rK_enc (n := r.items.length) (m := 16) (r.items.flatMap wI ++ []) (by omega) (by omega)
  have hi := items_enc r.items [] h.items hb.2.1 r.items.length (Nat.le_refl _)
  have hrl : (List.replicate (nV (enc r.items.length ++ (r.items.flatMap wI ++ []))) zI).length = r.items.length := by rw [List.length_replicate, a]
  rw [hg, hl]
  refine ⟨?_, ?_, ?_, ?_⟩
  ·show (true && (rK 16 (enc r.items.length ++ (r.items.flatMap wI ++ [])) && decide (0 < nV (enc r.items.length ++ (r.items.flatMap wI ++ [])))) && (iS (List.replicate (nV (enc r.items.length ++ (r.items.flatMap wI ++ []))) zI).length (nR (enc r.items.length ++ (r.items.flatMap wI ++ [])))).2.2) = true
   rw [hrl, b, hi, k, a, decide_eq_true (show 0 < r.items.length by omega)]; rfl
  ·show ({ rspO r.op 0 with items := (iS (List.replicate (nV (enc r.items.length ++ (r.items.flatMap wI ++ []))) zI).length (nR (enc r.items.length ++ (r.items.flatMap wI ++ [])))).1 } : Rsp) = r
   rw [hrl, b, hi]
   show ({ rspO r.op 0 with items := r.items.take r.items.length } : Rsp) = r
   rw [List.take_length]; exact ho.symm
  ·show (iS (List.replicate (nV (enc r.items.length ++ (r.items.flatMap wI ++ []))) zI).length (nR (enc r.items.length ++ (r.items.flatMap wI ++ [])))).2.1 = []
   rw [hrl, b, hi]
   show (r.items.drop r.items.length).flatMap wI ++ [] = []
   rw [List.drop_length]; rfl
  ·rw [e]
   show (decide (1 ≤ r.items.length ∧ r.items.length ≤ 16) && (r.items.all okI && true)) = true
   rw [decide_eq_true (by omega), all_okI h.items]; rfl
 ·have ho := h.only.trans (only_n he n)
  rw [he] at ho
  have hn := h.nums
  have hl : (pl r.op).flatMap (putC r) = enc r.nums.length ++ (r.nums.flatMap enc ++ []) := by
   rw [e]
   show (enc r.nums.length ++ r.nums.flatMap enc) ++ [] = _
   rw [List.append_assoc]
  have hg : ∀ l, gend r.op l = gstep ⟨rspO r.op 0, true, l, true⟩ 110 := fun l => by unfold gend gst; rw [e]; rfl
  obtain ⟨a, b, c⟩ := num_enc8 (n := r.nums.length) (r.nums.flatMap enc ++ []) (by omega)
  have k := rK_enc (n := r.nums.length) (m := 64) (r.nums.flatMap enc ++ []) (by omega) (by omega)
  have hi := nums_enc r.nums [] hb.2.2.1 r.nums.length (Nat.le_refl _)
  rw [hg, hl]
  refine ⟨?_, ?_, ?_, ?_⟩
  ·show (true && (rK 64 (enc r.nums.length ++ (r.nums.flatMap enc ++ [])) && (uS (nV (enc r.nums.length ++ (r.nums.flatMap enc ++ []))) (nR (enc r.nums.length ++ (r.nums.flatMap enc ++ [])))).2.2)) = true
   rw [a, b, hi, k]; rfl
  ·show ({ rspO r.op 0 with nums := (uS (nV (enc r.nums.length ++ (r.nums.flatMap enc ++ []))) (nR (enc r.nums.length ++ (r.nums.flatMap enc ++ [])))).1 } : Rsp) = r
   rw [a, b, hi]
   show ({ rspO r.op 0 with nums := r.nums.take r.nums.length } : Rsp) = r
   rw [List.take_length]; exact ho.symm
  ·show (uS (nV (enc r.nums.length ++ (r.nums.flatMap enc ++ []))) (nR (enc r.nums.length ++ (r.nums.flatMap enc ++ [])))).2.1 = []
   rw [a, b, hi]
   show (r.nums.drop r.nums.length).flatMap enc ++ [] = []
   rw [List.drop_length]; rfl
  ·rw [e]
   show (decide (r.nums.length ≤ 64) && true) = true
   rw [decide_eq_true hn]; rfl
 ·have ho := h.only.trans (only_c he n)
  rw [he] at ho
  have c1 := h.c1
  have c2 := h.c2
  have hl : (pl r.op).flatMap (putC r) = enc r.count.toNat ++ [] := by rw [e]; rfl
  have hg : ∀ l, gend r.op l = gstep ⟨rspO r.op 0, true, l, true⟩ 99 := fun l => by unfold gend gst; rw [e]; rfl
  obtain ⟨a2, b2, k2⟩ := num_enc8 (n := r.count.toNat) [] (by omega)
  have k' := rK_enc (n := r.count.toNat) (m := 1099511627776) [] (by omega) (by omega)
  rw [hg, hl]
  refine ⟨?_, ?_, ?_, ?_⟩
  ·show (true && rK 1099511627776 (enc r.count.toNat ++ [])) = true
   rw [k']; rfl
  ·show ({ rspO r.op 0 with count := (nV (enc r.count.toNat ++ []) : Int) } : Rsp) = r
   rw [a2, Int.toNat_of_nonneg c1]; exact ho.symm
  ·show nR (enc r.count.toNat ++ []) = []
   rw [b2]
  ·rw [e]
   show (decide (0 ≤ r.count ∧ r.count ≤ 1099511627776) && true) = true
   rw [decide_eq_true ⟨c1, c2⟩]; rfl
theorem wr_of_valid {r : Rsp} (h : RV r) (hb : RspOk r) : WrOk r := by
 have e1 := h.e1
 have e2 := h.e2
 have hpo : plOk r.op = true ∨ ¬ r.err = 0 := by
  by_cases h0 : r.err = 0
  ·refine .inl (decide_eq_true ?_)
   have a := h.o1
   have b := h.o2
   have c : ¬ r.op = 0 := fun q => h.ne ⟨q, h0⟩
   omega
  ·exact .inr h0
 by_cases h0 : r.err = 0
 ·obtain ⟨g1, g2, g3, g4⟩ := end_enc h hb h0
  have hw : wbytes r = enc 0 ++ (pl r.op).flatMap (putC r) := by unfold wbytes; rw [if_pos h0, h0]; rfl
  obtain ⟨a, b, c⟩ := num_enc8 (n := 0) ((pl r.op).flatMap (putC r)) (by decide)
  have k := rK_enc (n := 0) (m := 100000) ((pl r.op).flatMap (putC r)) (by decide) (by decide)
  have hq : RdOkR r.op (wbytes r) := by
   rw [hw]
   refine ⟨h.o1, h.o2, k, ?_, fun _ => by rw [b]; exact ⟨g1, by rw [g3]; rfl⟩, fun q => absurd a q⟩
   rcases hpo with q | q
   ·exact .inl q
   ·exact absurd h0 q
  have hr := rdR_0 hq (by rw [hw]; exact a)
  refine ⟨h.o1, h.o2, e1, e2, hpo, fun _ => g4, by rw [hr], ?_⟩
  rw [hr]
  show (gend r.op (nR (wbytes r))).x = r
  rw [hw, b]; exact g2
 ·have hw : wbytes r = enc r.err.toNat ++ [] := by rw [wbytes_e h0, List.append_nil]
  obtain ⟨a, b, c⟩ := num_enc8 (n := r.err.toNat) [] (by omega)
  have k := rK_enc (n := r.err.toNat) (m := 100000) [] (by omega) (by omega)
  have hnz : ¬ nV (wbytes r) = 0 := by rw [hw, a]; omega
  have hq : RdOkR r.op (wbytes r) := by
   refine ⟨h.o1, h.o2, by rw [hw]; exact k, .inr hnz, fun q => absurd q hnz, fun _ => by rw [hw, b]; rfl⟩
  have hr := rdR_e hq hnz
  refine ⟨h.o1, h.o2, e1, e2, hpo, fun q => absurd q h0, by rw [hr], ?_⟩
  rw [hr]
  show rspO r.op (nV (wbytes r)) = r
  rw [hw, a, Int.toNat_of_nonneg e1]
  exact (h.only.trans (if_pos h0)).symm
theorem wr_val {r : Rsp} (hb : RspOk r) (h : RV r) : wrR r = ((codeR r, wbytes r), 0) := wrR_ok (wr_of_valid h hb)
end Go.Proofs.YtiighkbehiddkaaGreat