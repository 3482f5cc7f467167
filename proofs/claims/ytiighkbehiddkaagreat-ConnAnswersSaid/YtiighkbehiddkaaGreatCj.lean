/-
 What ConnAnswers plays, plainly.
-/
import Derived.Test.YtiighkbehiddkaaGreatCf
import Derived.Test.YtiighkbehiddkaaGreatRspQ
namespace Go.Proofs.YtiighkbehiddkaaGreat
open Go.RowKit
set_option linter.unusedVariables false
set_option maxRecDepth 4000
/-- For a valid response the reference writes what Write writes. -/
theorem refW_eq {r : Rsp} (h : RV r) : refW r = wbytes r := by
 unfold refW wbytes
 by_cases he : r.err = 0
 ·rw [if_pos he, if_pos he]
  congr 1
  rcases op_cases r.op with ⟨_, e, n⟩ | ⟨_, e, n⟩ | ⟨_, e, n⟩ | ⟨_, e, n⟩ | ⟨_, _, _, _, e, n⟩
  ·have ho := h.only.trans (only_w he n)
   have hi : r.items = [] := by rw [ho]
   have hn : r.nums = [] := by rw [ho]
   rw [e, hi, hn]
   unfold hdR
   rw [if_pos n]
   show (enc r.ver ++ enc r.count.toNat) ++ ([] ++ []) = enc r.ver ++ (enc r.count.toNat ++ [])
   rw [List.append_nil, List.append_nil, List.append_nil]
  ·have ho := h.only.trans (only_i he (.inl n))
   have hn : r.nums = [] := by rw [ho]
   rw [e, hn]
   unfold hdR
   rw [if_neg (by omega), if_neg (by omega), if_neg (by omega), if_neg (by omega)]
   rfl
  ·have ho := h.only.trans (only_i he (.inr n))
   have hn : r.nums = [] := by rw [ho]
   rw [e, hn]
   unfold hdR
   rw [if_neg (by omega), if_pos n]
   rfl
  ·have ho := h.only.trans (only_n he n)
   have hi : r.items = [] := by rw [ho]
   rw [e, hi]
   unfold hdR
   rw [if_neg (by omega), if_neg (by omega), if_neg (by omega), if_pos n]
   show enc r.nums.length ++ ([] ++ r.nums.flatMap enc) = (enc r.nums.length ++ r.nums.flatMap enc) ++ []
   rw [List.append_nil, List.nil_append]
  ·have ho := h.only.trans (only_c he n)
   have hi : r.items = [] := by rw [ho]
   have hn : r.nums = [] := by rw [ho]
   rw [e, hi, hn]
   unfold hdR
   rw [if_neg (by omega), if_neg (by omega), if_pos n]
   rfl
 ·rw [if_neg he, if_neg he]
def rA (n : Nat) : Rsp := ⟨4, 0, [⟨1, List.replicate n 0, 1, 18446744073709551615⟩], 0, 0, []⟩
theorem rA_ok (n : Nat) : RspOk (rA n) := ⟨by show (0 : Nat) < _; decide, (fun x hx => by rw [List.mem_singleton.1 hx]; exact ⟨by show (1 : Nat) < _; decide, by show (18446744073709551615 : Nat) < _; decide⟩), (fun x hx => by cases hx), by show (0 : Int) ≤ _; decide⟩
theorem rA_sz {n : Nat} (h : n ≤ 500) : rsz (rA n) ≤ 4398046511104 := by
 show ((List.replicate n (0 : UInt8)).length + 40 + 0) + 10 * 0 + 100 ≤ _
 rw [List.length_replicate]; omega
theorem rA_ms (n : Nat) : ∀ x ∈ (rA n).items, 0 ≤ x.mark ∧ x.mark ≤ 9223372036854775807 := fun x hx => by rw [List.mem_singleton.1 hx]; exact ⟨by show (0 : Int) ≤ 1; decide, by show (1 : Int) ≤ _; decide⟩
theorem rA_rv {n : Nat} (h : n ≤ 500) : RV (rA n) := by
 refine ⟨by show (0 : Int) ≤ 4; decide, by show (4 : Int) ≤ 15; decide, by show (0 : Int) ≤ 0; decide, by show (0 : Int) ≤ _; decide, (fun z => absurd z.1 (by show ¬ (4 : Int) = 0; decide)), (only_i (r := rA n) rfl (.inl (nd_b rfl))).symm, ?_, (fun z => z.2.2 rfl), (fun z => absurd z.2.1 (by show ¬ needsN 4 = 109; decide)), by show (0 : Int) ≤ 0; decide, by show (0 : Int) ≤ _; decide, Nat.zero_le _⟩
 show (okV _ && true) = true
 rw [Bool.and_true]
 refine decide_eq_true ⟨fun z => absurd z.1 (by show ¬ (1 : Int) = 0; decide), by show (0 : Int) ≤ 1; decide, by show (1 : Int) ≤ 2; decide, ?_⟩
 show (List.replicate n (0 : UInt8)).length ≤ _
 rw [List.length_replicate]; omega
theorem refB_eq {r : Rsp} (h : RV r) (hb : RspOk r) : refB r = cnFr r := by
 unfold refB cnFr
 rw [wr_val hb h, refW_eq h]
theorem rdI_blkL {w : World} {lo g n : Nat} {xs : List IT} (h : Blk w g 80 (xs.flatMap itc)) (hn : n = xs.length) (h16 : n ≤ 16) (hv : VR w lo xs) (hg : lo ≤ g) : RdI w lo w.heap.size (some ⟨g, 0, none⟩) n xs :=
 rowI_rd (.inr ⟨g, rfl, hn, h16, hg, h⟩) hv
theorem vr_one {w : World} {lo : Nat} {x : IT} (h : RdB w lo w.heap.size x.2.1 x.2.2 x.1.value) : VR w lo [x] := fun y hy => by rw [List.mem_singleton.1 hy]; exact h
theorem rE_rv : RV (rspO 4 5) := ⟨by decide, by decide, by decide, by decide, by decide, (by show rspO 4 5 = onlyR (rspO 4 5); exact (only_e (by decide)).symm), rfl, (fun z => absurd z.1 (by decide)), (fun z => absurd z.1 (by decide)), by decide, by decide, Nat.zero_le _⟩
/-- Between two rounds. -/
structure A1 (o i : Nat) (s : Cn) : Prop where
 ci : s.ci = 24
 co : s.co = o
 cp : s.cp = 16
 held : s.held = []
 cl : s.cl = false
 ph : s.ph = 1
 tk : s.tk + s.out.length = s.pt
 pt : s.pt ≤ i * 2097200
/-- A response waits. -/
structure A3 (o i : Nat) (b : List UInt8) (s : Cn) : Prop where
 ci : s.ci = 24
 co : s.co = o
 cp : s.cp = 16
 held : s.held = []
 cl : s.cl = false
 ph : s.ph = 3
 bs : s.bs = b
 tk : s.tk + s.out.length = s.pt
 pt : s.pt ≤ i * 2097200
section
variable {o i : Nat} {b : List UInt8} {s : Cn} {r : Rsp}
def aD (s : Cn) : Cn := (cnDel s [3, 4, 1, 97]).1
def aS (s : Cn) : Cn := (cnStep (aD s)).1
def aA (s : Cn) (r : Rsp) : Cn := (cnAns (aS s) r).1
theorem a1_del (h : A1 o i s) : cnDel s [3, 4, 1, 97] = ({ s with held := [3, 4, 1, 97] }, 4, 0) := by
 unfold cnDel
 rw [if_neg (by rw [h.cl]; decide), h.held, h.ci]; rfl
theorem a1_nx (h : A1 o i s) : cnNx (aD s) = (false, [], (4, [1, 97]), 0) := by
 unfold aD cnNx
 rw [a1_del h]
 show dnext s.cp s.cl [3, 4, 1, 97] = _
 rw [h.cp, h.cl]
 decide +kernel
theorem rd_get : rdC 4 [1, 97] = (kGet, 0) := by
 have h : (rdC 4 [1, 97]).2 = 0 := by decide +kernel
 refine Prod.ext (Cmd.ext_iff'.2 ⟨?_, ?_, ?_, ?_, ?_, ?_, ?_, ?_, ?_, ?_⟩) h <;> decide +kernel
theorem a1_step (h : A1 o i s) : cnStep (aD s) = ({ s with held := [], cmd := kGet, ph := 2 }, 1) := by
 have hn := a1_nx h
 have e1 : (aD s).ph = 1 := by unfold aD; rw [a1_del h]; exact h.ph
 have hc : cnCm (aD s) = (kGet, 0) := by unfold cnCm; rw [hn]; exact rd_get
 have e2 : cnStep (aD s) = cnRd (aD s) := if_pos e1
 rw [e2, cnRd_c (by rw [hn]; decide) (by rw [hn]) (by rw [hc]), hc]
 unfold cnD
 rw [hn]
 unfold aD
 rw [a1_del h]
 show (({ s with held := [], cl := false, cmd := kGet, ph := 2 } : Cn), 1) = _
 rw [← h.cl]
theorem a1_ans (h : A1 o i s) (hv : RV r) (hb : RspOk r) (ho : r.op = 4) : cnAns (aS s) r = (if o < (cnFr r).length then cnW (aS s) (rspO 4 5) else cnW (aS s) r, 0) := by
 have e : aS s = { s with held := [], cmd := kGet, ph := 2 } := by unfold aS; rw [a1_step h]
 have h2 : (aS s).ph = 2 := by rw [e]
 have hw : (wrR r).2 = 0 := by rw [wr_val hb hv]
 unfold cnAns
 rw [if_neg (fun q => q h2), if_neg (by rintro (q | q); exact q hw; exact q (by rw [e]; exact ho))]
 rw [show (aS s).co = o from by rw [e]; exact h.co, ho]
 split <;> rfl
theorem a1_3 (h : A1 o i s) (r' : Rsp) : A3 o i (cnFr r') (cnW (aS s) r') := by
 have e : aS s = { s with held := [], cmd := kGet, ph := 2 } := by unfold aS; rw [a1_step h]
 rw [e]
 exact ⟨h.ci, h.co, h.cp, rfl, h.cl, rfl, rfl, h.tk, h.pt⟩
theorem aA_out (h : A1 o i s) (hv : RV r) (hb : RspOk r) (ho : r.op = 4) : (aA s r).out = s.out := by
 have e : aS s = { s with held := [], cmd := kGet, ph := 2 } := by unfold aS; rw [a1_step h]
 unfold aA
 rw [a1_ans h hv hb ho]
 show (if _ then _ else _ : Cn).out = _
 split <;> rw [e] <;> rfl
theorem a3_blocked (h : A3 o i b s) (hl : o < s.out.length + b.length) (hc : s.out.length ≤ o) : cnStep s = (s, 5) := by
 have e := h.ph
 exact (if_neg (by omega)).trans ((if_neg (by omega)).trans ((if_neg (by omega)).trans (if_pos (by rw [h.bs, h.co]; omega))))
theorem a3_write (h : A3 o i b s) (hl : ¬ o < s.out.length + b.length) : cnStep s = (cnOut s, 4) := by
 have e := h.ph
 exact (if_neg (by omega)).trans ((if_neg (by omega)).trans ((if_neg (by omega)).trans (if_neg (by rw [h.bs, h.co]; omega))))
theorem a3_out (h : A3 o i b s) (hb : b.length ≤ 2097200) : A1 o (i + 1) (cnOut s) := by
 refine ⟨h.ci, h.co, h.cp, h.held, h.cl, ?_, ?_, ?_⟩
 ·show (if s.cl = true then 4 else 1) = 1
  rw [h.cl]; rfl
 ·show s.tk + (s.out ++ s.bs).length = s.pt + s.bs.length
  have := h.tk
  rw [List.length_append]; omega
 ·show s.pt + s.bs.length ≤ _
  have := h.pt
  rw [h.bs, Nat.succ_mul]; omega
theorem a3_drain (h : A3 o i b s) (n : Nat) : A3 o i b (cnDr s (n : Int)).1 ∧ (cnDr s (n : Int)).2.2 = 0 ∧ (bpeek s.out (n : Int)).1.length = min n s.out.length := by
 have e : bpeek s.out (n : Int) = (s.out.take n, 0) := by rw [bpk_ok (by omega)]; rfl
 have hl : (bpeek s.out (n : Int)).1.length = min n s.out.length := by rw [e]; exact List.length_take ..
 refine ⟨⟨h.ci, h.co, h.cp, h.held, h.cl, h.ph, h.bs, ?_, h.pt⟩, by show (bpeek s.out (n : Int)).2 = 0; rw [e], hl⟩
 show s.tk + (bpeek s.out (n : Int)).1.length + (s.out.drop (bpeek s.out (n : Int)).1.length).length = s.pt
 have := h.tk
 rw [hl, List.length_drop]; omega
theorem a1_new (h : 64 ≤ o) : A1 o 0 (cnNew 24 o 16) := ⟨rfl, rfl, rfl, rfl, rfl, rfl, rfl, Nat.zero_le _⟩
end
end Go.Proofs.YtiighkbehiddkaaGreat