/-
 What comes of bytes that are delivered in pieces, plainly.
-/
import Derived.Test.YtiighkbehiddkaaGreatCg
import Derived.Test.YtiighkbehiddkaaGreatCodec
namespace Go.Proofs.YtiighkbehiddkaaGreat
open Go.RowKit
set_option linter.unusedVariables false
set_option maxRecDepth 4000
def dmeas (cl : Bool) (l : List UInt8) : Nat := if cl = true then 0 else l.length + 1
/-- All that comes of bytes: the frames, the errors. -/
def dallF (m : Nat) : Nat → Bool → List UInt8 → List ((UInt8 × List UInt8) × Nat)
 | 0, _, _ => []
 | n + 1, cl, l => if (dnext m cl l).2.2.2 = 4 ∨ (dnext m cl l).2.2.2 = 14 then [] else ((dnext m cl l).2.2.1, (dnext m cl l).2.2.2) :: dallF m n (dnext m cl l).1 (dnext m cl l).2.1
theorem dnext_less {m : Nat} {cl : Bool} {l : List UInt8} (hm : m ≤ 2097152) (h : ¬ ((dnext m cl l).2.2.2 = 4 ∨ (dnext m cl l).2.2.2 = 14)) : dmeas (dnext m cl l).1 (dnext m cl l).2.1 < dmeas cl l := by
 cases cl with
 | true => exact absurd (.inr rfl) h
 | false =>
  have hp := fread_props l (m : Int)
  rcases fread_cases l hm with ⟨h1, h2⟩ | ⟨h1, _⟩ | ⟨h1, _, _, h4⟩ | ⟨h1, _, _, h4⟩
  ·rw [dnext_o (by omega) (by omega)]; simp [dmeas]; omega
  ·rw [dnext_o (by omega) (by omega)] at h; exact absurd (.inl h1) h
  ·rw [dnext_5 h1]; simp [dmeas]
  ·rw [dnext_6 h1]; simp [dmeas]; omega
theorem dallF_eq {m : Nat} (hm : m ≤ 2097152) : ∀ (n k : Nat) (cl : Bool) (l : List UInt8), dmeas cl l < n → dmeas cl l < k → dallF m n cl l = dallF m k cl l
 | 0, _, _, _, h, _ => by omega
 | _, 0, _, _, _, h => by omega
 | n + 1, k + 1, cl, l, h1, h2 => by
  rw [dallF, dallF]
  by_cases h : (dnext m cl l).2.2.2 = 4 ∨ (dnext m cl l).2.2.2 = 14
  ·rw [if_pos h, if_pos h]
  ·have := dnext_less hm h
   rw [if_neg h, if_neg h, dallF_eq hm n k _ _ (by omega) (by omega)]
def dall (m : Nat) (cl : Bool) (l : List UInt8) : List ((UInt8 × List UInt8) × Nat) := dallF m (dmeas cl l + 1) cl l
theorem dall_end {m : Nat} {cl : Bool} {l : List UInt8} (h : (dnext m cl l).2.2.2 = 4 ∨ (dnext m cl l).2.2.2 = 14) : dall m cl l = [] := by rw [dall, dallF, if_pos h]
theorem dall_cons {m : Nat} {cl : Bool} {l : List UInt8} (hm : m ≤ 2097152) (h : ¬ ((dnext m cl l).2.2.2 = 4 ∨ (dnext m cl l).2.2.2 = 14)) : dall m cl l = ((dnext m cl l).2.2.1, (dnext m cl l).2.2.2) :: dall m (dnext m cl l).1 (dnext m cl l).2.1 := by
 have := dnext_less hm h
 rw [dall, dallF, if_neg h, dall, dallF_eq hm _ (dmeas (dnext m cl l).1 (dnext m cl l).2.1 + 1) _ _ (by omega) (by omega)]
theorem vgetF_app (r : List UInt8) : ∀ (l : List UInt8) (i acc : Nat), (vgetF i acc l).2.2 ≠ 4 → vgetF i acc (l ++ r) = vgetF i acc l
 | [], i, acc, h => absurd rfl h
 | c :: cs, i, acc, h => by
  rw [List.cons_append, vgetF, vgetF]
  rw [vgetF] at h
  split
  ·rfl
  ·next h1 =>
   rw [if_neg h1] at h
   split
   ·rfl
   ·next h2 =>
    rw [if_neg h2] at h
    exact vgetF_app r cs _ _ h
theorem vget_app {l : List UInt8} (r : List UInt8) (h : (vget l).2.2 ≠ 4) : vget (l ++ r) = vget l := vgetF_app r l 0 0 h
/-- What follows a frame, or an error, does not turn it. -/
theorem fread_app {l : List UInt8} {m : Nat} (hm : m ≤ 2097152) (r : List UInt8) (h : (fread l (m : Int)).2.2 ≠ 4) : fread (l ++ r) (m : Int) = fread l (m : Int) := by
 have h0 : (0 : Int) ≤ (m : Int) ∧ (m : Int) ≤ 2097152 := by omega
 have hs := vget_size l
 by_cases h1 : (vget l).2.2 = 4
 ·rw [fread_short0 h0 h1] at h; exact absurd rfl h
 ·have hv := vget_app r h1
  by_cases h2 : (vget l).2.2 ≠ 0 ∨ (m : Int) + 1 < ((vget l).1 : Int)
  ·rw [fread_long h0 h1 h2, fread_long h0 (by rw [hv]; exact h1) (by rw [hv]; exact h2)]
  ·have h3 : (vget l).2.2 = 0 := by omega
   have h4 : ¬ (m : Int) + 1 < ((vget l).1 : Int) := fun h => h2 (.inr h)
   by_cases h5 : (vget l).1 = 0
   ·rw [fread_fmt h0 h3 h5, fread_fmt h0 (by rw [hv]; exact h3) (by rw [hv]; exact h5)]
   ·by_cases h6 : l.length - (vget l).2.1 < (vget l).1
    ·rw [fread_short h0 h3 h4 h5 h6] at h; exact absurd rfl h
    ·rw [fread_ok h0 h3 h4 h5 h6, fread_ok h0 (by rw [hv]; exact h3) (by rw [hv]; exact h4) (by rw [hv]; exact h5) (by rw [hv, List.length_append]; omega), hv]
     have e1 : (l ++ r).getD (vget l).2.1 0 = l.getD (vget l).2.1 0 := by
      rw [List.getD_eq_getElem?_getD, List.getD_eq_getElem?_getD, List.getElem?_append_left (by omega)]
     have e2 : ((l ++ r).drop ((vget l).2.1 + 1)).take ((vget l).1 - 1) = (l.drop ((vget l).2.1 + 1)).take ((vget l).1 - 1) := by
      rw [List.drop_append_of_le_length (by omega), List.take_append_of_le_length (by rw [List.length_drop]; omega)]
     rw [e1, e2]
theorem dall_t (m : Nat) (l : List UInt8) : dall m true l = [] := dall_end (.inr rfl)
theorem dfeed_n0 (cl : Bool) (l : List UInt8) : dfeed cl l [] = l := by unfold dfeed; split <;> simp
theorem dnext_stay {m : Nat} (hm : m ≤ 2097152) {cl : Bool} {l : List UInt8} (h : (dnext m cl l).2.2.2 = 4 ∨ (dnext m cl l).2.2.2 = 14) : (dnext m cl l).1 = cl ∧ (dnext m cl l).2.1 = l := by
 cases cl with
 | true => exact ⟨rfl, rfl⟩
 | false =>
  have hp := fread_props l (m : Int)
  rcases fread_cases l hm with ⟨h1, h2⟩ | ⟨h1, _, h3, _⟩ | ⟨h1, _, _, h4⟩ | ⟨h1, _, _, h4⟩
  ·rw [dnext_o (by omega) (by omega)] at h; simp only at h; omega
  ·rw [dnext_o (by omega) (by omega), h3]; exact ⟨rfl, rfl⟩
  ·rw [dnext_5 h1] at h; simp only at h; omega
  ·rw [dnext_6 h1] at h; simp only at h; omega
/-- What comes next does not hang on what is fed behind it. -/
theorem dall_feed {m : Nat} (hm : m ≤ 2097152) {cl : Bool} {l : List UInt8} (h : ¬ ((dnext m cl l).2.2.2 = 4 ∨ (dnext m cl l).2.2.2 = 14)) (r : List UInt8) :
  dall m cl (dfeed cl l r) = ((dnext m cl l).2.2.1, (dnext m cl l).2.2.2) :: dall m (dnext m cl l).1 (dfeed (dnext m cl l).1 (dnext m cl l).2.1 r) := by
 cases cl with
 | true => exact absurd (.inr rfl) h
 | false =>
  have hp := fread_props l (m : Int)
  have h4 : (fread l (m : Int)).2.2 ≠ 4 := fun e => h (.inl (by rw [dnext_o (by omega) (by omega)]; exact e))
  have ha := fread_app hm r h4
  show dall m false (l ++ r) = _
  have key : dnext m false (l ++ r) = ((dnext m false l).1, dfeed (dnext m false l).1 (dnext m false l).2.1 r, (dnext m false l).2.2) ∨ ((dnext m false l).1 = true ∧ (dnext m false (l ++ r)).1 = true ∧ (dnext m false (l ++ r)).2.2 = (dnext m false l).2.2) := by
   by_cases h6 : (fread l (m : Int)).2.2 = 6
   ·have h1 : 1 ≤ l.length := by rcases fread_cases l hm with ⟨k, _⟩ | ⟨k, _⟩ | ⟨k, _⟩ | ⟨k, _, _, k4⟩ <;> omega
    left
    rw [dnext_6 h6, dnext_6 (by rw [ha]; exact h6), ha]
    simp only [dfeed, Bool.false_eq_true, if_false]
    rw [List.drop_append_of_le_length h1]
   ·by_cases h5 : (fread l (m : Int)).2.2 = 5
    ·right
     rw [dnext_5 h5, dnext_5 (by rw [ha]; exact h5), ha]
     exact ⟨rfl, rfl, rfl⟩
    ·left
     rw [dnext_o h6 h5, dnext_o (by rw [ha]; exact h6) (by rw [ha]; exact h5), ha]
     simp only [dfeed, Bool.false_eq_true, if_false]
     rw [List.drop_append_of_le_length hp.2.1]
  rcases key with key | ⟨k1, k2, k3⟩
  ·rw [dall_cons hm (by rw [key]; exact h), key]
  ·rw [dall_cons hm (by rw [k3]; exact h), k3, k1, k2, dall_t, dall_t]
theorem vgetF_sh : ∀ (l : List UInt8) (i acc : Nat), i ≤ 9 → (vgetF i acc l).2.2 = 4 → l.length + i ≤ 9
 | [], i, acc, h, _ => by simpa using h
 | c :: cs, i, acc, h, hs => by
  rw [vgetF] at hs
  split at hs
  ·cases hs
  ·next h1 =>
   split at hs
   ·cases hs
   ·next h2 =>
    have hi : i ≠ 9 := fun e => h1 (.inl ⟨e, by omega⟩)
    have := vgetF_sh cs (i + 1) _ (by omega) hs
    rw [List.length_cons]; omega
/-- A frame that is not whole is not long. -/
theorem short_len {l : List UInt8} {m : Nat} (hm : m ≤ 2097152) (h16 : 16 ≤ m) (h : (fread l (m : Int)).2.2 = 4) : l.length < m + 8 := by
 have h0 : (0 : Int) ≤ (m : Int) ∧ (m : Int) ≤ 2097152 := by omega
 by_cases h1 : (vget l).2.2 = 4
 ·have := vgetF_sh l 0 0 (by omega) h1; omega
 ·by_cases h2 : (vget l).2.2 ≠ 0 ∨ (m : Int) + 1 < ((vget l).1 : Int)
  ·rw [fread_long h0 h1 h2] at h; cases h
  ·have h3 : (vget l).2.2 = 0 := by omega
   have h4 : ¬ (m : Int) + 1 < ((vget l).1 : Int) := fun h => h2 (.inr h)
   by_cases h5 : (vget l).1 = 0
   ·rw [fread_fmt h0 h3 h5] at h; cases h
   ·by_cases h6 : l.length - (vget l).2.1 < (vget l).1
    ·have e := congrArg List.length (vget_inv h3)
     have hs := vget_size l
     rw [List.length_take, Nat.min_eq_left hs] at e
     have hl : (enc (vget l).1).length ≤ 4 := by
      by_cases q1 : (vget l).1 < 128
      ·rw [enc_len_of 0 _ (by decide) (by omega) (.inl rfl)]; decide
      by_cases q2 : (vget l).1 < 16384
      ·rw [enc_len_of 1 _ (by decide) (by omega) (.inr (by omega))]; decide
      by_cases q3 : (vget l).1 < 2097152
      ·rw [enc_len_of 2 _ (by decide) (by omega) (.inr (by omega))]; decide
      ·rw [enc_len_of 3 _ (by decide) (by omega) (.inr (by omega))]; decide
     omega
    ·rw [fread_ok h0 h3 h4 h5 h6] at h; cases h
abbrev Ev := (UInt8 × List UInt8) × Nat
/-- What an event gives: the command, the bytes of the answer. -/
def evC (e : Ev) : List Cmd := if e.2 = 0 ∧ (rdC e.1.1 e.1.2).2 = 0 then [(rdC e.1.1 e.1.2).1] else []
def evO (e : Ev) : List UInt8 := if e.2 = 0 then (if (rdC e.1.1 e.1.2).2 = 0 then cnFr (rspO (rdC e.1.1 e.1.2).1.op 9) else cnFr (rspO 0 ((rdC e.1.1 e.1.2).2 : Int))) else cnFr (rspO 0 (e.2 : Int))
def pdC (s : Cn) : List Cmd := if s.ph = 2 then [s.cmd] else []
def pdO (s : Cn) : List UInt8 := if s.ph = 2 then cnFr (rspO s.cmd.op 9) else if s.ph = 3 then s.bs else []
/-- What a run keeps: d was put in; C, O have come out. -/
structure RI (i o p : Nat) (d : List UInt8) (C : List Cmd) (O : List UInt8) (s : Cn) : Prop where
 ci : s.ci = i
 co : s.co = o
 cp : s.cp = p
 out : s.out = []
 ok : CnOk s
 cl : s.ph = 1 ∨ s.ph = 2 → s.cl = false
 c4 : s.ph = 4 → s.cl = true
 op : s.ph = 2 → 1 ≤ s.cmd.op ∧ s.cmd.op ≤ 15
 bs : s.ph = 3 → s.bs.length ≤ 64
 ev : ∃ E : List Ev, (∀ q, dall p false (d ++ q) = E ++ dall p s.cl (dfeed s.cl s.held q)) ∧ C ++ pdC s = E.flatMap evC ∧ O ++ pdO s = E.flatMap evO ∧ s.cl = E.any (fun e => e.2 == 5)
def fC (p : Nat) (b : List UInt8) : List Cmd := (dall p false b).flatMap evC
def fO (p : Nat) (b : List UInt8) : List UInt8 := (dall p false b).flatMap evO
def fX (p : Nat) (b : List UInt8) : Bool := (dall p false b).any (fun e => e.2 == 5)
theorem ri_new {i o p : Nat} (h : CnOk (cnNew i o p)) : RI i o p [] [] [] (cnNew i o p) := ⟨rfl, rfl, rfl, rfl, h, fun _ => rfl, (fun q => by cases q), (fun q => by cases q), (fun q => by cases q), [], fun q => rfl, rfl, rfl, rfl⟩
section
variable {i o p : Nat} {d : List UInt8} {C : List Cmd} {O : List UInt8} {s : Cn}
/-- The end: all was put in and nothing more comes, or it is closed. -/
theorem ri_end (h : RI i o p d C O s) {b r : List UInt8} (hb : b = d ++ r) (hp : p ≤ 2097152) (h1 : (s.ph = 4) ∨ (r = [] ∧ s.ph = 1 ∧ (cnNx s).2.2.2 = 4)) : C = fC p b ∧ O = fO p b ∧ s.cl = fX p b ∧ (s.cl = true ↔ s.ph = 4) := by
 obtain ⟨E, e1, e2, e3, e4⟩ := h.ev
 have hE : dall p false b = E := by
  rw [hb, e1 r]
  rcases h1 with h1 | ⟨h1, h2, h3⟩
  ·rw [h.c4 h1, dall_t, List.append_nil]
  ·rw [h1, dfeed_n0, dall_end (by left; rw [← h.cp]; exact h3), List.append_nil]
 have hC : pdC s = [] := if_neg (by omega)
 have hO : pdO s = [] := (if_neg (by omega)).trans (if_neg (by omega))
 rw [hC, List.append_nil] at e2
 rw [hO, List.append_nil] at e3
 refine ⟨by unfold fC; rw [hE]; exact e2, by unfold fO; rw [hE]; exact e3, by unfold fX; rw [hE]; exact e4, fun q => ?_, h.c4⟩
 rcases h1 with h1 | ⟨_, h2, _⟩
 ·exact h1
 ·rw [h.cl (.inl h2)] at q; cases q
theorem ri_del (h : RI i o p d C O s) (h1 : s.ph = 1) (q : List UInt8) (hq : q.length ≤ i - s.held.length) : cnDel s q = ({ s with held := s.held ++ q }, q.length, 0) ∧ RI i o p (d ++ q) C O { s with held := s.held ++ q } := by
 have hc := h.cl (.inl h1)
 have hm : min q.length (s.ci - s.held.length) = q.length := by rw [h.ci]; omega
 refine ⟨?_, h.ci, h.co, h.cp, h.out, ?_, h.cl, h.c4, h.op, h.bs, ?_⟩
 ·unfold cnDel
  rw [if_neg (by rw [hc]; decide), hm, List.take_length]
 ·exact ⟨h.ok.p1, h.ok.p2, h.ok.i1, h.ok.i2, h.ok.o1, by show (s.held ++ q).length ≤ s.ci; rw [List.length_append, h.ci]; have := h.ok.hl; rw [h.ci] at this; omega, h.ok.h1, h.ok.h4, h.ok.sz, h.ok.bl, h.ok.an, h.ok.cb⟩
 ·obtain ⟨E, e1, e2, e3, e4⟩ := h.ev
  refine ⟨E, fun r => ?_, e2, e3, e4⟩
  rw [List.append_assoc, e1 (q ++ r)]
  show _ = E ++ dall p s.cl (dfeed s.cl (s.held ++ q) r)
  rw [hc]
  show E ++ dall p false (s.held ++ (q ++ r)) = E ++ dall p false (s.held ++ q ++ r)
  rw [List.append_assoc]
/-- How much there is still to do. -/
def rmu (s : Cn) : Nat := 8 * s.held.length + (if s.ph = 1 then 1 else if s.ph = 2 then 3 else if s.ph = 3 then 2 else 0)
theorem err_len {op e : Int} (h1 : 0 ≤ op) (h2 : op ≤ 15) (h3 : 0 < e) (h4 : e < 128) : (cnFr (rspO op e)).length ≤ 64 ∧ (wrR (rspO op e)).2 = 0 := by
 have key : ∀ (a : Fin 16) (b : Fin 128), 0 < b.val → (cnFr (rspO (a.val : Int) (b.val : Int))).length ≤ 64 ∧ (wrR (rspO (a.val : Int) (b.val : Int))).2 = 0 := by decide +kernel
 have := key ⟨op.toNat, by omega⟩ ⟨e.toNat, by omega⟩ (by show 0 < e.toNat; omega)
 simpa [Int.toNat_of_nonneg h1, Int.toNat_of_nonneg (show 0 ≤ e by omega)] using this
theorem rdC_op {x : UInt8} {l : List UInt8} (h : (rdC x l).2 = 0) : 1 ≤ (rdC x l).1.op ∧ (rdC x l).1.op ≤ 15 := by
  by_cases q : 1 ≤ x.toNat ∧ x.toNat ≤ 15 ∧ (rfold (x.toNat : Int) l).2.2 = false ∧ (rfold (x.toNat : Int) l).2.1 = []
  · rw [rdC_ok q.1 q.2.1 q.2.2.1 q.2.2.2]
    have hop : ∀ (ps : List UInt8) (s : Cmd × List UInt8 × Bool), (ps.foldl rstep s).1.op = s.1.op := by
      intro ps
      induction ps with
      | nil => intro s; rfl
      | cons a r ih => intro s; rw [List.foldl_cons, ih]; unfold rstep; repeat' split
                       all_goals rfl
    show 1 ≤ (rfold (x.toNat : Int) l).1.op ∧ (rfold (x.toNat : Int) l).1.op ≤ 15
    have e : (rfold (x.toNat : Int) l).1.op = (x.toNat : Int) := hop _ _
    rw [e]; omega
  · rw [rdC_bad q] at h; cases h
theorem rdC_6 {x : UInt8} {l : List UInt8} (h : ¬ (rdC x l).2 = 0) : (rdC x l).2 = 6 := by
 have := rdC_not (x := x) (l := l) (by omega)
 rw [this]
/-- Reading: nothing comes, or one event. -/
theorem ri_read (h : RI i o p d C O s) (h1 : s.ph = 1) (hp : p ≤ 2097152) : ((cnNx s).2.2.2 = 4 ∧ cnStep s = (s, 0)) ∨ (¬ (cnNx s).2.2.2 = 4 ∧ RI i o p d C O (cnStep s).1 ∧ rmu (cnStep s).1 < rmu s ∧ ((cnStep s).2 = 1 ∨ (cnStep s).2 = 2)) := by
 have hs : cnStep s = cnRd s := if_pos h1
 have hc := h.cl (.inl h1)
 have hcp := h.cp
 have hn : cnNx s = dnext p false s.held := by unfold cnNx; rw [hcp, hc]
 by_cases h4 : (cnNx s).2.2.2 = 4
 ·left
  refine ⟨h4, ?_⟩
  rw [hs, cnRd_4 h4]
  have hst := dnext_stay (m := p) hp (cl := false) (l := s.held) (.inl (by rw [← hn]; exact h4))
  have e : cnD s = s := by
   unfold cnD
   rw [hn, hst.1, hst.2, ← hc]
  rw [e]
 ·right
  have h14 : ¬ ((dnext p false s.held).2.2.2 = 4 ∨ (dnext p false s.held).2.2.2 = 14) := by
   rw [← hn]
   rintro (q | q)
   ·exact h4 q
   ·rw [hn] at q
    have := (fread_props s.held (p : Int)).2.2
    have e : (dnext p false s.held).2.2.2 = (fread s.held (p : Int)).2.2 := rfl
    omega
  have hlt := dnext_less hp h14
  have hm : dmeas (cnNx s).1 (cnNx s).2.1 < s.held.length + 1 := by rw [hn]; exact hlt
  have hle := dnx_len s
  have hhl : (cnNx s).2.1.length < s.held.length ∨ (cnNx s).1 = true := by
   cases hq : (cnNx s).1 with
   | true => exact .inr rfl
   | false => left; rw [hq] at hm; unfold dmeas at hm; simp at hm; exact hm
  have hh0 : (cnNx s).1 = true → (cnNx s).2.1 = [] ∧ 1 ≤ s.held.length := fun q => by
   rw [hn] at q ⊢
   have h5 : (fread s.held (p : Int)).2.2 = 5 := of_decide_eq_true q
   refine ⟨by rw [dnext_5 h5]; exact List.drop_length, ?_⟩
   rcases fread_cases s.held hp with ⟨k, _⟩ | ⟨k, _⟩ | ⟨k, _, _, k4⟩ | ⟨k, _, _, k4⟩ <;> omega
  have hhl2 : (cnNx s).2.1.length < s.held.length := by
   rcases hhl with q | q
   ·exact q
   ·have := hh0 q; rw [this.1]; exact this.2
  have hfr : (cnNx s).2.2.2 = (fread s.held (p : Int)).2.2 := by rw [hn]; rfl
  have hcl : (cnNx s).1 = decide ((cnNx s).2.2.2 = 5) := by rw [hn]; rfl
  have hf6 : (cnNx s).2.2.2 = 0 ∨ (cnNx s).2.2.2 = 5 ∨ (cnNx s).2.2.2 = 6 := by
   rcases fread_cases s.held hp with ⟨k, _⟩ | ⟨k, _⟩ | ⟨k, _⟩ | ⟨k, _⟩ <;> omega
  obtain ⟨E, e1, e2, e3, e4⟩ := h.ev
  have hC : pdC s = [] := if_neg (by omega)
  have hO : pdO s = [] := (if_neg (by omega)).trans (if_neg (by omega))
  rw [hC, List.append_nil] at e2
  rw [hO, List.append_nil] at e3
  have hev : ∀ q, dall p false (d ++ q) = (E ++ [((cnNx s).2.2.1, (cnNx s).2.2.2)]) ++ dall p (cnNx s).1 (dfeed (cnNx s).1 (cnNx s).2.1 q) := fun q => by
   rw [e1 q, hc, dall_feed hp h14 q, List.append_assoc, hn]; rfl
  have hany : (cnNx s).1 = (E ++ [((cnNx s).2.2.1, (cnNx s).2.2.2)]).any (fun e => e.2 == 5) := by
   rw [List.any_append, ← e4, hc, hcl]
   show decide _ = (false || ((cnNx s).2.2.2 == 5 || false))
   rw [Bool.false_or, Bool.or_false]; rfl
  have okD : ∀ x : Nat, CnOk (cnD s) := fun _ => ⟨h.ok.p1, h.ok.p2, h.ok.i1, h.ok.i2, h.ok.o1, by show (cnNx s).2.1.length ≤ s.ci; have := h.ok.hl; omega, h.ok.h1, h.ok.h4, h.ok.sz, h.ok.bl, h.ok.an, h.ok.cb⟩
  have hD := okD 0
  have han := (h.ok.an).resolve_left (by omega)
  have hmu : ∀ s', s'.held = (cnNx s).2.1 → s'.ph = 2 ∨ s'.ph = 3 → rmu s' < rmu s := fun s' q1 q2 => by
   unfold rmu
   rw [q1, if_pos h1]
   rcases q2 with q2 | q2 <;> rw [q2] <;> simp <;> omega
  have hbad : ∀ e : Nat, 0 < e → e < 128 → evC ((cnNx s).2.2.1, (cnNx s).2.2.2) = [] → evO ((cnNx s).2.2.1, (cnNx s).2.2.2) = cnFr (rspO 0 (e : Int)) → RI i o p d C O (cnW (cnD s) (rspO 0 (e : Int))) := fun e q1 q2 q3 q4 => by
   have hel := err_len (op := 0) (e := (e : Int)) (by decide) (by decide) (by omega) (by omega)
   refine ⟨h.ci, h.co, h.cp, h.out, ?_, (fun q => by rcases q with q | q <;> cases q), (fun q => by cases q), (fun q => by cases q), fun _ => hel.1, E ++ [((cnNx s).2.2.1, (cnNx s).2.2.2)], hev, ?_, ?_, hany⟩
   ·exact ⟨hD.p1, hD.p2, hD.i1, hD.i2, hD.o1, hD.hl, by show 1 ≤ 3; decide, by show 3 ≤ 4; decide, rsz_e _ _, cnFr_len _, .inl rfl, ⟨Nat.zero_le _, Nat.zero_le _, Nat.zero_le _⟩⟩
   ·rw [List.flatMap_append, List.flatMap_singleton, q3, ← e2]
    show C ++ [] = C ++ []
    rfl
   ·rw [List.flatMap_append, List.flatMap_singleton, q4, ← e3]
    rfl
  refine ⟨h4, ?_⟩
  rw [hs]
  rcases hf6 with h0 | h5 | h6
  ·by_cases hr : (cnCm s).2 = 0
   ·rw [cnRd_c h4 h0 hr]
    have hop := rdC_op hr
    refine ⟨⟨h.ci, h.co, h.cp, h.out, ?_, ?_, (fun q => by cases q), fun _ => hop, (fun q => by cases q), E ++ [((cnNx s).2.2.1, (cnNx s).2.2.2)], hev, ?_, ?_, hany⟩, hmu _ rfl (.inl rfl), .inl rfl⟩
    ·refine ⟨hD.p1, hD.p2, hD.i1, hD.i2, hD.o1, hD.hl, by show 1 ≤ 2; decide, by show 2 ≤ 4; decide, hD.sz, hD.bl, .inr han, rdC_sz _ _ ?_⟩
     have := dnx_pay s; have := h.ok.hl; have := h.ok.i2; omega
    ·intro _
     show (cnNx s).1 = false
     rw [hcl, h0]; rfl
    ·rw [List.flatMap_append, List.flatMap_singleton, ← e2]
     show C ++ [(cnCm s).1] = C ++ evC _
     congr 1
     exact (if_pos ⟨h0, hr⟩).symm
    ·rw [List.flatMap_append, List.flatMap_singleton, ← e3]
     show O ++ cnFr (rspO (cnCm s).1.op 9) = O ++ evO _
     congr 1
     exact ((if_pos h0).trans (if_pos hr)).symm
   ·rw [cnRd_b h4 h0 hr]
    have h66 : (cnCm s).2 = 6 := rdC_6 hr
    refine ⟨?_, hmu _ rfl (.inr rfl), .inr rfl⟩
    refine hbad (cnCm s).2 (by omega) (by omega) (if_neg (fun q => hr q.2)) ?_
    exact (if_pos h0).trans (if_neg hr)
  ·rw [cnRd_e h4 (by omega)]
   refine ⟨?_, hmu _ rfl (.inr rfl), .inr rfl⟩
   exact hbad _ (by omega) (by omega) (if_neg (fun q => by have := q.1; simp at this; omega)) (if_neg (by show ¬ (cnNx s).2.2.2 = 0; omega))
  ·rw [cnRd_e h4 (by omega)]
   refine ⟨?_, hmu _ rfl (.inr rfl), .inr rfl⟩
   exact hbad _ (by omega) (by omega) (if_neg (fun q => by have := q.1; simp at this; omega)) (if_neg (by show ¬ (cnNx s).2.2.2 = 0; omega))
/-- A command is answered. -/
theorem ri_ans (h : RI i o p d C O s) (h2 : s.ph = 2) : cnStep s = (s, 3) ∧ cnAns s (rspO s.cmd.op 9) = (cnW s (rspO s.cmd.op 9), 0) ∧ RI i o p d (C ++ [s.cmd]) O (cnW s (rspO s.cmd.op 9)) ∧ rmu (cnW s (rspO s.cmd.op 9)) < rmu s := by
 have hop := h.op h2
 have hel := err_len (op := s.cmd.op) (e := 9) (by omega) (by omega) (by decide) (by decide)
 refine ⟨(if_neg (by omega)).trans (if_pos h2), ?_, ?_, ?_⟩
 ·refine (if_neg (fun q => q h2)).trans ((if_neg ?_).trans (if_neg (by have := h.ok.o1; omega)))
  rintro (q | q)
  ·exact q hel.2
  ·exact q rfl
 ·obtain ⟨E, e1, e2, e3, e4⟩ := h.ev
  refine ⟨h.ci, h.co, h.cp, h.out, ⟨h.ok.p1, h.ok.p2, h.ok.i1, h.ok.i2, h.ok.o1, h.ok.hl, by show 1 ≤ 3; decide, by show 3 ≤ 4; decide, rsz_e _ _, cnFr_len _, .inl rfl, ⟨Nat.zero_le _, Nat.zero_le _, Nat.zero_le _⟩⟩, (fun q => by rcases q with q | q <;> cases q), (fun q => by cases q), (fun q => by cases q), fun _ => hel.1, E, e1, ?_, ?_, e4⟩
  ·rw [← e2]
   show C ++ [s.cmd] ++ [] = C ++ pdC s
   rw [List.append_nil, show pdC s = [s.cmd] from if_pos h2]
  ·rw [← e3]
   show O ++ cnFr (rspO s.cmd.op 9) = O ++ pdO s
   rw [show pdO s = cnFr (rspO s.cmd.op 9) from if_pos h2]
 ·unfold rmu
  rw [h2]
  show 8 * s.held.length + 2 < 8 * s.held.length + 3
  omega
/-- A response is written and taken. -/
theorem ri_write (h : RI i o p d C O s) (h3 : s.ph = 3) : cnStep s = (cnOut s, 4) ∧ (cnOut s).out = s.bs ∧ s.bs.length ≤ 64 ∧ RI i o p d C (O ++ s.bs) { cnOut s with out := [], tk := s.tk + s.bs.length } ∧ rmu (cnOut s) < rmu s := by
 have hb := h.bs h3
 have ho := h.ok.o1
 have e : (cnOut s).out = s.bs := by show s.out ++ s.bs = s.bs; rw [h.out]; rfl
 refine ⟨(if_neg (by omega)).trans ((if_neg (by omega)).trans ((if_neg (by omega)).trans (if_neg (by rw [h.out]; show ¬ s.co - 0 < _; omega)))), e, hb, ?_, ?_⟩
 ·obtain ⟨E, e1, e2, e3, e4⟩ := h.ev
  have hphs : (cnOut s).ph = 4 ∧ s.cl = true ∨ (cnOut s).ph = 1 ∧ s.cl = false := by
   unfold cnOut
   cases hc : s.cl with
   | true => exact .inl ⟨rfl, rfl⟩
   | false => exact .inr ⟨rfl, rfl⟩
  refine ⟨h.ci, h.co, h.cp, rfl, ⟨h.ok.p1, h.ok.p2, h.ok.i1, h.ok.i2, h.ok.o1, h.ok.hl, ?_, ?_, rsz_e 0 0, Nat.zero_le _, .inr ⟨rfl, rfl⟩, h.ok.cb⟩, ?_, ?_, ?_, ?_, E, e1, ?_, ?_, e4⟩
  ·show 1 ≤ (cnOut s).ph; omega
  ·show (cnOut s).ph ≤ 4; omega
  ·intro q
   have q' : (cnOut s).ph = 1 ∨ (cnOut s).ph = 2 := q
   show s.cl = false
   rcases hphs with ⟨a, b⟩ | ⟨a, b⟩
   ·omega
   ·exact b
  ·intro q
   have q' : (cnOut s).ph = 4 := q
   show s.cl = true
   rcases hphs with ⟨a, b⟩ | ⟨a, b⟩
   ·exact b
   ·omega
  ·intro q
   have q' : (cnOut s).ph = 2 := q
   omega
  ·intro q
   have q' : (cnOut s).ph = 3 := q
   omega
  ·rw [← e2]
   show C ++ (if (cnOut s).ph = 2 then _ else []) = C ++ pdC s
   rw [if_neg (by omega), show pdC s = [] from if_neg (by omega)]
  ·rw [← e3]
   show O ++ s.bs ++ (if (cnOut s).ph = 2 then _ else if (cnOut s).ph = 3 then _ else []) = O ++ pdO s
   rw [if_neg (by omega), if_neg (by omega), List.append_nil, show pdO s = s.bs from (if_neg (by omega)).trans (if_pos h3)]
 ·unfold rmu cnOut
  rw [h3]
  show 8 * s.held.length + _ < 8 * s.held.length + 2
  cases hc : s.cl <;> simp
end
end Go.Proofs.YtiighkbehiddkaaGreat