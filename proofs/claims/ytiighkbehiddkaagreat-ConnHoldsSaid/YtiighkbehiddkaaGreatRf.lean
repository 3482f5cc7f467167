/-
 Read of responses.
-/
import Derived.Test.YtiighkbehiddkaaGreatRe
namespace Go.Proofs.YtiighkbehiddkaaGreat
open Go.RowKit
set_option linter.unusedVariables false
set_option maxRecDepth 4000
theorem ag43_6 : aggTy Tryz.prog 43 6 = true := by kernel_rfl
theorem cl86 : callable Tryz.prog 86 = true := by kernel_rfl
theorem cl88 : callable Tryz.prog 88 = true := by kernel_rfl
theorem cl91 : callable Tryz.prog 91 = true := by kernel_rfl
theorem fo162_1 : fieldOff Tryz.prog 162 1 = some 1 := by kernel_rfl
theorem fo43_0 : fieldOff Tryz.prog 43 0 = some 0 := by kernel_rfl
theorem fo43_1 : fieldOff Tryz.prog 43 1 = some 1 := by kernel_rfl
theorem oc160 : oneCellTy Tryz.prog 160 = true := by kernel_rfl
theorem oc34 : oneCellTy Tryz.prog 34 = true := by kernel_rfl
theorem pl43 : placesOf Tryz.prog 43 = some [(0, 1), (1, 1), (2, 1), (3, 1), (4, 1), (5, 1)] := by kernel_rfl
theorem sz29 : (Tryz.prog.info? 29).map (·.size) = some 1 := by kernel_rfl
theorem sz43 : (Tryz.prog.info? 43).map (·.size) = some 6 := by kernel_rfl
theorem ze43 : zeroOf Tryz.prog 43 = some (.agg #[(.int .i64 0), (.int .i64 0), (.slice none 0 0), (.int .u64 0), (.int .i64 0), (.slice none 0 0)]) := by kernel_rfl
/-- Reading: what has been read, whether it is untouched, the rest, whether all is well. -/
structure GS where
 x : Rsp
 fr : Bool
 l : List UInt8
 ok : Bool
def rspO (op err : Int) : Rsp := ⟨op, err, [], 0, 0, []⟩
def gstep (s : GS) (p : UInt8) : GS := ⟨gX p s.x s.l, gF p s.fr, gR p s.x s.l, s.ok && gK p s.x s.l⟩
def gst (op : Int) (l : List UInt8) (k : Nat) : GS := ((pl op).take k).foldl gstep ⟨rspO op 0, true, l, true⟩
def gend (op : Int) (l : List UInt8) : GS := gst op l (pl op).length
theorem gst_succ {op : Int} {l : List UInt8} {k : Nat} {p : UInt8} (h : (pl op)[k]? = some p) : gst op l (k + 1) = gstep (gst op l k) p := by
 unfold gst; rw [List.take_add_one, h, List.foldl_append]; rfl
theorem gst_fail {op : Int} {l : List UInt8} {k : Nat} (hk : k ≤ (pl op).length) (h : (gst op l k).ok = false) : (gend op l).ok = false := by
 have e : ∀ (ps : List UInt8) (s : GS), s.ok = false → (ps.foldl gstep s).ok = false := by
  intro ps
  induction ps with
  | nil => intro s hs; exact hs
  | cons p r ih => intro s hs; rw [List.foldl_cons]; exact ih _ (by show (s.ok && _) = false; rw [hs]; rfl)
 unfold gend gst
 rw [List.take_length, ← List.take_append_drop k (pl op), List.foldl_append]
 exact e _ _ h
theorem gR_len (p : UInt8) (x : Rsp) (l : List UInt8) : (gR p x l).length ≤ l.length := by
 have h1 := nR_len l
 have h2 := (iS_len l x.items.length).2
 have h3 := (uS_len (nR l) (nV l)).2
 unfold gR
 repeat' split
 all_goals omega
theorem gst_len (op : Int) (l : List UInt8) (k : Nat) : (gst op l k).l.length ≤ l.length := by
 have e : ∀ (ps : List UInt8) (s : GS), (ps.foldl gstep s).l.length ≤ s.l.length := by
  intro ps
  induction ps with
  | nil => intro s; exact Nat.le_refl _
  | cons p r ih => intro s; rw [List.foldl_cons]; have h1 := ih (gstep s p); have h2 := gR_len p s.x s.l; exact Nat.le_trans h1 h2
 exact e _ _
theorem gst_pre {op : Int} {l : List UInt8} {k : Nat} {p : UInt8} (h : (pl op)[k]? = some p) (hok : (gst op l k).ok = true) : gpre p (gst op l k).x (gst op l k).fr := by
 unfold gst at *
 have two : ∀ {a b : UInt8}, pl op = [a, b] → (k = 0 ∧ p = a) ∨ (k = 1 ∧ p = b) := by
  intro a b e
  rw [e] at h
  match k, h with
  | 0, h => exact .inl ⟨rfl, by simpa using h.symm⟩
  | 1, h => exact .inr ⟨rfl, by simpa using h.symm⟩
  | k + 2, h => simp at h
 have one : ∀ {a : UInt8}, pl op = [a] → k = 0 ∧ p = a := by
  intro a e
  rw [e] at h
  match k, h with
  | 0, h => exact ⟨rfl, by simpa using h.symm⟩
  | k + 1, h => simp at h
 rcases pl_cases op with e | e | e | e | e
 ·rcases two e with ⟨rfl, rfl⟩ | ⟨rfl, rfl⟩ <;> exact ⟨fun h => absurd h (by decide), fun h => absurd h (by decide)⟩
 ·rcases two e with ⟨rfl, rfl⟩ | ⟨rfl, rfl⟩
  ·exact ⟨fun h => absurd h (by decide), fun h => absurd h (by decide)⟩
  ·rw [e]; exact ⟨fun _ => ⟨rfl, fun h => (by cases h), (by show ([zI] : List Itm).length ≤ 16; decide)⟩, fun h => absurd h (by decide)⟩
 ·rcases two e with ⟨rfl, rfl⟩ | ⟨rfl, rfl⟩
  ·exact ⟨fun h => absurd h (by decide), fun h => absurd h (by decide)⟩
  ·rw [e] at hok ⊢
   have hk : (rK 16 l && decide (0 < nV l)) = true := hok
   rw [Bool.and_eq_true, decide_eq_true_eq] at hk
   have h16 := rK_le hk.1
   have hl : (List.replicate (nV l) zI).length = nV l := List.length_replicate
   refine ⟨fun _ => ⟨rfl, fun h => ?_, ?_⟩, fun h => absurd h (by decide)⟩
   ·have h' : List.replicate (nV l) zI = [] := h
    rw [h'] at hl
    have : ([] : List Itm).length = 0 := rfl
    omega
   ·show (List.replicate (nV l) zI).length ≤ 16
    omega
 ·obtain ⟨rfl, rfl⟩ := one e
  exact ⟨fun h => absurd h (by decide), fun _ => rfl⟩
 ·obtain ⟨rfl, rfl⟩ := one e
  exact ⟨fun h => absurd h (by decide), fun h => absurd h (by decide)⟩
/-- The response of a frame, and the error. -/
def RdOkR (op : Int) (l : List UInt8) : Prop := 0 ≤ op ∧ op ≤ 15 ∧ rK 100000 l = true ∧ (plOk op = true ∨ ¬ nV l = 0) ∧ (nV l = 0 → (gend op (nR l)).ok = true ∧ (gend op (nR l)).l.length = 0) ∧ (¬ nV l = 0 → (nR l).length = 0)
instance (op : Int) (l : List UInt8) : Decidable (RdOkR op l) := by unfold RdOkR; infer_instance
def rdR (op : Int) (l : List UInt8) : Rsp × Nat := if RdOkR op l then (if nV l = 0 then (gend op (nR l)).x else rspO op (nV l), 0) else (rspO 0 0, 6)
theorem rdR_bad {op : Int} {l : List UInt8} (h : ¬ RdOkR op l) : rdR op l = (rspO 0 0, 6) := if_neg h
theorem rdR_0 {op : Int} {l : List UInt8} (h : RdOkR op l) (h0 : nV l = 0) : rdR op l = ((gend op (nR l)).x, 0) := by unfold rdR; rw [if_pos h, if_pos h0]
theorem rdR_e {op : Int} {l : List UInt8} (h : RdOkR op l) (h0 : ¬ nV l = 0) : rdR op l = (rspO op (nV l), 0) := by unfold rdR; rw [if_pos h, if_neg h0]
theorem pl_len (op : Int) : (pl op).length ≤ 2 := by rcases pl_cases op with e | e | e | e | e <;> rw [e] <;> decide
theorem ptc_len (ps : List UInt8) : (ptc ps).length = ps.length * 2 := by
 induction ps with
 | nil => rfl
 | cons p r ih => unfold ptc at *; rw [List.flatMap_cons, List.length_append, ih, List.length_cons]; show 2 + _ = _; omega
theorem ptc_rd {w : World} {g : Nat} {op : Int} (h : Blk w g 162 (ptc (pl op))) : RdR w 0 w.heap.size 2 ptcell (some ⟨g, 0, none⟩) (pl op).length (pl op) :=
 Blk.rdF h (ptc_len _) (by have := pl_len op; simp only [maxLen]; omega)
theorem Blk.rdL8 {w : World} {g n lo size : Nat} {t : TypeId} {cs : List Value} (h : Blk w g t cs) (hl : cs.length = n * size) (hn : n ≤ maxLen) (hg : lo ≤ g) : Rd w lo w.heap.size size (some ⟨g, 0, none⟩) n n cs :=
 ⟨Nat.le_refl _, hn, hl, fun _ => ⟨_, rfl, hg, h.lt, fun j u hu => by rw [Addr.add_lit, Nat.zero_add, h.cell]; exact hu⟩⟩
theorem rowI_rd {w : World} {b cx : Nat} {X : Option Addr} {xs : List IT} (h : RowI w b X cx xs) (hv : VR w b xs) : RdI w b w.heap.size X cx xs := by
 refine ⟨?_, hv⟩
 rcases h with ⟨rfl, rfl, rfl⟩ | ⟨ge, rfl, rfl, h16, hge, hb⟩
 ·exact Rd.nil _ _ _ _ _ _ (Nat.zero_le _)
 ·exact Blk.rdL8 hb (by rw [itc_len]; omega) (by simp only [maxLen]; omega) hge
theorem rd8_0 (w : World) (code : UInt8) (op : Int) (hop : (code.toNat : Int) - 64 = op) (lo hi : Nat) (A : Option Addr) (c : Nat) (l : List UInt8) (hr : RdB w lo hi A c l) (hlen : l.length ≤ 140737488355328) (hn0 : nV l = 0) :
  Fn Tryz.prog 93 #[(.agg #[(.int .u8 (↑code.toNat : Int)), (.slice A l.length c)])] w (fun v w' => ∃ X cx N cn xs, v = .tuple #[.agg (rspc (rdR op l).1 X cx N cn).toArray, .int .i64 ((rdR op l).2 : Int)] ∧ vals xs = (rdR op l).1.items ∧ RdI w' w.heap.size w'.heap.size X cx xs ∧ RdN w' w.heap.size w'.heap.size N cn (rdR op l).1.nums ∧ Ext w w')  := by
 replace hr := hr.top
 have hE := ext_refl w
 have hct := code.toNat_lt
 refine fn_enter (args := [(.agg #[(.int .u8 (↑code.toNat : Int)), (.slice A l.length c)])]) Tryz.func93 rfl rfl rfl ?_
 show WC _ _ _ _ [(0, (.agg #[(.int .u8 (↑code.toNat : Int)), (.slice A l.length c)]))] _
 refine wc_seq (wc_regionL ?_)
 refine wl_step (or_box (cs := [(.int .u8 (↑code.toNat : Int)), (.slice A l.length c)]) rfl rfl) rfl rfl rfl ?_
 rintro v w1 ⟨g1, rfl, hb_g1, he1, hl1, hu1⟩
 replace hr := hr.ext he1
 replace hE := hE.tr he1
 have hz_he1 := he1.size
 refine wl_step (or_alloc (cs := [(.int .i64 0), (.int .i64 0), (.slice none 0 0), (.int .u64 0), (.int .i64 0), (.slice none 0 0)]) ze43 rfl) rfl rfl rfl ?_
 rintro v w2 ⟨g2, rfl, hb_g2, he2, hl2, hu2⟩
 replace hr := hr.ext he2
 replace hE := hE.tr he2
 replace hb_g1 := hb_g1.ext he2
 have hz_he2 := he2.size
 refine va rfl rfl ?_
 refine q_nil (k_then (wc_seq (wc_regionL ?_)))
 refine wl_val (ov_field0 (off := 0) fo117_0 rfl) rfl rfl rfl ?_
 refine wl_val (ov_loadAt oc5 rfl hb_g1 rfl) rfl rfl rfl ?_
 refine wl_val (ov_conv Tryz.underlying5 Tryz.underlying34 rfl (wi64 (by omega) (by omega))) rfl rfl rfl ?_
 refine wl_val (ov_sub rfl rfl (wi64 (by omega) (by omega))) rfl rfl rfl ?_
 refine wl_spell (d := 15) rfl (v' := (.int .i64 op)) (by rw [hop]) ?_
 refine wl_val (ov_build (cs := [(.int .i64 op), (.int .i64 0), (.slice none 0 0), (.int .u64 0), (.int .i64 0), (.slice none 0 0)]) ze43 pl43 rfl rfl) rfl rfl rfl ?_
 refine wl_step (or_alloc (cs := [(.int .i64 0), (.int .i64 0), (.slice none 0 0), (.int .u64 0), (.int .i64 0), (.slice none 0 0)]) ze43 rfl) rfl rfl rfl ?_
 rintro v w3 ⟨g4, rfl, hb_g4, he4, hl4, hu4⟩
 replace hr := hr.ext he4
 replace hE := hE.tr he4
 replace hb_g1 := hb_g1.ext he4
 replace hb_g2 := hb_g2.ext he4
 have hz_he4 := he4.size
 refine wl_step0 (or_storeBlk (vs := [(.int .i64 op), (.int .i64 0), (.slice none 0 0), (.int .u64 0), (.int .i64 0), (.slice none 0 0)]) sz43 rfl rfl (by simp [Value.oneCell']) hb_g4 rfl) rfl rfl ?_
 rintro _ w4 ⟨hN4, hg4⟩
 have hz_hg4 := hg4.size
 replace hr := hr.gr hg4 (fun _ e => by cases e; omega)
 replace hE := hE.gr hg4 (fun _ e => by cases e; omega)
 replace hb_g1 := hb_g1.gr hg4 (by intro e; cases e; omega)
 replace hb_g2 := hb_g2.gr hg4 (by intro e; cases e; omega)
 replace hb_g4 := hN4
 refine q_nil (k_then (wc_seq (wc_regionL ?_)))
 refine wl_val (ov_field0 (off := 0) fo43_0 rfl) rfl rfl rfl ?_
 refine wl_val (ov_loadAt oc34 rfl hb_g4 rfl) rfl rfl rfl ?_
 refine wl_step (or_call0 cl91 rfl rfl (parts8_any _ _)) rfl rfl rfl ?_
 rintro v w5 ⟨gl, rfl, hb_gl, he20, hll⟩
 replace hr := hr.ext he20
 replace hE := hE.tr he20
 replace hb_g1 := hb_g1.ext he20
 replace hb_g2 := hb_g2.ext he20
 replace hb_g4 := hb_g4.ext he20
 have hz_he20 := he20.size
 refine vm rfl rfl ?_
 iterate 2 refine vx rfl rfl rfl ?_
 iterate 2 refine va rfl rfl ?_
 refine q_nil (k_then (wc_seq (wc_regionL ?_)))
 refine wl_val (ov_field0 (off := 1) fo117_1 rfl) rfl rfl rfl ?_
 refine wl_val (ov_loadAt oc32 rfl hb_g1 rfl) rfl rfl rfl ?_
 obtain ⟨lo1, hlo1⟩ : ∃ n, n = w5.heap.size := ⟨_, rfl⟩
 have hzl := hb_gl.lt
 have hz4 := hb_g4.lt
 refine wl_step (or_call0 cl86 rfl rfl (rnew_any _ _ _ _ _ l hr hlen)) rfl rfl rfl ?_
 rintro v w6 ⟨gr, A1, c1, h2, rfl, hb_gr, hr1, hle, he25, hg1, hg2⟩
 replace hE := hE.tr he25
 replace hb_g2 := hb_g2.ext he25
 replace hb_g4 := hb_g4.ext he25
 replace hb_gl := hb_gl.ext he25
 have hz_he25 := he25.size
 rw [← hlo1] at hr1 hg1
 refine va rfl rfl ?_
 refine q_nil (k_then (wc_seq (wc_regionL ?_)))
 refine vm rfl rfl ?_
 refine wl_step (or_call0 cl118 rfl rfl (rd8_any _ gr _ _ A1 c1 l hb_gr hr1 (by omega) (by omega) 100000 (by omega))) rfl rfl rfl ?_
 rintro v w7 ⟨rfl, ⟨A28, c28, hb28, hr28⟩, hg28⟩
 have hz_hg28 := hg28.size
 replace hE := hE.gr hg28 (fun _ e => by cases e; omega)
 replace hb_g2 := hb_g2.gr hg28 (by intro e; cases e; omega)
 replace hb_g4 := hb_g4.gr hg28 (by intro e; cases e; omega)
 replace hb_gl := hb_gl.gr hg28 (by intro e; cases e; omega)
 have hb_gr := hb28
 have hl28 := nR_len l
 have hv28 := nV_lt l
 refine vm rfl rfl ?_
 iterate 2 refine vx rfl rfl rfl ?_
 iterate 2 refine va rfl rfl ?_
 refine q_nil (k_then (wc_seq (wc_regionL ?_)))
 refine vm rfl rfl ?_
 refine wl_val (ov_conv Tryz.underlying36 Tryz.underlying29 rfl rfl) rfl rfl rfl ?_
 refine wl_spell (d := 32) rfl (v' := (.int .i64 0)) (by rw [hn0]; rfl) ?_
 refine wl_val (ov_field0 (off := 1) fo43_1 rfl) rfl rfl rfl ?_
 refine wl_step0 (or_storeAt (cs' := [(.int .i64 op), (.int .i64 0), (.slice none 0 0), (.int .u64 0), (.int .i64 0), (.slice none 0 0)]) sz29 rfl rfl rfl hb_g4 rfl rfl) rfl rfl ?_
 rintro _ w8 ⟨hN8, hg8⟩
 have hz_hg8 := hg8.size
 replace hE := hE.gr hg8 (fun _ e => by cases e; omega)
 replace hb_g2 := hb_g2.gr hg8 (by intro e; cases e; omega)
 replace hb_gl := hb_gl.gr hg8 (by intro e; cases e; omega)
 replace hb_gr := hb_gr.gr hg8 (by intro e; cases e; omega)
 replace hr28 := hr28.gr hg8 (fun _ e => by cases e; omega)
 replace hb_g4 := hN8
 refine q_nil (k_then (wc_seq (wc_seq (wc_regionL ?_))))
 refine wl_val (ov_field0 (off := 0) fo43_0 rfl) rfl rfl rfl ?_
 refine wl_val (ov_loadAt oc34 rfl hb_g4 rfl) rfl rfl rfl ?_
 refine wl_val (ov_lss rfl rfl) rfl rfl rfl ?_
 refine wl_case_d (d := 36) rfl (fun h36 => ?_) (fun h36 => ?_)
 ·have hbad : ¬ RdOkR op l := by
   rintro ⟨q1, q2, q3, q4, q5, q6⟩
   omega
  refine vm rfl rfl ?_
  iterate 3 refine wl_gskip rfl rfl rfl rfl rfl rfl ?_
  refine wl_val (ov_pick_t rfl rfl) rfl rfl rfl ?_
  refine vm rfl rfl ?_
  iterate 2 refine wl_gskip rfl rfl rfl rfl rfl rfl ?_
  refine wl_val (ov_pick_t rfl rfl) rfl rfl rfl ?_
  refine vm rfl rfl ?_
  iterate 3 refine wl_gskip rfl rfl rfl rfl rfl rfl ?_
  iterate 2 refine wl_gskipU rfl rfl rfl rfl rfl ?_
  refine wl_gskip rfl rfl rfl rfl rfl rfl ?_
  refine wl_val (ov_pick_t rfl rfl) rfl rfl rfl ?_
  refine q_nil (k_then ?_)
  refine wc_cond_t rfl ?_
  refine wc_seq (wc_regionL ?_)
  refine wl_val (ov_build (cs := [(.int .i64 0), (.int .i64 0), (.slice none 0 0), (.int .u64 0), (.int .i64 0), (.slice none 0 0)]) ze43 pl43 rfl rfl) rfl rfl rfl ?_
  refine wl_step0 (or_storeBlk (vs := [(.int .i64 0), (.int .i64 0), (.slice none 0 0), (.int .u64 0), (.int .i64 0), (.slice none 0 0)]) sz43 rfl rfl (by simp [Value.oneCell']) hb_g2 rfl) rfl rfl ?_
  rintro _ w9 ⟨hN9, hg9⟩
  have hz_hg9 := hg9.size
  replace hE := hE.gr hg9 (fun _ e => by cases e; omega)
  replace hb_g2 := hN9
  refine va rfl rfl ?_
  refine q_nil (k_then (q_ret (k_thenR ?_)))
  refine e_retL (rs := [.cell 2 43, .tmp 3]) (vs := [.agg #[(.int .i64 0), (.int .i64 0), (.slice none 0 0), (.int .u64 0), (.int .i64 0), (.slice none 0 0)], (.int .i64 6)]) rfl ⟨⟨_, _, [(.int .i64 0), (.int .i64 0), (.slice none 0 0), (.int .u64 0), (.int .i64 0), (.slice none 0 0)], rfl, ag43_6, hb_g2, rfl⟩, rfl, trivial⟩ ?_
  rw [rdR_bad hbad]
  exact ⟨none, 0, none, 0, [], rfl, rfl, RdI.nil _ _ _, Rd.nil _ _ _ _ _ _ (Nat.zero_le _), hE⟩
 ·refine vm rfl rfl ?_
  refine wl_gval (ov_field0 (off := 0) fo43_0 rfl) rfl rfl rfl rfl rfl ?_
  refine wl_gval (ov_loadAt oc34 rfl hb_g4 rfl) rfl rfl rfl rfl rfl ?_
  refine wl_gval (ov_gtr rfl rfl) rfl rfl rfl rfl rfl ?_
  refine wl_case_d (d := 40) rfl (fun h40 => ?_) (fun h40 => ?_)
  ·have hbad : ¬ RdOkR op l := by
    rintro ⟨q1, q2, q3, q4, q5, q6⟩
    omega
   refine wl_val (ov_pick_f rfl rfl) rfl rfl rfl ?_
   refine vm rfl rfl ?_
   iterate 2 refine wl_gskip rfl rfl rfl rfl rfl rfl ?_
   refine wl_val (ov_pick_t rfl rfl) rfl rfl rfl ?_
   refine vm rfl rfl ?_
   iterate 3 refine wl_gskip rfl rfl rfl rfl rfl rfl ?_
   iterate 2 refine wl_gskipU rfl rfl rfl rfl rfl ?_
   refine wl_gskip rfl rfl rfl rfl rfl rfl ?_
   refine wl_val (ov_pick_t rfl rfl) rfl rfl rfl ?_
   refine q_nil (k_then ?_)
   refine wc_cond_t rfl ?_
   refine wc_seq (wc_regionL ?_)
   refine wl_val (ov_build (cs := [(.int .i64 0), (.int .i64 0), (.slice none 0 0), (.int .u64 0), (.int .i64 0), (.slice none 0 0)]) ze43 pl43 rfl rfl) rfl rfl rfl ?_
   refine wl_step0 (or_storeBlk (vs := [(.int .i64 0), (.int .i64 0), (.slice none 0 0), (.int .u64 0), (.int .i64 0), (.slice none 0 0)]) sz43 rfl rfl (by simp [Value.oneCell']) hb_g2 rfl) rfl rfl ?_
   rintro _ w209 ⟨hN209, hg209⟩
   have hz_hg209 := hg209.size
   replace hE := hE.gr hg209 (fun _ e => by cases e; omega)
   replace hb_g2 := hN209
   refine va rfl rfl ?_
   refine q_nil (k_then (q_ret (k_thenR ?_)))
   refine e_retL (rs := [.cell 2 43, .tmp 3]) (vs := [.agg #[(.int .i64 0), (.int .i64 0), (.slice none 0 0), (.int .u64 0), (.int .i64 0), (.slice none 0 0)], (.int .i64 6)]) rfl ⟨⟨_, _, [(.int .i64 0), (.int .i64 0), (.slice none 0 0), (.int .u64 0), (.int .i64 0), (.slice none 0 0)], rfl, ag43_6, hb_g2, rfl⟩, rfl, trivial⟩ ?_
   rw [rdR_bad hbad]
   exact ⟨none, 0, none, 0, [], rfl, rfl, RdI.nil _ _ _, Rd.nil _ _ _ _ _ _ (Nat.zero_le _), hE⟩
  ·refine wl_val (ov_pick_f rfl rfl) rfl rfl rfl ?_
   refine vm rfl rfl ?_
   refine wl_gval (ov_move rfl) rfl rfl rfl rfl rfl ?_
   refine wl_gval (ov_not rfl) rfl rfl rfl rfl rfl ?_
   refine wl_spell (d := 44) rfl (v' := (.bool (decide (rK 100000 l = false)))) (by cases rK 100000 l <;> rfl) ?_
   refine wl_case_d (d := 44) rfl (fun h44 => ?_) (fun h44 => ?_)
   ·have hbad : ¬ RdOkR op l := by
     rintro ⟨q1, q2, q3, q4, q5, q6⟩
     rw [h44] at q3; cases q3
    refine wl_val (ov_pick_f rfl rfl) rfl rfl rfl ?_
    refine vm rfl rfl ?_
    iterate 3 refine wl_gskip rfl rfl rfl rfl rfl rfl ?_
    iterate 2 refine wl_gskipU rfl rfl rfl rfl rfl ?_
    refine wl_gskip rfl rfl rfl rfl rfl rfl ?_
    refine wl_val (ov_pick_t rfl rfl) rfl rfl rfl ?_
    refine q_nil (k_then ?_)
    refine wc_cond_t rfl ?_
    refine wc_seq (wc_regionL ?_)
    refine wl_val (ov_build (cs := [(.int .i64 0), (.int .i64 0), (.slice none 0 0), (.int .u64 0), (.int .i64 0), (.slice none 0 0)]) ze43 pl43 rfl rfl) rfl rfl rfl ?_
    refine wl_step0 (or_storeBlk (vs := [(.int .i64 0), (.int .i64 0), (.slice none 0 0), (.int .u64 0), (.int .i64 0), (.slice none 0 0)]) sz43 rfl rfl (by simp [Value.oneCell']) hb_g2 rfl) rfl rfl ?_
    rintro _ w209 ⟨hN209, hg209⟩
    have hz_hg209 := hg209.size
    replace hE := hE.gr hg209 (fun _ e => by cases e; omega)
    replace hb_g2 := hN209
    refine va rfl rfl ?_
    refine q_nil (k_then (q_ret (k_thenR ?_)))
    refine e_retL (rs := [.cell 2 43, .tmp 3]) (vs := [.agg #[(.int .i64 0), (.int .i64 0), (.slice none 0 0), (.int .u64 0), (.int .i64 0), (.slice none 0 0)], (.int .i64 6)]) rfl ⟨⟨_, _, [(.int .i64 0), (.int .i64 0), (.slice none 0 0), (.int .u64 0), (.int .i64 0), (.slice none 0 0)], rfl, ag43_6, hb_g2, rfl⟩, rfl, trivial⟩ ?_
    rw [rdR_bad hbad]
    exact ⟨none, 0, none, 0, [], rfl, rfl, RdI.nil _ _ _, Rd.nil _ _ _ _ _ _ (Nat.zero_le _), hE⟩
   ·have hrk : rK 100000 l = true := by simpa using h44
    have hrl := rK_le hrk
    refine wl_val (ov_pick_f rfl rfl) rfl rfl rfl ?_
    refine vm rfl rfl ?_
    refine wl_gval (ov_move rfl) rfl rfl rfl rfl rfl ?_
    refine wl_gval (ov_not rfl) rfl rfl rfl rfl rfl ?_
    refine wl_spell (d := 48) rfl (v' := (.bool (decide (plOk op = false)))) (by cases plOk op <;> rfl) ?_
    refine wl_case_d (d := 48) rfl (fun h48 => ?_) (fun h48 => ?_)
    ·refine wl_gval (ov_move rfl) rfl rfl rfl rfl rfl ?_
     refine wl_gval (ov_move rfl) rfl rfl rfl rfl rfl ?_
     refine wl_gval (ov_eql rfl rfl) rfl rfl rfl rfl rfl ?_
     have hbad : ¬ RdOkR op l := by
      rintro ⟨q1, q2, q3, q4, q5, q6⟩
      rcases q4 with q | q
      ·rw [h48] at q; cases q
      ·exact q hn0
     refine wl_spell (d := 51) rfl (bt (by omega)) ?_
     refine wl_gval (ov_pick_t rfl rfl) rfl rfl rfl rfl rfl ?_
     refine wl_val (ov_pick_f rfl rfl) rfl rfl rfl ?_
     refine q_nil (k_then ?_)
     refine wc_cond_t rfl ?_
     refine wc_seq (wc_regionL ?_)
     refine wl_val (ov_build (cs := [(.int .i64 0), (.int .i64 0), (.slice none 0 0), (.int .u64 0), (.int .i64 0), (.slice none 0 0)]) ze43 pl43 rfl rfl) rfl rfl rfl ?_
     refine wl_step0 (or_storeBlk (vs := [(.int .i64 0), (.int .i64 0), (.slice none 0 0), (.int .u64 0), (.int .i64 0), (.slice none 0 0)]) sz43 rfl rfl (by simp [Value.oneCell']) hb_g2 rfl) rfl rfl ?_
     rintro _ w209 ⟨hN209, hg209⟩
     have hz_hg209 := hg209.size
     replace hE := hE.gr hg209 (fun _ e => by cases e; omega)
     replace hb_g2 := hN209
     refine va rfl rfl ?_
     refine q_nil (k_then (q_ret (k_thenR ?_)))
     refine e_retL (rs := [.cell 2 43, .tmp 3]) (vs := [.agg #[(.int .i64 0), (.int .i64 0), (.slice none 0 0), (.int .u64 0), (.int .i64 0), (.slice none 0 0)], (.int .i64 6)]) rfl ⟨⟨_, _, [(.int .i64 0), (.int .i64 0), (.slice none 0 0), (.int .u64 0), (.int .i64 0), (.slice none 0 0)], rfl, ag43_6, hb_g2, rfl⟩, rfl, trivial⟩ ?_
     rw [rdR_bad hbad]
     exact ⟨none, 0, none, 0, [], rfl, rfl, RdI.nil _ _ _, Rd.nil _ _ _ _ _ _ (Nat.zero_le _), hE⟩
    ·refine wl_gval (ov_move rfl) rfl rfl rfl rfl rfl ?_
     iterate 2 refine wl_gskip rfl rfl rfl rfl rfl rfl ?_
     refine wl_gval (ov_pick_f rfl rfl) rfl rfl rfl rfl rfl ?_
     refine wl_val (ov_pick_f rfl rfl) rfl rfl rfl ?_
     refine q_nil (k_then ?_)
     refine wc_cond_f rfl ?_
     refine q_skip (k_then (wc_seq (wc_seq (wc_regionL ?_))))
     refine vm rfl rfl ?_
     refine ve rfl rfl rfl ?_
     refine wl_spell (d := 56) rfl (bt (by omega)) ?_
     refine q_nil (k_then ?_)
     refine wc_cond_t rfl ?_
     refine wc_seq (wc_regionL ?_)
     refine vm rfl rfl ?_
     refine wl_val (ov_len Tryz.underlying155 rfl) rfl rfl rfl ?_
     refine vm rfl rfl ?_
     refine q_nil (k_then (wc_block ?_))
     obtain ⟨W0, rfl⟩ : ∃ x, x = w8 := ⟨_, rfl⟩
     have hpk : plOk op = true := by simpa using h48
     have hb0_g2 := hb_g2
     have hb0_gl := hb_gl
     have hE0 := hE
     have hzw := hE.size
     have hz0 := hb_g4.lt
     have hz1 := hb_gr.lt
     have hz2 := hb_g2.lt
     have hz3 := hb_gl.lt
     refine wc_loop (σ := Nat) (fun k => (pl op).length - k) (fun k => [(2, .pointer (some ⟨g2, 0, none⟩)), (4, .pointer (some ⟨g4, 0, none⟩)), (7, .pointer (some ⟨gr, 0, none⟩)), (57, .slice (some ⟨gl, 0, none⟩) (pl op).length (pl op).length), (58, .int .i64 ((pl op).length : Int)), (59, .int .i64 (k : Int))]) (fun k w' => k ≤ (pl op).length ∧ (gst op (nR l) k).ok = true ∧ RspAt w' g4 W0.heap.size (gst op (nR l) k).x (gst op (nR l) k).fr ∧ RdrAt8 w' gr lo1 h2 (gst op (nR l) k).l ∧ Kp [g4, gr] W0 w') (0) (⟨Nat.zero_le _, rfl, ⟨none, 0, none, 0, [], hb_g4, rfl, .inl ⟨rfl, rfl, rfl⟩, (fun _ h => by cases h), Rd.nil _ _ _ _ _ _ (Nat.zero_le _), fun _ => ⟨rfl, rfl, rfl, rfl⟩⟩, ⟨A28, c28, hb_gr, hr28⟩, Kp.refl _ _⟩) (⟨rfl, rfl, rfl, rfl, rfl, rfl, trivial⟩) ?_
     rintro k wq ⟨hk0, hok, hX, hD, hK⟩
     show WC _ _ _ _ [(2, (.pointer (some ⟨g2, 0, none⟩))), (4, (.pointer (some ⟨g4, 0, none⟩))), (7, (.pointer (some ⟨gr, 0, none⟩))), (57, (.slice (some ⟨gl, 0, none⟩) (pl op).length (pl op).length)), (58, (.int .i64 (↑(pl op).length : Int))), (59, (.int .i64 (↑k : Int)))] _
     have hb_g2 := hK.bk hb0_g2 (by simp; omega)
     have hb_gl := hK.bk hb0_gl (by simp; omega)
     have hE := hK.e0 hE0 (by simp; omega)
     have hz_K := hK.size
     have hEq := ext_refl wq
     have hpl := pl_len op
     refine wc_seq (wc_regionL ?_)
     refine wl_val (ov_lss rfl rfl) rfl rfl rfl ?_
     refine q_nil (k_then (wc_seq ?_))
     refine wc_cond_d rfl (fun hc3 => ?_) (fun hc3 => ?_)
     ·obtain ⟨p, hk⟩ : ∃ p, (pl op)[k]? = some p := ⟨_, List.getElem?_eq_getElem (by omega)⟩
      refine q_skip (k_then (wc_seq (wc_block (wc_seq (wc_regionL ?_)))))
      refine wl_step (or_rindex (m := (k)) sl155 rfl rfl (ptc_rd hb_gl) (fun _ _ => rfl) hk) rfl rfl rfl ?_
      rintro v _ ⟨rfl, p61, rfl, hp61, hpl61, hph61⟩
      refine wl_val (ov_loadAgg (cs := [(.func (.func (putF p)) #[] #[]), (.func (.func (getF p)) #[] #[])]) ag162_2 rfl rfl hp61) rfl rfl rfl ?_
      refine wl_step (or_alloc (cs := [.nilFunc, .nilFunc]) ze162 rfl) rfl rfl rfl ?_
      rintro v w209 ⟨g11, rfl, hb_g11, he11, hl11, hu11⟩
      replace hb_g2 := hb_g2.ext he11
      replace hb_gl := hb_gl.ext he11
      replace hE := hE.tr he11
      replace hK := Kp.te hK he11
      replace hEq := hEq.tr he11
      have hz_he11 := he11.size
      refine wl_step0 (or_storeBlk (vs := [(.func (.func (putF p)) #[] #[]), (.func (.func (getF p)) #[] #[])]) sz162 rfl rfl (by simp [Value.oneCell']) hb_g11 rfl) rfl rfl ?_
      rintro _ w210 ⟨hN210, hg210⟩
      have hz_hg210 := hg210.size
      replace hb_g2 := hb_g2.gr hg210 (by intro e; cases e; omega)
      replace hb_gl := hb_gl.gr hg210 (by intro e; cases e; omega)
      replace hE := hE.gr hg210 (fun _ e => by cases e; omega)
      replace hK := Kp.tg hK hg210 (by first | (left; simp; done) | (right; omega))
      replace hEq := hEq.gr hg210 (fun _ e => by cases e; omega)
      replace hb_g11 := hN210
      refine q_nil (k_then (wc_seq (wc_regionL ?_)))
      refine wl_val (ov_field0 (off := 1) fo162_1 rfl) rfl rfl rfl ?_
      refine wl_val (ov_loadAt oc160 rfl hb_g11 rfl) rfl rfl rfl ?_
      refine vm rfl rfl ?_
      obtain ⟨hgc, hcl⟩ := getC_all (List.mem_of_getElem? hk)
      have hgl := gst_len op (nR l) k
      have hnl := nR_len l
      refine wl_step (or_call0 hcl rfl rfl (hgc W0 _ g4 gr lo1 h2 _ _ _ (by omega) hK (by omega) (.inl (by omega)) (.inr hle) (by omega) (by omega) (by omega) (hX.ext hEq) (hD.ext hEq) (gst_pre hk hok))) rfl rfl rfl ?_
      rintro v w211 ⟨rfl, hK2, hres⟩
      clear hb_g2 hE hb_gl
      have hb_g2 := hK2.bk hb0_g2 (by simp; omega)
      have hE := hK2.e0 hE0 (by simp; omega)
      have hz_K2 := hK2.size
      refine wl_val (ov_not rfl) rfl rfl rfl ?_
      refine q_nil (k_then ?_)
      refine wc_cond rfl (fun hc4 => ?_) (fun hc4 => ?_)
      ·have hkf : gK p (gst op (nR l) k).x (gst op (nR l) k).l = false := by simpa using hc4
       have hbad : ¬ RdOkR op l := by
        rintro ⟨q1, q2, q3, q4, q5, q6⟩
        have q := (q5 hn0).1
        rw [gst_fail (k := k + 1) (by omega) (by rw [gst_succ hk]; show (_ && _) = false; rw [hkf, Bool.and_false])] at q; cases q
       refine wc_seq (wc_regionL ?_)
       refine wl_val (ov_build (cs := [(.int .i64 0), (.int .i64 0), (.slice none 0 0), (.int .u64 0), (.int .i64 0), (.slice none 0 0)]) ze43 pl43 rfl rfl) rfl rfl rfl ?_
       refine wl_step0 (or_storeBlk (vs := [(.int .i64 0), (.int .i64 0), (.slice none 0 0), (.int .u64 0), (.int .i64 0), (.slice none 0 0)]) sz43 rfl rfl (by simp [Value.oneCell']) hb_g2 rfl) rfl rfl ?_
       rintro _ w212 ⟨hN212, hg212⟩
       have hz_hg212 := hg212.size
       replace hE := hE.gr hg212 (fun _ e => by cases e; omega)
       replace hb_g2 := hN212
       refine va rfl rfl ?_
       refine q_nil (k_then (q_ret (k_blockR (k_thenR (k_thenR (k_blockR (k_thenR ?_)))))))
       refine e_retL (rs := [.cell 2 43, .tmp 3]) (vs := [.agg #[(.int .i64 0), (.int .i64 0), (.slice none 0 0), (.int .u64 0), (.int .i64 0), (.slice none 0 0)], (.int .i64 6)]) rfl ⟨⟨_, _, [(.int .i64 0), (.int .i64 0), (.slice none 0 0), (.int .u64 0), (.int .i64 0), (.slice none 0 0)], rfl, ag43_6, hb_g2, rfl⟩, rfl, trivial⟩ ?_
       rw [rdR_bad hbad]
       exact ⟨none, 0, none, 0, [], rfl, rfl, RdI.nil _ _ _, Rd.nil _ _ _ _ _ _ (Nat.zero_le _), hE⟩
      ·have hkt : gK p (gst op (nR l) k).x (gst op (nR l) k).l = true := by simpa using hc4
       refine q_skip (k_block (k_then (wc_regionL ?_)))
       refine wl_val (ov_add rfl rfl (wi64 (by omega) (by omega))) rfl rfl rfl ?_
       refine vm rfl rfl ?_
       refine q_nil ?_
       refine k_loop (k + 1) (by show (pl op).length - (k + 1) < (pl op).length - k; omega) (⟨rfl, rfl, rfl, rfl, rfl, rfl, trivial⟩) (⟨by omega, by rw [gst_succ hk]; show (_ && _) = true; rw [hok, hkt]; rfl, by rw [gst_succ hk]; exact (hres hkt).1, by rw [gst_succ hk]; exact (hres hkt).2, hK2⟩)
     ·have hkn : k = (pl op).length := by omega
      subst hkn
      obtain ⟨X, cx, N, cn, xs, hb_g4, hxv, hri, hvr, hrn, hff⟩ := hX
      obtain ⟨A9, c9, hb_gr, hr9⟩ := hD
      have hRI := rowI_rd hri hvr
      refine q_exit (k_thenX (k_thenX (k_blockE (k_then (wc_seq (wc_seq (wc_regionL ?_)))))))
      refine vm rfl rfl ?_
      refine wl_val (or_call0 cl88 rfl rfl (left_ok _ gr _ _ A9 c9 _ hb_gr hr9 (by omega) (by have := gst_len op (nR l) (pl op).length; have := nR_len l; omega))) rfl rfl rfl ?_
      refine wl_val (ov_gtr rfl rfl) rfl rfl rfl ?_
      refine q_nil (k_then ?_)
      refine wc_cond_d rfl (fun hc5 => ?_) (fun hc5 => ?_)
      ·have hbad : ¬ RdOkR op l := by
        rintro ⟨q1, q2, q3, q4, q5, q6⟩
        have q := (q5 hn0).2
        unfold gend at q; omega
       refine wc_seq (wc_regionL ?_)
       refine wl_val (ov_build (cs := [(.int .i64 0), (.int .i64 0), (.slice none 0 0), (.int .u64 0), (.int .i64 0), (.slice none 0 0)]) ze43 pl43 rfl rfl) rfl rfl rfl ?_
       refine wl_step0 (or_storeBlk (vs := [(.int .i64 0), (.int .i64 0), (.slice none 0 0), (.int .u64 0), (.int .i64 0), (.slice none 0 0)]) sz43 rfl rfl (by simp [Value.oneCell']) hb_g2 rfl) rfl rfl ?_
       rintro _ w209 ⟨hN209, hg209⟩
       have hz_hg209 := hg209.size
       replace hE := hE.gr hg209 (fun _ e => by cases e; omega)
       replace hb_g2 := hN209
       refine va rfl rfl ?_
       refine q_nil (k_then (q_ret (k_thenR ?_)))
       refine e_retL (rs := [.cell 2 43, .tmp 3]) (vs := [.agg #[(.int .i64 0), (.int .i64 0), (.slice none 0 0), (.int .u64 0), (.int .i64 0), (.slice none 0 0)], (.int .i64 6)]) rfl ⟨⟨_, _, [(.int .i64 0), (.int .i64 0), (.slice none 0 0), (.int .u64 0), (.int .i64 0), (.slice none 0 0)], rfl, ag43_6, hb_g2, rfl⟩, rfl, trivial⟩ ?_
       rw [rdR_bad hbad]
       exact ⟨none, 0, none, 0, [], rfl, rfl, RdI.nil _ _ _, Rd.nil _ _ _ _ _ _ (Nat.zero_le _), hE⟩
      ·have hgood : RdOkR op l := ⟨by omega, by omega, hrk, .inl hpk, fun _ => ⟨hok, by unfold gend; omega⟩, fun h => absurd hn0 h⟩
       refine q_skip (k_then (wc_seq (wc_regionL ?_)))
       refine wl_val (ov_loadBlk (cs := [(.int .i64 (gst op (nR l) (pl op).length).x.op), (.int .i64 (gst op (nR l) (pl op).length).x.err), (.slice X (gst op (nR l) (pl op).length).x.items.length cx), (.int .u64 (↑(gst op (nR l) (pl op).length).x.ver : Int)), (.int .i64 (gst op (nR l) (pl op).length).x.count), (.slice N (gst op (nR l) (pl op).length).x.nums.length cn)]) ag43_6 rfl hb_g4) rfl rfl rfl ?_
       refine wl_step0 (or_storeBlk (vs := [(.int .i64 (gst op (nR l) (pl op).length).x.op), (.int .i64 (gst op (nR l) (pl op).length).x.err), (.slice X (gst op (nR l) (pl op).length).x.items.length cx), (.int .u64 (↑(gst op (nR l) (pl op).length).x.ver : Int)), (.int .i64 (gst op (nR l) (pl op).length).x.count), (.slice N (gst op (nR l) (pl op).length).x.nums.length cn)]) sz43 rfl rfl (by simp [Value.oneCell']) hb_g2 rfl) rfl rfl ?_
       rintro _ w209 ⟨hN209, hg209⟩
       have hz_hg209 := hg209.size
       replace hE := hE.gr hg209 (fun _ e => by cases e; omega)
       replace hRI := RdI.gr hRI hg209 (fun _ e => by cases e; omega)
       replace hrn := hrn.gr hg209 (fun _ e => by cases e; omega)
       replace hb_g2 := hN209
       refine va rfl rfl ?_
       refine q_nil (k_then (q_ret ?_))
       refine e_retL (rs := [.cell 2 43, .tmp 3]) (vs := [.agg #[(.int .i64 (gst op (nR l) (pl op).length).x.op), (.int .i64 (gst op (nR l) (pl op).length).x.err), (.slice X (gst op (nR l) (pl op).length).x.items.length cx), (.int .u64 (↑(gst op (nR l) (pl op).length).x.ver : Int)), (.int .i64 (gst op (nR l) (pl op).length).x.count), (.slice N (gst op (nR l) (pl op).length).x.nums.length cn)], (.int .i64 0)]) rfl ⟨⟨_, _, [(.int .i64 (gst op (nR l) (pl op).length).x.op), (.int .i64 (gst op (nR l) (pl op).length).x.err), (.slice X (gst op (nR l) (pl op).length).x.items.length cx), (.int .u64 (↑(gst op (nR l) (pl op).length).x.ver : Int)), (.int .i64 (gst op (nR l) (pl op).length).x.count), (.slice N (gst op (nR l) (pl op).length).x.nums.length cn)], rfl, ag43_6, hb_g2, rfl⟩, rfl, trivial⟩ ?_
       rw [rdR_0 hgood hn0]
       exact ⟨X, cx, N, cn, xs, rfl, hxv, hRI.mono (by omega) (by omega), hrn.mono (by omega) (by omega), hE⟩
theorem rd8_e (w : World) (code : UInt8) (op : Int) (hop : (code.toNat : Int) - 64 = op) (lo hi : Nat) (A : Option Addr) (c : Nat) (l : List UInt8) (hr : RdB w lo hi A c l) (hlen : l.length ≤ 140737488355328) (hn0 : ¬ nV l = 0) :
  Fn Tryz.prog 93 #[(.agg #[(.int .u8 (↑code.toNat : Int)), (.slice A l.length c)])] w (fun v w' => ∃ X cx N cn xs, v = .tuple #[.agg (rspc (rdR op l).1 X cx N cn).toArray, .int .i64 ((rdR op l).2 : Int)] ∧ vals xs = (rdR op l).1.items ∧ RdI w' w.heap.size w'.heap.size X cx xs ∧ RdN w' w.heap.size w'.heap.size N cn (rdR op l).1.nums ∧ Ext w w')  := by
 replace hr := hr.top
 have hE := ext_refl w
 have hct := code.toNat_lt
 refine fn_enter (args := [(.agg #[(.int .u8 (↑code.toNat : Int)), (.slice A l.length c)])]) Tryz.func93 rfl rfl rfl ?_
 show WC _ _ _ _ [(0, (.agg #[(.int .u8 (↑code.toNat : Int)), (.slice A l.length c)]))] _
 refine wc_seq (wc_regionL ?_)
 refine wl_step (or_box (cs := [(.int .u8 (↑code.toNat : Int)), (.slice A l.length c)]) rfl rfl) rfl rfl rfl ?_
 rintro v w1 ⟨g1, rfl, hb_g1, he1, hl1, hu1⟩
 replace hr := hr.ext he1
 replace hE := hE.tr he1
 have hz_he1 := he1.size
 refine wl_step (or_alloc (cs := [(.int .i64 0), (.int .i64 0), (.slice none 0 0), (.int .u64 0), (.int .i64 0), (.slice none 0 0)]) ze43 rfl) rfl rfl rfl ?_
 rintro v w2 ⟨g2, rfl, hb_g2, he2, hl2, hu2⟩
 replace hr := hr.ext he2
 replace hE := hE.tr he2
 replace hb_g1 := hb_g1.ext he2
 have hz_he2 := he2.size
 refine va rfl rfl ?_
 refine q_nil (k_then (wc_seq (wc_regionL ?_)))
 refine wl_val (ov_field0 (off := 0) fo117_0 rfl) rfl rfl rfl ?_
 refine wl_val (ov_loadAt oc5 rfl hb_g1 rfl) rfl rfl rfl ?_
 refine wl_val (ov_conv Tryz.underlying5 Tryz.underlying34 rfl (wi64 (by omega) (by omega))) rfl rfl rfl ?_
 refine wl_val (ov_sub rfl rfl (wi64 (by omega) (by omega))) rfl rfl rfl ?_
 refine wl_spell (d := 15) rfl (v' := (.int .i64 op)) (by rw [hop]) ?_
 refine wl_val (ov_build (cs := [(.int .i64 op), (.int .i64 0), (.slice none 0 0), (.int .u64 0), (.int .i64 0), (.slice none 0 0)]) ze43 pl43 rfl rfl) rfl rfl rfl ?_
 refine wl_step (or_alloc (cs := [(.int .i64 0), (.int .i64 0), (.slice none 0 0), (.int .u64 0), (.int .i64 0), (.slice none 0 0)]) ze43 rfl) rfl rfl rfl ?_
 rintro v w3 ⟨g4, rfl, hb_g4, he4, hl4, hu4⟩
 replace hr := hr.ext he4
 replace hE := hE.tr he4
 replace hb_g1 := hb_g1.ext he4
 replace hb_g2 := hb_g2.ext he4
 have hz_he4 := he4.size
 refine wl_step0 (or_storeBlk (vs := [(.int .i64 op), (.int .i64 0), (.slice none 0 0), (.int .u64 0), (.int .i64 0), (.slice none 0 0)]) sz43 rfl rfl (by simp [Value.oneCell']) hb_g4 rfl) rfl rfl ?_
 rintro _ w4 ⟨hN4, hg4⟩
 have hz_hg4 := hg4.size
 replace hr := hr.gr hg4 (fun _ e => by cases e; omega)
 replace hE := hE.gr hg4 (fun _ e => by cases e; omega)
 replace hb_g1 := hb_g1.gr hg4 (by intro e; cases e; omega)
 replace hb_g2 := hb_g2.gr hg4 (by intro e; cases e; omega)
 replace hb_g4 := hN4
 refine q_nil (k_then (wc_seq (wc_regionL ?_)))
 refine wl_val (ov_field0 (off := 0) fo43_0 rfl) rfl rfl rfl ?_
 refine wl_val (ov_loadAt oc34 rfl hb_g4 rfl) rfl rfl rfl ?_
 refine wl_step (or_call0 cl91 rfl rfl (parts8_any _ _)) rfl rfl rfl ?_
 rintro v w5 ⟨gl, rfl, hb_gl, he20, hll⟩
 replace hr := hr.ext he20
 replace hE := hE.tr he20
 replace hb_g1 := hb_g1.ext he20
 replace hb_g2 := hb_g2.ext he20
 replace hb_g4 := hb_g4.ext he20
 have hz_he20 := he20.size
 refine vm rfl rfl ?_
 iterate 2 refine vx rfl rfl rfl ?_
 iterate 2 refine va rfl rfl ?_
 refine q_nil (k_then (wc_seq (wc_regionL ?_)))
 refine wl_val (ov_field0 (off := 1) fo117_1 rfl) rfl rfl rfl ?_
 refine wl_val (ov_loadAt oc32 rfl hb_g1 rfl) rfl rfl rfl ?_
 obtain ⟨lo1, hlo1⟩ : ∃ n, n = w5.heap.size := ⟨_, rfl⟩
 have hzl := hb_gl.lt
 have hz4 := hb_g4.lt
 refine wl_step (or_call0 cl86 rfl rfl (rnew_any _ _ _ _ _ l hr hlen)) rfl rfl rfl ?_
 rintro v w6 ⟨gr, A1, c1, h2, rfl, hb_gr, hr1, hle, he25, hg1, hg2⟩
 replace hE := hE.tr he25
 replace hb_g2 := hb_g2.ext he25
 replace hb_g4 := hb_g4.ext he25
 have hz_he25 := he25.size
 rw [← hlo1] at hr1 hg1
 refine va rfl rfl ?_
 refine q_nil (k_then (wc_seq (wc_regionL ?_)))
 refine vm rfl rfl ?_
 refine wl_step (or_call0 cl118 rfl rfl (rd8_any _ gr _ _ A1 c1 l hb_gr hr1 (by omega) (by omega) 100000 (by omega))) rfl rfl rfl ?_
 rintro v w7 ⟨rfl, ⟨A28, c28, hb28, hr28⟩, hg28⟩
 have hz_hg28 := hg28.size
 replace hE := hE.gr hg28 (fun _ e => by cases e; omega)
 replace hb_g2 := hb_g2.gr hg28 (by intro e; cases e; omega)
 replace hb_g4 := hb_g4.gr hg28 (by intro e; cases e; omega)
 have hb_gr := hb28
 have hl28 := nR_len l
 have hv28 := nV_lt l
 refine vm rfl rfl ?_
 iterate 2 refine vx rfl rfl rfl ?_
 iterate 2 refine va rfl rfl ?_
 refine q_nil (k_then (wc_seq (wc_regionL ?_)))
 refine vm rfl rfl ?_
 refine wl_val (ov_conv Tryz.underlying36 Tryz.underlying29 rfl rfl) rfl rfl rfl ?_
 refine wl_val (ov_field0 (off := 1) fo43_1 rfl) rfl rfl rfl ?_
 refine wl_step0 (or_storeAt (cs' := [(.int .i64 op), (.int .i64 (IntKind.i64.wrap (↑(nV l) : Int))), (.slice none 0 0), (.int .u64 0), (.int .i64 0), (.slice none 0 0)]) sz29 rfl rfl rfl hb_g4 rfl rfl) rfl rfl ?_
 rintro _ w8 ⟨hN8, hg8⟩
 have hz_hg8 := hg8.size
 replace hE := hE.gr hg8 (fun _ e => by cases e; omega)
 replace hb_g2 := hb_g2.gr hg8 (by intro e; cases e; omega)
 replace hb_gr := hb_gr.gr hg8 (by intro e; cases e; omega)
 replace hr28 := hr28.gr hg8 (fun _ e => by cases e; omega)
 replace hb_g4 := hN8
 refine q_nil (k_then (wc_seq (wc_seq (wc_regionL ?_))))
 refine wl_val (ov_field0 (off := 0) fo43_0 rfl) rfl rfl rfl ?_
 refine wl_val (ov_loadAt oc34 rfl hb_g4 rfl) rfl rfl rfl ?_
 refine wl_val (ov_lss rfl rfl) rfl rfl rfl ?_
 refine wl_case_d (d := 36) rfl (fun h36 => ?_) (fun h36 => ?_)
 ·have hbad : ¬ RdOkR op l := by
   rintro ⟨q1, q2, q3, q4, q5, q6⟩
   omega
  refine vm rfl rfl ?_
  iterate 3 refine wl_gskip rfl rfl rfl rfl rfl rfl ?_
  refine wl_val (ov_pick_t rfl rfl) rfl rfl rfl ?_
  refine vm rfl rfl ?_
  iterate 2 refine wl_gskip rfl rfl rfl rfl rfl rfl ?_
  refine wl_val (ov_pick_t rfl rfl) rfl rfl rfl ?_
  refine vm rfl rfl ?_
  iterate 3 refine wl_gskip rfl rfl rfl rfl rfl rfl ?_
  iterate 2 refine wl_gskipU rfl rfl rfl rfl rfl ?_
  refine wl_gskip rfl rfl rfl rfl rfl rfl ?_
  refine wl_val (ov_pick_t rfl rfl) rfl rfl rfl ?_
  refine q_nil (k_then ?_)
  refine wc_cond_t rfl ?_
  refine wc_seq (wc_regionL ?_)
  refine wl_val (ov_build (cs := [(.int .i64 0), (.int .i64 0), (.slice none 0 0), (.int .u64 0), (.int .i64 0), (.slice none 0 0)]) ze43 pl43 rfl rfl) rfl rfl rfl ?_
  refine wl_step0 (or_storeBlk (vs := [(.int .i64 0), (.int .i64 0), (.slice none 0 0), (.int .u64 0), (.int .i64 0), (.slice none 0 0)]) sz43 rfl rfl (by simp [Value.oneCell']) hb_g2 rfl) rfl rfl ?_
  rintro _ w9 ⟨hN9, hg9⟩
  have hz_hg9 := hg9.size
  replace hE := hE.gr hg9 (fun _ e => by cases e; omega)
  replace hb_g2 := hN9
  refine va rfl rfl ?_
  refine q_nil (k_then (q_ret (k_thenR ?_)))
  refine e_retL (rs := [.cell 2 43, .tmp 3]) (vs := [.agg #[(.int .i64 0), (.int .i64 0), (.slice none 0 0), (.int .u64 0), (.int .i64 0), (.slice none 0 0)], (.int .i64 6)]) rfl ⟨⟨_, _, [(.int .i64 0), (.int .i64 0), (.slice none 0 0), (.int .u64 0), (.int .i64 0), (.slice none 0 0)], rfl, ag43_6, hb_g2, rfl⟩, rfl, trivial⟩ ?_
  rw [rdR_bad hbad]
  exact ⟨none, 0, none, 0, [], rfl, rfl, RdI.nil _ _ _, Rd.nil _ _ _ _ _ _ (Nat.zero_le _), hE⟩
 ·refine vm rfl rfl ?_
  refine wl_gval (ov_field0 (off := 0) fo43_0 rfl) rfl rfl rfl rfl rfl ?_
  refine wl_gval (ov_loadAt oc34 rfl hb_g4 rfl) rfl rfl rfl rfl rfl ?_
  refine wl_gval (ov_gtr rfl rfl) rfl rfl rfl rfl rfl ?_
  refine wl_case_d (d := 40) rfl (fun h40 => ?_) (fun h40 => ?_)
  ·have hbad : ¬ RdOkR op l := by
    rintro ⟨q1, q2, q3, q4, q5, q6⟩
    omega
   refine wl_val (ov_pick_f rfl rfl) rfl rfl rfl ?_
   refine vm rfl rfl ?_
   iterate 2 refine wl_gskip rfl rfl rfl rfl rfl rfl ?_
   refine wl_val (ov_pick_t rfl rfl) rfl rfl rfl ?_
   refine vm rfl rfl ?_
   iterate 3 refine wl_gskip rfl rfl rfl rfl rfl rfl ?_
   iterate 2 refine wl_gskipU rfl rfl rfl rfl rfl ?_
   refine wl_gskip rfl rfl rfl rfl rfl rfl ?_
   refine wl_val (ov_pick_t rfl rfl) rfl rfl rfl ?_
   refine q_nil (k_then ?_)
   refine wc_cond_t rfl ?_
   refine wc_seq (wc_regionL ?_)
   refine wl_val (ov_build (cs := [(.int .i64 0), (.int .i64 0), (.slice none 0 0), (.int .u64 0), (.int .i64 0), (.slice none 0 0)]) ze43 pl43 rfl rfl) rfl rfl rfl ?_
   refine wl_step0 (or_storeBlk (vs := [(.int .i64 0), (.int .i64 0), (.slice none 0 0), (.int .u64 0), (.int .i64 0), (.slice none 0 0)]) sz43 rfl rfl (by simp [Value.oneCell']) hb_g2 rfl) rfl rfl ?_
   rintro _ w209 ⟨hN209, hg209⟩
   have hz_hg209 := hg209.size
   replace hE := hE.gr hg209 (fun _ e => by cases e; omega)
   replace hb_g2 := hN209
   refine va rfl rfl ?_
   refine q_nil (k_then (q_ret (k_thenR ?_)))
   refine e_retL (rs := [.cell 2 43, .tmp 3]) (vs := [.agg #[(.int .i64 0), (.int .i64 0), (.slice none 0 0), (.int .u64 0), (.int .i64 0), (.slice none 0 0)], (.int .i64 6)]) rfl ⟨⟨_, _, [(.int .i64 0), (.int .i64 0), (.slice none 0 0), (.int .u64 0), (.int .i64 0), (.slice none 0 0)], rfl, ag43_6, hb_g2, rfl⟩, rfl, trivial⟩ ?_
   rw [rdR_bad hbad]
   exact ⟨none, 0, none, 0, [], rfl, rfl, RdI.nil _ _ _, Rd.nil _ _ _ _ _ _ (Nat.zero_le _), hE⟩
  ·refine wl_val (ov_pick_f rfl rfl) rfl rfl rfl ?_
   refine vm rfl rfl ?_
   refine wl_gval (ov_move rfl) rfl rfl rfl rfl rfl ?_
   refine wl_gval (ov_not rfl) rfl rfl rfl rfl rfl ?_
   refine wl_spell (d := 44) rfl (v' := (.bool (decide (rK 100000 l = false)))) (by cases rK 100000 l <;> rfl) ?_
   refine wl_case_d (d := 44) rfl (fun h44 => ?_) (fun h44 => ?_)
   ·have hbad : ¬ RdOkR op l := by
     rintro ⟨q1, q2, q3, q4, q5, q6⟩
     rw [h44] at q3; cases q3
    refine wl_val (ov_pick_f rfl rfl) rfl rfl rfl ?_
    refine vm rfl rfl ?_
    iterate 3 refine wl_gskip rfl rfl rfl rfl rfl rfl ?_
    iterate 2 refine wl_gskipU rfl rfl rfl rfl rfl ?_
    refine wl_gskip rfl rfl rfl rfl rfl rfl ?_
    refine wl_val (ov_pick_t rfl rfl) rfl rfl rfl ?_
    refine q_nil (k_then ?_)
    refine wc_cond_t rfl ?_
    refine wc_seq (wc_regionL ?_)
    refine wl_val (ov_build (cs := [(.int .i64 0), (.int .i64 0), (.slice none 0 0), (.int .u64 0), (.int .i64 0), (.slice none 0 0)]) ze43 pl43 rfl rfl) rfl rfl rfl ?_
    refine wl_step0 (or_storeBlk (vs := [(.int .i64 0), (.int .i64 0), (.slice none 0 0), (.int .u64 0), (.int .i64 0), (.slice none 0 0)]) sz43 rfl rfl (by simp [Value.oneCell']) hb_g2 rfl) rfl rfl ?_
    rintro _ w209 ⟨hN209, hg209⟩
    have hz_hg209 := hg209.size
    replace hE := hE.gr hg209 (fun _ e => by cases e; omega)
    replace hb_g2 := hN209
    refine va rfl rfl ?_
    refine q_nil (k_then (q_ret (k_thenR ?_)))
    refine e_retL (rs := [.cell 2 43, .tmp 3]) (vs := [.agg #[(.int .i64 0), (.int .i64 0), (.slice none 0 0), (.int .u64 0), (.int .i64 0), (.slice none 0 0)], (.int .i64 6)]) rfl ⟨⟨_, _, [(.int .i64 0), (.int .i64 0), (.slice none 0 0), (.int .u64 0), (.int .i64 0), (.slice none 0 0)], rfl, ag43_6, hb_g2, rfl⟩, rfl, trivial⟩ ?_
    rw [rdR_bad hbad]
    exact ⟨none, 0, none, 0, [], rfl, rfl, RdI.nil _ _ _, Rd.nil _ _ _ _ _ _ (Nat.zero_le _), hE⟩
   ·have hrk : rK 100000 l = true := by simpa using h44
    have hrl := rK_le hrk
    refine wl_val (ov_pick_f rfl rfl) rfl rfl rfl ?_
    refine vm rfl rfl ?_
    refine wl_gval (ov_move rfl) rfl rfl rfl rfl rfl ?_
    refine wl_gval (ov_not rfl) rfl rfl rfl rfl rfl ?_
    refine wl_spell (d := 48) rfl (v' := (.bool (decide (plOk op = false)))) (by cases plOk op <;> rfl) ?_
    refine wl_case_d (d := 48) rfl (fun h48 => ?_) (fun h48 => ?_)
    ·refine wl_gval (ov_move rfl) rfl rfl rfl rfl rfl ?_
     refine wl_gval (ov_move rfl) rfl rfl rfl rfl rfl ?_
     refine wl_gval (ov_eql rfl rfl) rfl rfl rfl rfl rfl ?_
     refine wl_spell (d := 51) rfl (bf (by omega)) ?_
     refine wl_gval (ov_pick_t rfl rfl) rfl rfl rfl rfl rfl ?_
     refine wl_val (ov_pick_f rfl rfl) rfl rfl rfl ?_
     refine q_nil (k_then ?_)
     refine wc_cond_f rfl ?_
     refine q_skip (k_then (wc_seq (wc_seq (wc_regionL ?_))))
     refine vm rfl rfl ?_
     refine ve rfl rfl rfl ?_
     refine wl_spell (d := 56) rfl (bf (by omega)) ?_
     refine q_nil (k_then ?_)
     refine wc_cond_f rfl ?_
     refine q_skip (k_then (wc_seq (wc_seq (wc_regionL ?_))))
     refine vm rfl rfl ?_
     refine wl_val (or_call0 cl88 rfl rfl (left_ok _ gr _ _ A28 c28 _ hb_gr hr28 (by omega) (by omega))) rfl rfl rfl ?_
     refine wl_val (ov_gtr rfl rfl) rfl rfl rfl ?_
     refine q_nil (k_then ?_)
     refine wc_cond_d rfl (fun hc5 => ?_) (fun hc5 => ?_)
     ·have hbad : ¬ RdOkR op l := by
       rintro ⟨q1, q2, q3, q4, q5, q6⟩
       have q := q6 hn0
       omega
      refine wc_seq (wc_regionL ?_)
      refine wl_val (ov_build (cs := [(.int .i64 0), (.int .i64 0), (.slice none 0 0), (.int .u64 0), (.int .i64 0), (.slice none 0 0)]) ze43 pl43 rfl rfl) rfl rfl rfl ?_
      refine wl_step0 (or_storeBlk (vs := [(.int .i64 0), (.int .i64 0), (.slice none 0 0), (.int .u64 0), (.int .i64 0), (.slice none 0 0)]) sz43 rfl rfl (by simp [Value.oneCell']) hb_g2 rfl) rfl rfl ?_
      rintro _ w209 ⟨hN209, hg209⟩
      have hz_hg209 := hg209.size
      replace hE := hE.gr hg209 (fun _ e => by cases e; omega)
      replace hb_g2 := hN209
      refine va rfl rfl ?_
      refine q_nil (k_then (q_ret (k_thenR ?_)))
      refine e_retL (rs := [.cell 2 43, .tmp 3]) (vs := [.agg #[(.int .i64 0), (.int .i64 0), (.slice none 0 0), (.int .u64 0), (.int .i64 0), (.slice none 0 0)], (.int .i64 6)]) rfl ⟨⟨_, _, [(.int .i64 0), (.int .i64 0), (.slice none 0 0), (.int .u64 0), (.int .i64 0), (.slice none 0 0)], rfl, ag43_6, hb_g2, rfl⟩, rfl, trivial⟩ ?_
      rw [rdR_bad hbad]
      exact ⟨none, 0, none, 0, [], rfl, rfl, RdI.nil _ _ _, Rd.nil _ _ _ _ _ _ (Nat.zero_le _), hE⟩
     ·have hpo : plOk op = true ∨ ¬ nV l = 0 := .inr hn0
      have hgood : RdOkR op l := ⟨by omega, by omega, hrk, hpo, fun h => absurd h hn0, fun _ => by omega⟩
      refine q_skip (k_then (wc_seq (wc_regionL ?_)))
      refine wl_val (ov_loadBlk (cs := [(.int .i64 op), (.int .i64 (IntKind.i64.wrap (↑(nV l) : Int))), (.slice none 0 0), (.int .u64 0), (.int .i64 0), (.slice none 0 0)]) ag43_6 rfl hb_g4) rfl rfl rfl ?_
      refine wl_step0 (or_storeBlk (vs := [(.int .i64 op), (.int .i64 (IntKind.i64.wrap (↑(nV l) : Int))), (.slice none 0 0), (.int .u64 0), (.int .i64 0), (.slice none 0 0)]) sz43 rfl rfl (by simp [Value.oneCell']) hb_g2 rfl) rfl rfl ?_
      rintro _ w209 ⟨hN209, hg209⟩
      have hz_hg209 := hg209.size
      replace hE := hE.gr hg209 (fun _ e => by cases e; omega)
      replace hb_g2 := hN209
      refine va rfl rfl ?_
      refine q_nil (k_then (q_ret ?_))
      refine e_retL (rs := [.cell 2 43, .tmp 3]) (vs := [.agg #[(.int .i64 op), (.int .i64 (IntKind.i64.wrap (↑(nV l) : Int))), (.slice none 0 0), (.int .u64 0), (.int .i64 0), (.slice none 0 0)], (.int .i64 0)]) rfl ⟨⟨_, _, [(.int .i64 op), (.int .i64 (IntKind.i64.wrap (↑(nV l) : Int))), (.slice none 0 0), (.int .u64 0), (.int .i64 0), (.slice none 0 0)], rfl, ag43_6, hb_g2, rfl⟩, rfl, trivial⟩ ?_
      rw [rdR_e hgood hn0]
      exact ⟨none, 0, none, 0, [], by rw [wi64 (by omega) (by omega)]; rfl, rfl, RdI.nil _ _ _, Rd.nil _ _ _ _ _ _ (Nat.zero_le _), hE⟩
    ·refine wl_gval (ov_move rfl) rfl rfl rfl rfl rfl ?_
     iterate 2 refine wl_gskip rfl rfl rfl rfl rfl rfl ?_
     refine wl_gval (ov_pick_f rfl rfl) rfl rfl rfl rfl rfl ?_
     refine wl_val (ov_pick_f rfl rfl) rfl rfl rfl ?_
     refine q_nil (k_then ?_)
     refine wc_cond_f rfl ?_
     refine q_skip (k_then (wc_seq (wc_seq (wc_regionL ?_))))
     refine vm rfl rfl ?_
     refine ve rfl rfl rfl ?_
     refine wl_spell (d := 56) rfl (bf (by omega)) ?_
     refine q_nil (k_then ?_)
     refine wc_cond_f rfl ?_
     refine q_skip (k_then (wc_seq (wc_seq (wc_regionL ?_))))
     refine vm rfl rfl ?_
     refine wl_val (or_call0 cl88 rfl rfl (left_ok _ gr _ _ A28 c28 _ hb_gr hr28 (by omega) (by omega))) rfl rfl rfl ?_
     refine wl_val (ov_gtr rfl rfl) rfl rfl rfl ?_
     refine q_nil (k_then ?_)
     refine wc_cond_d rfl (fun hc5 => ?_) (fun hc5 => ?_)
     ·have hbad : ¬ RdOkR op l := by
       rintro ⟨q1, q2, q3, q4, q5, q6⟩
       have q := q6 hn0
       omega
      refine wc_seq (wc_regionL ?_)
      refine wl_val (ov_build (cs := [(.int .i64 0), (.int .i64 0), (.slice none 0 0), (.int .u64 0), (.int .i64 0), (.slice none 0 0)]) ze43 pl43 rfl rfl) rfl rfl rfl ?_
      refine wl_step0 (or_storeBlk (vs := [(.int .i64 0), (.int .i64 0), (.slice none 0 0), (.int .u64 0), (.int .i64 0), (.slice none 0 0)]) sz43 rfl rfl (by simp [Value.oneCell']) hb_g2 rfl) rfl rfl ?_
      rintro _ w209 ⟨hN209, hg209⟩
      have hz_hg209 := hg209.size
      replace hE := hE.gr hg209 (fun _ e => by cases e; omega)
      replace hb_g2 := hN209
      refine va rfl rfl ?_
      refine q_nil (k_then (q_ret (k_thenR ?_)))
      refine e_retL (rs := [.cell 2 43, .tmp 3]) (vs := [.agg #[(.int .i64 0), (.int .i64 0), (.slice none 0 0), (.int .u64 0), (.int .i64 0), (.slice none 0 0)], (.int .i64 6)]) rfl ⟨⟨_, _, [(.int .i64 0), (.int .i64 0), (.slice none 0 0), (.int .u64 0), (.int .i64 0), (.slice none 0 0)], rfl, ag43_6, hb_g2, rfl⟩, rfl, trivial⟩ ?_
      rw [rdR_bad hbad]
      exact ⟨none, 0, none, 0, [], rfl, rfl, RdI.nil _ _ _, Rd.nil _ _ _ _ _ _ (Nat.zero_le _), hE⟩
     ·have hpo : plOk op = true ∨ ¬ nV l = 0 := .inr hn0
      have hgood : RdOkR op l := ⟨by omega, by omega, hrk, hpo, fun h => absurd h hn0, fun _ => by omega⟩
      refine q_skip (k_then (wc_seq (wc_regionL ?_)))
      refine wl_val (ov_loadBlk (cs := [(.int .i64 op), (.int .i64 (IntKind.i64.wrap (↑(nV l) : Int))), (.slice none 0 0), (.int .u64 0), (.int .i64 0), (.slice none 0 0)]) ag43_6 rfl hb_g4) rfl rfl rfl ?_
      refine wl_step0 (or_storeBlk (vs := [(.int .i64 op), (.int .i64 (IntKind.i64.wrap (↑(nV l) : Int))), (.slice none 0 0), (.int .u64 0), (.int .i64 0), (.slice none 0 0)]) sz43 rfl rfl (by simp [Value.oneCell']) hb_g2 rfl) rfl rfl ?_
      rintro _ w209 ⟨hN209, hg209⟩
      have hz_hg209 := hg209.size
      replace hE := hE.gr hg209 (fun _ e => by cases e; omega)
      replace hb_g2 := hN209
      refine va rfl rfl ?_
      refine q_nil (k_then (q_ret ?_))
      refine e_retL (rs := [.cell 2 43, .tmp 3]) (vs := [.agg #[(.int .i64 op), (.int .i64 (IntKind.i64.wrap (↑(nV l) : Int))), (.slice none 0 0), (.int .u64 0), (.int .i64 0), (.slice none 0 0)], (.int .i64 0)]) rfl ⟨⟨_, _, [(.int .i64 op), (.int .i64 (IntKind.i64.wrap (↑(nV l) : Int))), (.slice none 0 0), (.int .u64 0), (.int .i64 0), (.slice none 0 0)], rfl, ag43_6, hb_g2, rfl⟩, rfl, trivial⟩ ?_
      rw [rdR_e hgood hn0]
      exact ⟨none, 0, none, 0, [], by rw [wi64 (by omega) (by omega)]; rfl, rfl, RdI.nil _ _ _, Rd.nil _ _ _ _ _ _ (Nat.zero_le _), hE⟩
theorem rd8_read (w : World) (code : UInt8) (op : Int) (hop : (code.toNat : Int) - 64 = op) (lo hi : Nat) (A : Option Addr) (c : Nat) (l : List UInt8) (hr : RdB w lo hi A c l) (hlen : l.length ≤ 140737488355328) :
  Fn Tryz.prog 93 #[.agg #[.int .u8 (code.toNat : Int), .slice A l.length c]] w (fun v w' => ∃ X cx N cn xs, v = .tuple #[.agg (rspc (rdR op l).1 X cx N cn).toArray, .int .i64 ((rdR op l).2 : Int)] ∧ vals xs = (rdR op l).1.items ∧ RdI w' w.heap.size w'.heap.size X cx xs ∧ RdN w' w.heap.size w'.heap.size N cn (rdR op l).1.nums ∧ Ext w w') := by
 by_cases h : nV l = 0
 ·exact rd8_0 w code op hop lo hi A c l hr hlen h
 ·exact rd8_e w code op hop lo hi A c l hr hlen h
end Go.Proofs.YtiighkbehiddkaaGreat