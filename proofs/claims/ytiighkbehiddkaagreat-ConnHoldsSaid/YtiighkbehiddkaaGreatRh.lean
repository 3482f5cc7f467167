/-
 The frame of a response.
-/
import Derived.Test.YtiighkbehiddkaaGreatRg
namespace Go.Proofs.YtiighkbehiddkaaGreat
open Go.RowKit
set_option linter.unusedVariables false
set_option maxRecDepth 4000
theorem cl74 : callable Tryz.prog 74 = true := by kernel_rfl
theorem cl93 : callable Tryz.prog 93 = true := by kernel_rfl
theorem cl94 : callable Tryz.prog 94 = true := by kernel_rfl
theorem fo162_0 : fieldOff Tryz.prog 162 0 = some 0 := by kernel_rfl
theorem oc159 : oneCellTy Tryz.prog 159 = true := by kernel_rfl
theorem ze32 : zeroOf Tryz.prog 32 = some (.slice none 0 0) := by kernel_rfl
/-- The frame of a response, and the error. -/
def codeR (r : Rsp) : UInt8 := UInt8.ofNat (64 + r.op).toNat
theorem codeR_nat {r : Rsp} (h1 : 0 ≤ r.op) (h2 : r.op ≤ 15) : ((codeR r).toNat : Int) = 64 + r.op := by unfold codeR; rw [UInt8.toNat_ofNat']; omega
theorem codeR_sub {r : Rsp} (h1 : 0 ≤ r.op) (h2 : r.op ≤ 15) : ((codeR r).toNat : Int) - 64 = r.op := by rw [codeR_nat h1 h2]; omega
theorem wu8_R {r : Rsp} (h1 : 0 ≤ r.op) (h2 : r.op ≤ 15) : IntKind.u8.wrap (64 + r.op) = ((codeR r).toNat : Int) := by rw [codeR_nat h1 h2, wu8 (by omega) (by omega)]
def wbytes (r : Rsp) : List UInt8 := enc r.err.toNat ++ if r.err = 0 then (pl r.op).flatMap (putC r) else []
def WrOk (r : Rsp) : Prop := 0 ≤ r.op ∧ r.op ≤ 15 ∧ 0 ≤ r.err ∧ r.err ≤ 100000 ∧ (plOk r.op = true ∨ ¬ r.err = 0) ∧ (r.err = 0 → (pl r.op).all (okP r) = true) ∧ (rdR r.op (wbytes r)).2 = 0 ∧ (rdR r.op (wbytes r)).1 = r
instance (r : Rsp) : Decidable (WrOk r) := by unfold WrOk; infer_instance
def wrR (r : Rsp) : (UInt8 × List UInt8) × Nat := if WrOk r then ((codeR r, wbytes r), 0) else ((0, []), 2)
theorem wrR_ok {r : Rsp} (h : WrOk r) : wrR r = ((codeR r, wbytes r), 0) := if_pos h
theorem wrR_bad {r : Rsp} (h : ¬ WrOk r) : wrR r = ((0, []), 2) := if_neg h
def wpre (r : Rsp) (k : Nat) : List UInt8 := enc r.err.toNat ++ ((pl r.op).take k).flatMap (putC r)
theorem wpre_succ {r : Rsp} {k : Nat} {p : UInt8} (h : (pl r.op)[k]? = some p) : wpre r (k + 1) = wpre r k ++ putC r p := by
 unfold wpre; rw [List.take_add_one, h, List.flatMap_append, List.append_assoc]; simp
theorem wpre_end {r : Rsp} (h : r.err = 0) : wpre r (pl r.op).length = wbytes r := by unfold wpre wbytes; rw [List.take_length, if_pos h]
theorem wbytes_e {r : Rsp} (h : ¬ r.err = 0) : wbytes r = enc r.err.toNat := by unfold wbytes; rw [if_neg h, List.append_nil]
theorem okP_take {r : Rsp} {k : Nat} {p : UInt8} (h : (pl r.op)[k]? = some p) : ((pl r.op).take (k + 1)).all (okP r) = (((pl r.op).take k).all (okP r) && okP r p) := by
 rw [List.take_add_one, h, List.all_append]; simp
theorem putC_len (r : Rsp) (p : UInt8) (h : okP r p = true) : (putC r p).length ≤ rsz r := by
 have h1 := enc_len r.ver
 have h2 := enc_len r.count.toNat
 have h3 := enc_len r.items.length
 have h4 := enc_len r.nums.length
 have h5 := encs_len r.nums
 unfold putC rsz
 split
 ·omega
 split
 ·omega
 split
 ·simp
 split
 ·rename_i e
  subst e
  have h6 := items_len r.items h
  omega
 split
 ·omega
 ·rw [List.length_append]; omega
theorem wpre_len (r : Rsp) : ∀ k, ((pl r.op).take k).all (okP r) = true → (wpre r k).length ≤ 10 + k * rsz r
 | 0, _ => by unfold wpre; have := enc_len r.err.toNat; simp; omega
 | k + 1, h => by
  rcases Nat.lt_or_ge k (pl r.op).length with hk | hk
  ·have e : (pl r.op)[k]? = some (pl r.op)[k] := List.getElem?_eq_getElem hk
   rw [okP_take e, Bool.and_eq_true] at h
   have h1 := wpre_len r k h.1
   have h2 := putC_len r _ h.2
   rw [wpre_succ e, List.length_append, Nat.succ_mul]; omega
  ·have e : wpre r (k + 1) = wpre r k := by unfold wpre; rw [List.take_of_length_le (by omega), List.take_of_length_le hk]
   have e2 : ((pl r.op).take k).all (okP r) = true := by rw [List.take_of_length_le (by omega)] at h; rw [List.take_of_length_le hk]; exact h
   have h1 := wpre_len r k e2
   rw [e, Nat.succ_mul]; omega
theorem wpre_len3 {r : Rsp} {k : Nat} (hk : k ≤ 2) (h : ((pl r.op).take k).all (okP r) = true) : (wpre r k).length ≤ 10 + 2 * rsz r := by
 have h1 := wpre_len r k h
 have h2 : k * rsz r ≤ 2 * rsz r := Nat.mul_le_mul_right _ hk
 omega
theorem wr8_0 (w : World) (r : Rsp) (xs : List IT) (hv : vals xs = r.items) (lo hi : Nat) (X : Option Addr) (cx : Nat) (N : Option Addr) (cn : Nat) (hx : RdI w lo hi X cx xs) (hn : RdN w lo hi N cn r.nums) (hok : RspOk r) (hsz : rsz r ≤ 4398046511104) (he0 : r.err = 0) :
  Fn Tryz.prog 74 #[(.agg #[(.int .i64 r.op), (.int .i64 r.err), (.slice X r.items.length cx), (.int .u64 (↑r.ver : Int)), (.int .i64 r.count), (.slice N r.nums.length cn)])] w (fun v w' => ∃ A c, v = .tuple #[.agg #[.int .u8 ((wrR r).1.1.toNat : Int), .slice A (wrR r).1.2.length c], .int .i64 ((wrR r).2 : Int)] ∧ OwnB w' w.heap.size 5 A c (wrR r).1.2 ∧ Ext w w')  := by
 replace hx := hx.top
 replace hn := Rd.top hn
 have hE := ext_refl w
 obtain ⟨h1, hh1⟩ : ∃ n, n = w.heap.size := ⟨_, rfl⟩
 rw [← hh1] at hx hn
 have hel := enc_len r.err.toNat
 have hwl := fun k => wpre_len3 (r := r) (k := k)
 have hpl := pl_len r.op
 refine fn_enter (args := [(.agg #[(.int .i64 r.op), (.int .i64 r.err), (.slice X r.items.length cx), (.int .u64 (↑r.ver : Int)), (.int .i64 r.count), (.slice N r.nums.length cn)])]) Tryz.func74 rfl rfl rfl ?_
 show WC _ _ _ _ [(0, (.agg #[(.int .i64 r.op), (.int .i64 r.err), (.slice X r.items.length cx), (.int .u64 (↑r.ver : Int)), (.int .i64 r.count), (.slice N r.nums.length cn)]))] _
 refine wc_seq (wc_regionL ?_)
 refine wl_step (or_box (cs := [(.int .i64 r.op), (.int .i64 r.err), (.slice X r.items.length cx), (.int .u64 (↑r.ver : Int)), (.int .i64 r.count), (.slice N r.nums.length cn)]) rfl rfl) rfl rfl rfl ?_
 rintro v w1 ⟨g1, rfl, hb_g1, he1, hl1, hu1⟩
 replace hx := RdI.ext hx he1
 replace hn := hn.ext he1
 replace hE := hE.tr he1
 have hz_he1 := he1.size
 refine wl_step (or_alloc (cs := [(.int .u8 0), (.slice none 0 0)]) ze117 rfl) rfl rfl rfl ?_
 rintro v w2 ⟨g2, rfl, hb_g2, he2, hl2, hu2⟩
 replace hx := RdI.ext hx he2
 replace hn := hn.ext he2
 replace hE := hE.tr he2
 replace hb_g1 := hb_g1.ext he2
 have hz_he2 := he2.size
 refine va rfl rfl ?_
 refine q_nil (k_then (wc_seq (wc_regionL ?_)))
 refine wl_val (ov_build (cs := [(.int .u8 0), (.slice none 0 0)]) ze117 pl117 rfl rfl) rfl rfl rfl ?_
 refine wl_step (or_alloc (cs := [(.int .u8 0), (.slice none 0 0)]) ze117 rfl) rfl rfl rfl ?_
 rintro v w3 ⟨g4, rfl, hb_g4, he4, hl4, hu4⟩
 replace hx := RdI.ext hx he4
 replace hn := hn.ext he4
 replace hE := hE.tr he4
 replace hb_g1 := hb_g1.ext he4
 replace hb_g2 := hb_g2.ext he4
 have hz_he4 := he4.size
 refine wl_step0 (or_storeBlk (vs := [(.int .u8 0), (.slice none 0 0)]) sz117 rfl rfl (by simp [Value.oneCell']) hb_g4 rfl) rfl rfl ?_
 rintro _ w4 ⟨hN4, hg4⟩
 have hz_hg4 := hg4.size
 replace hx := RdI.gr hx hg4 (fun _ e => by cases e; omega)
 replace hn := hn.gr hg4 (fun _ e => by cases e; omega)
 replace hE := hE.gr hg4 (fun _ e => by cases e; omega)
 replace hb_g1 := hb_g1.gr hg4 (by intro e; cases e; omega)
 replace hb_g2 := hb_g2.gr hg4 (by intro e; cases e; omega)
 replace hb_g4 := hN4
 refine q_nil (k_then (wc_seq (wc_regionL ?_)))
 refine wl_val (ov_field0 (off := 0) fo43_0 rfl) rfl rfl rfl ?_
 refine wl_val (ov_loadAt oc34 rfl hb_g1 rfl) rfl rfl rfl ?_
 refine wl_step (or_call0 cl91 rfl rfl (parts8_any _ _)) rfl rfl rfl ?_
 rintro v w5 ⟨gl, rfl, hb_gl, he17, hll⟩
 replace hx := RdI.ext hx he17
 replace hn := hn.ext he17
 replace hE := hE.tr he17
 replace hb_g1 := hb_g1.ext he17
 replace hb_g2 := hb_g2.ext he17
 replace hb_g4 := hb_g4.ext he17
 have hz_he17 := he17.size
 have hzl := hb_gl.lt
 refine vm rfl rfl ?_
 iterate 2 refine vx rfl rfl rfl ?_
 iterate 2 refine va rfl rfl ?_
 refine q_nil (k_then (wc_seq (wc_seq (wc_regionL ?_))))
 refine wl_val (ov_field0 (off := 0) fo43_0 rfl) rfl rfl rfl ?_
 refine wl_val (ov_loadAt oc34 rfl hb_g1 rfl) rfl rfl rfl ?_
 refine wl_val (ov_lss rfl rfl) rfl rfl rfl ?_
 refine wl_case_d (d := 22) rfl (fun h22 => ?_) (fun h22 => ?_)
 ·have hbad : ¬ WrOk r := by
   rintro ⟨q1, q2, q3, q4, q5, q6, q7, q8⟩
   omega
  refine vm rfl rfl ?_
  iterate 3 refine wl_gskip rfl rfl rfl rfl rfl rfl ?_
  refine wl_val (ov_pick_t rfl rfl) rfl rfl rfl ?_
  refine vm rfl rfl ?_
  iterate 3 refine wl_gskip rfl rfl rfl rfl rfl rfl ?_
  refine wl_val (ov_pick_t rfl rfl) rfl rfl rfl ?_
  refine vm rfl rfl ?_
  iterate 3 refine wl_gskip rfl rfl rfl rfl rfl rfl ?_
  refine wl_val (ov_pick_t rfl rfl) rfl rfl rfl ?_
  refine vm rfl rfl ?_
  iterate 3 refine wl_gskip rfl rfl rfl rfl rfl rfl ?_
  iterate 3 refine wl_gskipU rfl rfl rfl rfl rfl ?_
  refine wl_gskip rfl rfl rfl rfl rfl rfl ?_
  refine wl_val (ov_pick_t rfl rfl) rfl rfl rfl ?_
  refine q_nil (k_then ?_)
  refine wc_cond_t rfl ?_
  refine wc_seq (wc_regionL ?_)
  refine wl_val (ov_loadBlk (cs := [(.int .u8 0), (.slice none 0 0)]) ag117_2 rfl hb_g4) rfl rfl rfl ?_
  refine wl_step0 (or_storeBlk (vs := [(.int .u8 0), (.slice none 0 0)]) sz117 rfl rfl (by simp [Value.oneCell']) hb_g2 rfl) rfl rfl ?_
  rintro _ w6 ⟨hN6, hg6⟩
  have hz_hg6 := hg6.size
  replace hE := hE.gr hg6 (fun _ e => by cases e; omega)
  replace hb_g2 := hN6
  refine va rfl rfl ?_
  refine q_nil (k_then (q_ret (k_thenR ?_)))
  refine e_retL (rs := [.cell 2 117, .tmp 3]) (vs := [.agg #[(.int .u8 0), (.slice none 0 0)], (.int .i64 2)]) rfl ⟨⟨_, _, [(.int .u8 0), (.slice none 0 0)], rfl, ag117_2, hb_g2, rfl⟩, rfl, trivial⟩ ?_
  rw [wrR_bad hbad]
  exact ⟨none, 0, rfl, Own.nil_ _ _ _ _, hE⟩
 ·refine vm rfl rfl ?_
  refine wl_gval (ov_field0 (off := 0) fo43_0 rfl) rfl rfl rfl rfl rfl ?_
  refine wl_gval (ov_loadAt oc34 rfl hb_g1 rfl) rfl rfl rfl rfl rfl ?_
  refine wl_gval (ov_gtr rfl rfl) rfl rfl rfl rfl rfl ?_
  refine wl_case_d (d := 26) rfl (fun h26 => ?_) (fun h26 => ?_)
  ·have hbad : ¬ WrOk r := by
    rintro ⟨q1, q2, q3, q4, q5, q6, q7, q8⟩
    omega
   refine wl_val (ov_pick_f rfl rfl) rfl rfl rfl ?_
   refine vm rfl rfl ?_
   iterate 3 refine wl_gskip rfl rfl rfl rfl rfl rfl ?_
   refine wl_val (ov_pick_t rfl rfl) rfl rfl rfl ?_
   refine vm rfl rfl ?_
   iterate 3 refine wl_gskip rfl rfl rfl rfl rfl rfl ?_
   refine wl_val (ov_pick_t rfl rfl) rfl rfl rfl ?_
   refine vm rfl rfl ?_
   iterate 3 refine wl_gskip rfl rfl rfl rfl rfl rfl ?_
   iterate 3 refine wl_gskipU rfl rfl rfl rfl rfl ?_
   refine wl_gskip rfl rfl rfl rfl rfl rfl ?_
   refine wl_val (ov_pick_t rfl rfl) rfl rfl rfl ?_
   refine q_nil (k_then ?_)
   refine wc_cond_t rfl ?_
   refine wc_seq (wc_regionL ?_)
   refine wl_val (ov_loadBlk (cs := [(.int .u8 0), (.slice none 0 0)]) ag117_2 rfl hb_g4) rfl rfl rfl ?_
   refine wl_step0 (or_storeBlk (vs := [(.int .u8 0), (.slice none 0 0)]) sz117 rfl rfl (by simp [Value.oneCell']) hb_g2 rfl) rfl rfl ?_
   rintro _ w206 ⟨hN206, hg206⟩
   have hz_hg206 := hg206.size
   replace hE := hE.gr hg206 (fun _ e => by cases e; omega)
   replace hb_g2 := hN206
   refine va rfl rfl ?_
   refine q_nil (k_then (q_ret (k_thenR ?_)))
   refine e_retL (rs := [.cell 2 117, .tmp 3]) (vs := [.agg #[(.int .u8 0), (.slice none 0 0)], (.int .i64 2)]) rfl ⟨⟨_, _, [(.int .u8 0), (.slice none 0 0)], rfl, ag117_2, hb_g2, rfl⟩, rfl, trivial⟩ ?_
   rw [wrR_bad hbad]
   exact ⟨none, 0, rfl, Own.nil_ _ _ _ _, hE⟩
  ·refine wl_val (ov_pick_f rfl rfl) rfl rfl rfl ?_
   refine vm rfl rfl ?_
   refine wl_gval (ov_field0 (off := 1) fo43_1 rfl) rfl rfl rfl rfl rfl ?_
   refine wl_gval (ov_loadAt oc29 rfl hb_g1 rfl) rfl rfl rfl rfl rfl ?_
   refine wl_gval (ov_lss rfl rfl) rfl rfl rfl rfl rfl ?_
   refine wl_spell (d := 31) rfl (bf (by omega)) ?_
   refine wl_val (ov_pick_f rfl rfl) rfl rfl rfl ?_
   refine vm rfl rfl ?_
   refine wl_gval (ov_field0 (off := 1) fo43_1 rfl) rfl rfl rfl rfl rfl ?_
   refine wl_gval (ov_loadAt oc29 rfl hb_g1 rfl) rfl rfl rfl rfl rfl ?_
   refine wl_gval (ov_gtr rfl rfl) rfl rfl rfl rfl rfl ?_
   refine wl_spell (d := 36) rfl (bf (by omega)) ?_
   refine wl_val (ov_pick_f rfl rfl) rfl rfl rfl ?_
   refine vm rfl rfl ?_
   refine wl_gval (ov_move rfl) rfl rfl rfl rfl rfl ?_
   refine wl_gval (ov_not rfl) rfl rfl rfl rfl rfl ?_
   refine wl_spell (d := 40) rfl (v' := (.bool (decide (plOk r.op = false)))) (by cases plOk r.op <;> rfl) ?_
   refine wl_case_d (d := 40) rfl (fun h40 => ?_) (fun h40 => ?_)
   ·refine wl_gval (ov_move rfl) rfl rfl rfl rfl rfl ?_
    refine wl_gval (ov_field0 (off := 1) fo43_1 rfl) rfl rfl rfl rfl rfl ?_
    refine wl_gval (ov_loadAt oc29 rfl hb_g1 rfl) rfl rfl rfl rfl rfl ?_
    refine wl_gval (ov_eql rfl rfl) rfl rfl rfl rfl rfl ?_
    have hbad : ¬ WrOk r := by
     rintro ⟨q1, q2, q3, q4, q5, q6, q7, q8⟩
     rcases q5 with q | q
     ·rw [h40] at q; cases q
     ·exact q he0
    refine wl_spell (d := 44) rfl (bt (by omega)) ?_
    refine wl_gval (ov_pick_t rfl rfl) rfl rfl rfl rfl rfl ?_
    refine wl_val (ov_pick_f rfl rfl) rfl rfl rfl ?_
    refine q_nil (k_then ?_)
    refine wc_cond_t rfl ?_
    refine wc_seq (wc_regionL ?_)
    refine wl_val (ov_loadBlk (cs := [(.int .u8 0), (.slice none 0 0)]) ag117_2 rfl hb_g4) rfl rfl rfl ?_
    refine wl_step0 (or_storeBlk (vs := [(.int .u8 0), (.slice none 0 0)]) sz117 rfl rfl (by simp [Value.oneCell']) hb_g2 rfl) rfl rfl ?_
    rintro _ w206 ⟨hN206, hg206⟩
    have hz_hg206 := hg206.size
    replace hE := hE.gr hg206 (fun _ e => by cases e; omega)
    replace hb_g2 := hN206
    refine va rfl rfl ?_
    refine q_nil (k_then (q_ret (k_thenR ?_)))
    refine e_retL (rs := [.cell 2 117, .tmp 3]) (vs := [.agg #[(.int .u8 0), (.slice none 0 0)], (.int .i64 2)]) rfl ⟨⟨_, _, [(.int .u8 0), (.slice none 0 0)], rfl, ag117_2, hb_g2, rfl⟩, rfl, trivial⟩ ?_
    rw [wrR_bad hbad]
    exact ⟨none, 0, rfl, Own.nil_ _ _ _ _, hE⟩
   ·refine wl_gval (ov_move rfl) rfl rfl rfl rfl rfl ?_
    iterate 3 refine wl_gskip rfl rfl rfl rfl rfl rfl ?_
    refine wl_gval (ov_pick_f rfl rfl) rfl rfl rfl rfl rfl ?_
    refine wl_val (ov_pick_f rfl rfl) rfl rfl rfl ?_
    refine q_nil (k_then ?_)
    refine wc_cond_f rfl ?_
    refine q_skip (k_then (wc_seq (wc_regionL ?_)))
    refine wl_val (ov_field0 (off := 1) fo43_1 rfl) rfl rfl rfl ?_
    refine wl_val (ov_loadAt oc29 rfl hb_g1 rfl) rfl rfl rfl ?_
    refine wl_val (ov_conv Tryz.underlying29 Tryz.underlying36 rfl (wu64 (by omega) (by omega))) rfl rfl rfl ?_
    refine wl_spell (d := 50) rfl (v' := (.int .u64 (↑r.err.toNat : Int))) (by rw [Int.toNat_of_nonneg (by omega)]) ?_
    refine wl_step (or_call0 cl92 rfl rfl (put_any _ _ _ _ _ [] (r.err.toNat) (RdB.nil _ 0 0) (by simp) (by omega))) rfl rfl rfl ?_
    rintro v w206 ⟨A51, c51, rfl, ho51, he51⟩
    replace hx := RdI.ext hx he51
    replace hn := hn.ext he51
    replace hE := hE.tr he51
    replace hb_g1 := hb_g1.ext he51
    replace hb_g2 := hb_g2.ext he51
    replace hb_g4 := hb_g4.ext he51
    replace hb_gl := hb_gl.ext he51
    have hz_he51 := he51.size
    have hq_ho51 := fun g e => Own.lt ho51 (g := g) e
    refine wl_step (or_alloc (cs := [(.slice none 0 0)]) ze32 rfl) rfl rfl rfl ?_
    rintro v w207 ⟨g7, rfl, hb_g7, he7, hl7, hu7⟩
    replace hx := RdI.ext hx he7
    replace hn := hn.ext he7
    replace hE := hE.tr he7
    replace hb_g1 := hb_g1.ext he7
    replace hb_g2 := hb_g2.ext he7
    replace hb_g4 := hb_g4.ext he7
    replace hb_gl := hb_gl.ext he7
    replace ho51 := Own.ext ho51 he7
    have hz_he7 := he7.size
    refine wl_step0 (or_storeAt (cs' := [(.slice A51 ([] ++ enc (r.err.toNat)).length c51)]) sz32 rfl rfl rfl hb_g7 rfl rfl) rfl rfl ?_
    rintro _ w208 ⟨hN208, hg208⟩
    have hz_hg208 := hg208.size
    replace hx := RdI.gr hx hg208 (fun _ e => by cases e; omega)
    replace hn := hn.gr hg208 (fun _ e => by cases e; omega)
    replace hE := hE.gr hg208 (fun _ e => by cases e; omega)
    replace hb_g1 := hb_g1.gr hg208 (by intro e; cases e; omega)
    replace hb_g2 := hb_g2.gr hg208 (by intro e; cases e; omega)
    replace hb_g4 := hb_g4.gr hg208 (by intro e; cases e; omega)
    replace hb_gl := hb_gl.gr hg208 (by intro e; cases e; omega)
    replace ho51 := Own.gr ho51 hg208 (by first | exact .inl rfl | (right; intro e; first | (have := hq_ho51 _ e; omega) | (have := Own.lt ho51 e; omega) | exact own_blk_ne ho51 hb_g7 (by decide) e))
    replace hb_g7 := hN208
    refine q_nil (k_then (wc_seq (wc_seq (wc_regionL ?_))))
    refine wl_val (ov_field0 (off := 1) fo43_1 rfl) rfl rfl rfl ?_
    refine wl_val (ov_loadAt oc29 rfl hb_g1 rfl) rfl rfl rfl ?_
    refine ve rfl rfl rfl ?_
    refine wl_spell (d := 54) rfl (bt (by omega)) ?_
    refine q_nil (k_then ?_)
    refine wc_cond_t rfl ?_
    refine wc_seq (wc_regionL ?_)
    refine vm rfl rfl ?_
    refine wl_val (ov_len Tryz.underlying155 rfl) rfl rfl rfl ?_
    refine vm rfl rfl ?_
    refine q_nil (k_then (wc_block ?_))
    obtain ⟨W0, rfl⟩ : ∃ x, x = w208 := ⟨_, rfl⟩
    have hpk : plOk r.op = true := by simpa using h40
    have hz1 := hb_g1.lt
    have hz7 := hb_g7.lt
    have hzw := hE.size
    have hb0_g1 := hb_g1
    have hb0_g2 := hb_g2
    have hb0_g4 := hb_g4
    have hb0_gl := hb_gl
    have hE0 := hE
    have hx0 := hx
    have hn0 := hn
    have hz2 := hb_g2.lt
    have hz4 := hb_g4.lt
    have hz3 := hb_gl.lt
    refine wc_loop (σ := Nat × Option Addr × Nat) (fun s => (pl r.op).length - s.1) (fun s => [(1, .pointer (some ⟨g1, 0, none⟩)), (2, .pointer (some ⟨g2, 0, none⟩)), (4, .pointer (some ⟨g4, 0, none⟩)), (7, .pointer (some ⟨g7, 0, none⟩)), (55, .slice (some ⟨gl, 0, none⟩) (pl r.op).length (pl r.op).length), (56, .int .i64 ((pl r.op).length : Int)), (57, .int .i64 (s.1 : Int))]) (fun s w' => s.1 ≤ (pl r.op).length ∧ ((pl r.op).take s.1).all (okP r) = true ∧ Blk w' g7 32 [.slice s.2.1 (wpre r s.1).length s.2.2] ∧ OwnB w' w.heap.size 5 s.2.1 s.2.2 (wpre r s.1) ∧ Gr W0 w' (some g7)) ((0, A51, c51)) (⟨Nat.zero_le _, rfl, by show Blk _ g7 _ [.slice _ (wpre r 0).length _]; rw [show wpre r 0 = enc r.err.toNat from List.append_nil _]; exact hb_g7, by show OwnB _ _ _ _ _ (wpre r 0); rw [show wpre r 0 = enc r.err.toNat from List.append_nil _]; exact Own.mono ho51 (by omega), (ext_refl _).row _⟩) (⟨rfl, rfl, rfl, rfl, rfl, rfl, rfl, trivial⟩) ?_
    rintro ⟨k, Ak, ck⟩ wq ⟨hk0, hall, hb_g7, hok7, hW⟩
    show WC _ _ _ _ [(1, (.pointer (some ⟨g1, 0, none⟩))), (2, (.pointer (some ⟨g2, 0, none⟩))), (4, (.pointer (some ⟨g4, 0, none⟩))), (7, (.pointer (some ⟨g7, 0, none⟩))), (55, (.slice (some ⟨gl, 0, none⟩) (pl r.op).length (pl r.op).length)), (56, (.int .i64 (↑(pl r.op).length : Int))), (57, (.int .i64 (↑k : Int)))] _
    simp only at hk0 hall
    replace hb_g7 : Blk wq g7 32 [.slice Ak (wpre r k).length ck] := hb_g7
    replace hok7 : OwnB wq w.heap.size 5 Ak ck (wpre r k) := hok7
    have hb_g1 := hb0_g1.gr hW (by intro e; cases e; omega)
    have hb_g2 := hb0_g2.gr hW (by intro e; cases e; omega)
    have hb_g4 := hb0_g4.gr hW (by intro e; cases e; omega)
    have hb_gl := hb0_gl.gr hW (by intro e; cases e; omega)
    have hx := hx0.gr hW (fun _ e => by cases e; omega)
    have hn := hn0.gr hW (fun _ e => by cases e; omega)
    have hE := hE0.gr hW (fun _ e => by cases e; omega)
    have hz_W := hW.size
    have hq_hok7 := fun g e => Own.lt hok7 (g := g) e
    have hwk := hwl k (by omega) hall
    refine wc_seq (wc_regionL ?_)
    refine wl_val (ov_lss rfl rfl) rfl rfl rfl ?_
    refine q_nil (k_then (wc_seq ?_))
    refine wc_cond_d rfl (fun hc3 => ?_) (fun hc3 => ?_)
    ·obtain ⟨p, hk⟩ : ∃ p, (pl r.op)[k]? = some p := ⟨_, List.getElem?_eq_getElem (by omega)⟩
     refine q_skip (k_then (wc_seq (wc_block (wc_seq (wc_regionL ?_)))))
     refine wl_step (or_rindex (m := (k)) sl155 rfl rfl (ptc_rd hb_gl) (fun _ _ => rfl) hk) rfl rfl rfl ?_
     rintro v _ ⟨rfl, p59, rfl, hp59, hpl59, hph59⟩
     refine wl_val (ov_loadAgg (cs := [(.func (.func (putF p)) #[] #[]), (.func (.func (getF p)) #[] #[])]) ag162_2 rfl rfl hp59) rfl rfl rfl ?_
     refine wl_step (or_alloc (cs := [.nilFunc, .nilFunc]) ze162 rfl) rfl rfl rfl ?_
     rintro v w209 ⟨g9, rfl, hb_g9, he9, hl9, hu9⟩
     replace hb_g1 := hb_g1.ext he9
     replace hb_g2 := hb_g2.ext he9
     replace hb_g4 := hb_g4.ext he9
     replace hx := RdI.ext hx he9
     replace hn := hn.ext he9
     replace hE := hE.tr he9
     replace hb_g7 := hb_g7.ext he9
     replace hok7 := Own.ext hok7 he9
     replace hW := hW.gr he9 (fun _ e => by cases e)
     have hz_he9 := he9.size
     refine wl_step0 (or_storeBlk (vs := [(.func (.func (putF p)) #[] #[]), (.func (.func (getF p)) #[] #[])]) sz162 rfl rfl (by simp [Value.oneCell']) hb_g9 rfl) rfl rfl ?_
     rintro _ w210 ⟨hN210, hg210⟩
     have hz_hg210 := hg210.size
     replace hb_g1 := hb_g1.gr hg210 (by intro e; cases e; omega)
     replace hb_g2 := hb_g2.gr hg210 (by intro e; cases e; omega)
     replace hb_g4 := hb_g4.gr hg210 (by intro e; cases e; omega)
     replace hx := RdI.gr hx hg210 (fun _ e => by cases e; omega)
     replace hn := hn.gr hg210 (fun _ e => by cases e; omega)
     replace hE := hE.gr hg210 (fun _ e => by cases e; omega)
     replace hb_g7 := hb_g7.gr hg210 (by intro e; cases e; omega)
     replace hok7 := Own.gr hok7 hg210 (by first | exact .inl rfl | (right; intro e; first | (have := hq_hok7 _ e; omega) | (have := Own.lt hok7 e; omega) | exact own_blk_ne hok7 hb_g9 (by decide) e))
     replace hW := hW.gr hg210 (fun _ e => by first | exact .inl e | (cases e; right; omega))
     replace hb_g9 := hN210
     refine q_nil (k_then (wc_seq (wc_regionL ?_)))
     refine wl_val (ov_field0 (off := 0) fo162_0 rfl) rfl rfl rfl ?_
     refine wl_val (ov_loadAt oc159 rfl hb_g9 rfl) rfl rfl rfl ?_
     obtain ⟨hpc, hcl⟩ := putC_all (List.mem_of_getElem? hk)
     have hz_K := hb_g7.lt
     have hzx := hx.1
     have hz_W := hW.size
     refine wl_step (or_call0 hcl rfl rfl (hpc _ g7 g1 Ak ck (wpre r k) w.heap.size (by omega) hb_g7 hok7 (by omega) r xs hv X cx N cn hb_g1 (by omega) lo h1 hx (hn) (by omega) (by omega) hok (by omega))) rfl rfl rfl ?_
     rintro v w211 ⟨rfl, ⟨A63, c63, o63, hN63, ho63, hres⟩, hg63⟩
     have hz_hg63 := hg63.size
     replace hb_g2 := hb_g2.gr hg63 (by intro e; cases e; omega)
     replace hb_g4 := hb_g4.gr hg63 (by intro e; cases e; omega)
     replace hE := hE.gr hg63 (fun _ e => by cases e; omega)
     replace hW := hW.gr hg63 (fun _ e => by first | exact .inl e | (cases e; right; omega))
     replace hb_g7 := hN63
     refine wl_val (ov_not rfl) rfl rfl rfl ?_
     refine q_nil (k_then ?_)
     refine wc_cond rfl (fun hc4 => ?_) (fun hc4 => ?_)
     ·have hkf : okP r p = false := by simpa using hc4
      have hbad : ¬ WrOk r := by
       rintro ⟨q1, q2, q3, q4, q5, q6, q7, q8⟩
       have q := List.all_eq_true.1 (q6 he0) p (List.mem_of_getElem? hk)
       rw [hkf] at q; cases q
      refine wc_seq (wc_regionL ?_)
      refine wl_val (ov_loadBlk (cs := [(.int .u8 0), (.slice none 0 0)]) ag117_2 rfl hb_g4) rfl rfl rfl ?_
      refine wl_step0 (or_storeBlk (vs := [(.int .u8 0), (.slice none 0 0)]) sz117 rfl rfl (by simp [Value.oneCell']) hb_g2 rfl) rfl rfl ?_
      rintro _ w212 ⟨hN212, hg212⟩
      have hz_hg212 := hg212.size
      replace hE := hE.gr hg212 (fun _ e => by cases e; omega)
      replace hb_g2 := hN212
      refine va rfl rfl ?_
      refine q_nil (k_then (q_ret (k_blockR (k_thenR (k_thenR (k_blockR (k_thenR ?_)))))))
      refine e_retL (rs := [.cell 2 117, .tmp 3]) (vs := [.agg #[(.int .u8 0), (.slice none 0 0)], (.int .i64 2)]) rfl ⟨⟨_, _, [(.int .u8 0), (.slice none 0 0)], rfl, ag117_2, hb_g2, rfl⟩, rfl, trivial⟩ ?_
      rw [wrR_bad hbad]
      exact ⟨none, 0, rfl, Own.nil_ _ _ _ _, hE⟩
     ·have hkt : okP r p = true := by simpa using hc4
      refine q_skip (k_block (k_then (wc_regionL ?_)))
      refine wl_val (ov_add rfl rfl (wi64 (by omega) (by omega))) rfl rfl rfl ?_
      refine vm rfl rfl ?_
      refine q_nil ?_
      refine k_loop ((k + 1, A63, c63)) (by show (pl r.op).length - (k + 1) < (pl r.op).length - k; omega) (⟨rfl, rfl, rfl, rfl, rfl, rfl, rfl, trivial⟩) (⟨by show k + 1 ≤ _; omega, by rw [okP_take hk, hall, hkt]; rfl, by show Blk _ g7 _ [.slice _ (wpre r (k + 1)).length _]; rw [wpre_succ hk, ← hres hkt]; exact hb_g7, by show OwnB _ _ _ _ _ (wpre r (k + 1)); rw [wpre_succ hk, ← hres hkt]; exact ho63, hW⟩)
    ·have hkn : k = (pl r.op).length := by omega
     subst hkn
     have hall0 : (pl r.op).all (okP r) = true := by rw [List.take_length] at hall; exact hall
     rw [wpre_end he0] at hb_g7 hok7 hwk
     refine q_exit (k_thenX (k_thenX (k_blockE (k_then (wc_seq (wc_regionL ?_))))))
     refine wl_val (ov_field0 (off := 0) fo43_0 rfl) rfl rfl rfl ?_
     refine wl_val (ov_loadAt oc34 rfl hb_g1 rfl) rfl rfl rfl ?_
     refine wl_val (ov_add rfl rfl (wi64 (by omega) (by omega))) rfl rfl rfl ?_
     refine wl_val (ov_conv Tryz.underlying34 Tryz.underlying5 rfl (wu8_R (by omega) (by omega))) rfl rfl rfl ?_
     refine wl_val (ov_loadAt oc32 rfl hb_g7 rfl) rfl rfl rfl ?_
     refine wl_val (ov_build (cs := [(.int .u8 (↑(codeR r).toNat : Int)), (.slice Ak (wbytes r).length ck)]) ze117 pl117 rfl rfl) rfl rfl rfl ?_
     refine wl_step (or_alloc (cs := [(.int .u8 0), (.slice none 0 0)]) ze117 rfl) rfl rfl rfl ?_
     rintro v w209 ⟨g10, rfl, hb_g10, he10, hl10, hu10⟩
     replace hb_g1 := hb_g1.ext he10
     replace hb_g2 := hb_g2.ext he10
     replace hb_g4 := hb_g4.ext he10
     replace hx := RdI.ext hx he10
     replace hn := hn.ext he10
     replace hE := hE.tr he10
     replace hok7 := Own.ext hok7 he10
     have hz_he10 := he10.size
     refine wl_step0 (or_storeBlk (vs := [(.int .u8 (↑(codeR r).toNat : Int)), (.slice Ak (wbytes r).length ck)]) sz117 rfl rfl (by simp [Value.oneCell']) hb_g10 rfl) rfl rfl ?_
     rintro _ w210 ⟨hN210, hg210⟩
     have hz_hg210 := hg210.size
     replace hb_g1 := hb_g1.gr hg210 (by intro e; cases e; omega)
     replace hb_g2 := hb_g2.gr hg210 (by intro e; cases e; omega)
     replace hb_g4 := hb_g4.gr hg210 (by intro e; cases e; omega)
     replace hx := RdI.gr hx hg210 (fun _ e => by cases e; omega)
     replace hn := hn.gr hg210 (fun _ e => by cases e; omega)
     replace hE := hE.gr hg210 (fun _ e => by cases e; omega)
     replace hok7 := Own.gr hok7 hg210 (by first | exact .inl rfl | (right; intro e; first | (have := hq_hok7 _ e; omega) | (have := Own.lt hok7 e; omega) | exact own_blk_ne hok7 hb_g10 (by decide) e))
     replace hb_g10 := hN210
     refine q_nil (k_then (wc_seq (wc_seq (wc_regionL ?_))))
     refine wl_val (ov_loadBlk (cs := [(.int .u8 (↑(codeR r).toNat : Int)), (.slice Ak (wbytes r).length ck)]) ag117_2 rfl hb_g10) rfl rfl rfl ?_
     refine wl_step (or_call0 cl93 rfl rfl (rd8_read _ (codeR r) r.op (codeR_sub (by omega) (by omega)) _ _ Ak ck (wbytes r) (OwnB.rd hok7) (by first | omega | decide | (simp; done)))) rfl rfl rfl ?_
     rintro v w211 ⟨X75, cx75, N75, cn75, xs75, rfl, hv75, hx75, hn75, he75⟩
     replace hb_g1 := hb_g1.ext he75
     replace hb_g2 := hb_g2.ext he75
     replace hb_g4 := hb_g4.ext he75
     replace hx := RdI.ext hx he75
     replace hn := hn.ext he75
     replace hE := hE.tr he75
     replace hok7 := Own.ext hok7 he75
     replace hb_g10 := hb_g10.ext he75
     have hz_he75 := he75.size
     refine vm rfl rfl ?_
     iterate 2 refine vx rfl rfl rfl ?_
     refine wl_step (or_alloc (cs := [(.int .i64 0), (.int .i64 0), (.slice none 0 0), (.int .u64 0), (.int .i64 0), (.slice none 0 0)]) ze43 rfl) rfl rfl rfl ?_
     rintro v w212 ⟨g11, rfl, hb_g11, he11, hl11, hu11⟩
     replace hb_g1 := hb_g1.ext he11
     replace hb_g2 := hb_g2.ext he11
     replace hb_g4 := hb_g4.ext he11
     replace hx := RdI.ext hx he11
     replace hn := hn.ext he11
     replace hE := hE.tr he11
     replace hok7 := Own.ext hok7 he11
     replace hb_g10 := hb_g10.ext he11
     replace hx75 := RdI.ext hx75 he11
     replace hn75 := hn75.ext he11
     have hz_he11 := he11.size
     refine wl_step0 (or_storeBlk (vs := [(.int .i64 (rdR r.op (wbytes r)).1.op), (.int .i64 (rdR r.op (wbytes r)).1.err), (.slice X75 (rdR r.op (wbytes r)).1.items.length cx75), (.int .u64 (↑(rdR r.op (wbytes r)).1.ver : Int)), (.int .i64 (rdR r.op (wbytes r)).1.count), (.slice N75 (rdR r.op (wbytes r)).1.nums.length cn75)]) sz43 rfl rfl (by simp [Value.oneCell']) hb_g11 rfl) rfl rfl ?_
     rintro _ w213 ⟨hN213, hg213⟩
     have hz_hg213 := hg213.size
     replace hb_g1 := hb_g1.gr hg213 (by intro e; cases e; omega)
     replace hb_g2 := hb_g2.gr hg213 (by intro e; cases e; omega)
     replace hb_g4 := hb_g4.gr hg213 (by intro e; cases e; omega)
     replace hx := RdI.gr hx hg213 (fun _ e => by cases e; omega)
     replace hn := hn.gr hg213 (fun _ e => by cases e; omega)
     replace hE := hE.gr hg213 (fun _ e => by cases e; omega)
     replace hok7 := Own.gr hok7 hg213 (by first | exact .inl rfl | (right; intro e; first | (have := hq_hok7 _ e; omega) | (have := Own.lt hok7 e; omega) | exact own_blk_ne hok7 hb_g11 (by decide) e))
     replace hb_g10 := hb_g10.gr hg213 (by intro e; cases e; omega)
     replace hx75 := RdI.gr hx75 hg213 (fun _ e => by cases e; omega)
     replace hn75 := hn75.gr hg213 (fun _ e => by cases e; omega)
     replace hb_g11 := hN213
     refine va rfl rfl ?_
     refine q_nil (k_then (wc_seq (wc_regionL ?_)))
     refine vm rfl rfl ?_
     refine wl_val (ov_neq rfl rfl) rfl rfl rfl ?_
     refine wl_case_d (d := 79) rfl (fun h79 => ?_) (fun h79 => ?_)
     ·have hbad : ¬ WrOk r := by
       rintro ⟨q1, q2, q3, q4, q5, q6, q7, q8⟩
       omega
      refine vm rfl rfl ?_
      iterate 4 refine wl_gskip rfl rfl rfl rfl rfl rfl ?_
      refine wl_val (ov_pick_t rfl rfl) rfl rfl rfl ?_
      refine q_nil (k_then ?_)
      refine wc_cond_t rfl ?_
      refine wc_seq (wc_regionL ?_)
      refine wl_val (ov_loadBlk (cs := [(.int .u8 0), (.slice none 0 0)]) ag117_2 rfl hb_g4) rfl rfl rfl ?_
      refine wl_step0 (or_storeBlk (vs := [(.int .u8 0), (.slice none 0 0)]) sz117 rfl rfl (by simp [Value.oneCell']) hb_g2 rfl) rfl rfl ?_
      rintro _ w214 ⟨hN214, hg214⟩
      have hz_hg214 := hg214.size
      replace hE := hE.gr hg214 (fun _ e => by cases e; omega)
      replace hb_g2 := hN214
      refine va rfl rfl ?_
      refine q_nil (k_then (q_ret (k_thenR ?_)))
      refine e_retL (rs := [.cell 2 117, .tmp 3]) (vs := [.agg #[(.int .u8 0), (.slice none 0 0)], (.int .i64 2)]) rfl ⟨⟨_, _, [(.int .u8 0), (.slice none 0 0)], rfl, ag117_2, hb_g2, rfl⟩, rfl, trivial⟩ ?_
      rw [wrR_bad hbad]
      exact ⟨none, 0, rfl, Own.nil_ _ _ _ _, hE⟩
     ·refine vm rfl rfl ?_
      refine wl_gval (ov_loadBlk (cs := [(.int .i64 (rdR r.op (wbytes r)).1.op), (.int .i64 (rdR r.op (wbytes r)).1.err), (.slice X75 (rdR r.op (wbytes r)).1.items.length cx75), (.int .u64 (↑(rdR r.op (wbytes r)).1.ver : Int)), (.int .i64 (rdR r.op (wbytes r)).1.count), (.slice N75 (rdR r.op (wbytes r)).1.nums.length cn75)]) ag43_6 rfl hb_g11) rfl rfl rfl rfl rfl ?_
      refine wl_gval (ov_loadBlk (cs := [(.int .i64 r.op), (.int .i64 r.err), (.slice X r.items.length cx), (.int .u64 (↑r.ver : Int)), (.int .i64 r.count), (.slice N r.nums.length cn)]) ag43_6 rfl hb_g1) rfl rfl rfl rfl rfl ?_
      refine wl_gstep (or_call0 cl94 rfl rfl (eq8_any _ (rdR r.op (wbytes r)).1 xs75 hv75 _ _ X75 cx75 N75 cn75 hx75 hn75 r xs hv _ _ X cx N cn hx hn)) rfl rfl rfl rfl rfl ?_
      rintro v w214 ⟨rfl, he83⟩
      replace hb_g2 := hb_g2.ext he83
      replace hb_g4 := hb_g4.ext he83
      replace hE := hE.tr he83
      replace hok7 := Own.ext hok7 he83
      replace hb_g10 := hb_g10.ext he83
      have hz_he83 := he83.size
      refine wl_gval (ov_not rfl) rfl rfl rfl rfl rfl ?_
      refine wl_spell (d := 84) rfl (v' := (.bool (decide (¬ (rdR r.op (wbytes r)).1 = r)))) (by by_cases h : (rdR r.op (wbytes r)).1 = r <;> simp [h]) ?_
      refine wl_case_d (d := 84) rfl (fun h84 => ?_) (fun h84 => ?_)
      ·have hbad : ¬ WrOk r := by
        rintro ⟨q1, q2, q3, q4, q5, q6, q7, q8⟩
        exact h84 q8
       refine wl_val (ov_pick_f rfl rfl) rfl rfl rfl ?_
       refine q_nil (k_then ?_)
       refine wc_cond_t rfl ?_
       refine wc_seq (wc_regionL ?_)
       refine wl_val (ov_loadBlk (cs := [(.int .u8 0), (.slice none 0 0)]) ag117_2 rfl hb_g4) rfl rfl rfl ?_
       refine wl_step0 (or_storeBlk (vs := [(.int .u8 0), (.slice none 0 0)]) sz117 rfl rfl (by simp [Value.oneCell']) hb_g2 rfl) rfl rfl ?_
       rintro _ w215 ⟨hN215, hg215⟩
       have hz_hg215 := hg215.size
       replace hE := hE.gr hg215 (fun _ e => by cases e; omega)
       replace hb_g2 := hN215
       refine va rfl rfl ?_
       refine q_nil (k_then (q_ret (k_thenR ?_)))
       refine e_retL (rs := [.cell 2 117, .tmp 3]) (vs := [.agg #[(.int .u8 0), (.slice none 0 0)], (.int .i64 2)]) rfl ⟨⟨_, _, [(.int .u8 0), (.slice none 0 0)], rfl, ag117_2, hb_g2, rfl⟩, rfl, trivial⟩ ?_
       rw [wrR_bad hbad]
       exact ⟨none, 0, rfl, Own.nil_ _ _ _ _, hE⟩
      ·have hsame := Decidable.not_not.1 h84
       have hgood : WrOk r := ⟨by omega, by omega, by omega, by omega, .inl hpk, fun _ => hall0, by omega, hsame⟩
       refine wl_val (ov_pick_f rfl rfl) rfl rfl rfl ?_
       refine q_nil (k_then ?_)
       refine wc_cond_f rfl ?_
       refine q_skip (k_then (wc_seq (wc_regionL ?_)))
       refine wl_val (ov_loadBlk (cs := [(.int .u8 (↑(codeR r).toNat : Int)), (.slice Ak (wbytes r).length ck)]) ag117_2 rfl hb_g10) rfl rfl rfl ?_
       refine wl_step0 (or_storeBlk (vs := [(.int .u8 (↑(codeR r).toNat : Int)), (.slice Ak (wbytes r).length ck)]) sz117 rfl rfl (by simp [Value.oneCell']) hb_g2 rfl) rfl rfl ?_
       rintro _ w215 ⟨hN215, hg215⟩
       have hz_hg215 := hg215.size
       replace hE := hE.gr hg215 (fun _ e => by cases e; omega)
       replace hok7 := Own.gr hok7 hg215 (by first | exact .inl rfl | (right; intro e; first | (have := hq_hok7 _ e; omega) | (have := Own.lt hok7 e; omega) | exact own_blk_ne hok7 hb_g2 (by decide) e))
       replace hb_g2 := hN215
       refine va rfl rfl ?_
       refine q_nil (k_then (q_ret ?_))
       refine e_retL (rs := [.cell 2 117, .tmp 3]) (vs := [.agg #[(.int .u8 (↑(codeR r).toNat : Int)), (.slice Ak (wbytes r).length ck)], (.int .i64 0)]) rfl ⟨⟨_, _, [(.int .u8 (↑(codeR r).toNat : Int)), (.slice Ak (wbytes r).length ck)], rfl, ag117_2, hb_g2, rfl⟩, rfl, trivial⟩ ?_
       rw [wrR_ok hgood]
       exact ⟨Ak, ck, rfl, Own.mono hok7 (by omega), hE⟩
theorem wr8_e (w : World) (r : Rsp) (xs : List IT) (hv : vals xs = r.items) (lo hi : Nat) (X : Option Addr) (cx : Nat) (N : Option Addr) (cn : Nat) (hx : RdI w lo hi X cx xs) (hn : RdN w lo hi N cn r.nums) (hok : RspOk r) (hsz : rsz r ≤ 4398046511104) (he0 : ¬ r.err = 0) :
  Fn Tryz.prog 74 #[(.agg #[(.int .i64 r.op), (.int .i64 r.err), (.slice X r.items.length cx), (.int .u64 (↑r.ver : Int)), (.int .i64 r.count), (.slice N r.nums.length cn)])] w (fun v w' => ∃ A c, v = .tuple #[.agg #[.int .u8 ((wrR r).1.1.toNat : Int), .slice A (wrR r).1.2.length c], .int .i64 ((wrR r).2 : Int)] ∧ OwnB w' w.heap.size 5 A c (wrR r).1.2 ∧ Ext w w')  := by
 replace hx := hx.top
 replace hn := Rd.top hn
 have hE := ext_refl w
 obtain ⟨h1, hh1⟩ : ∃ n, n = w.heap.size := ⟨_, rfl⟩
 rw [← hh1] at hx hn
 have hel := enc_len r.err.toNat
 have hwl := fun k => wpre_len3 (r := r) (k := k)
 have hpl := pl_len r.op
 refine fn_enter (args := [(.agg #[(.int .i64 r.op), (.int .i64 r.err), (.slice X r.items.length cx), (.int .u64 (↑r.ver : Int)), (.int .i64 r.count), (.slice N r.nums.length cn)])]) Tryz.func74 rfl rfl rfl ?_
 show WC _ _ _ _ [(0, (.agg #[(.int .i64 r.op), (.int .i64 r.err), (.slice X r.items.length cx), (.int .u64 (↑r.ver : Int)), (.int .i64 r.count), (.slice N r.nums.length cn)]))] _
 refine wc_seq (wc_regionL ?_)
 refine wl_step (or_box (cs := [(.int .i64 r.op), (.int .i64 r.err), (.slice X r.items.length cx), (.int .u64 (↑r.ver : Int)), (.int .i64 r.count), (.slice N r.nums.length cn)]) rfl rfl) rfl rfl rfl ?_
 rintro v w1 ⟨g1, rfl, hb_g1, he1, hl1, hu1⟩
 replace hx := RdI.ext hx he1
 replace hn := hn.ext he1
 replace hE := hE.tr he1
 have hz_he1 := he1.size
 refine wl_step (or_alloc (cs := [(.int .u8 0), (.slice none 0 0)]) ze117 rfl) rfl rfl rfl ?_
 rintro v w2 ⟨g2, rfl, hb_g2, he2, hl2, hu2⟩
 replace hx := RdI.ext hx he2
 replace hn := hn.ext he2
 replace hE := hE.tr he2
 replace hb_g1 := hb_g1.ext he2
 have hz_he2 := he2.size
 refine va rfl rfl ?_
 refine q_nil (k_then (wc_seq (wc_regionL ?_)))
 refine wl_val (ov_build (cs := [(.int .u8 0), (.slice none 0 0)]) ze117 pl117 rfl rfl) rfl rfl rfl ?_
 refine wl_step (or_alloc (cs := [(.int .u8 0), (.slice none 0 0)]) ze117 rfl) rfl rfl rfl ?_
 rintro v w3 ⟨g4, rfl, hb_g4, he4, hl4, hu4⟩
 replace hx := RdI.ext hx he4
 replace hn := hn.ext he4
 replace hE := hE.tr he4
 replace hb_g1 := hb_g1.ext he4
 replace hb_g2 := hb_g2.ext he4
 have hz_he4 := he4.size
 refine wl_step0 (or_storeBlk (vs := [(.int .u8 0), (.slice none 0 0)]) sz117 rfl rfl (by simp [Value.oneCell']) hb_g4 rfl) rfl rfl ?_
 rintro _ w4 ⟨hN4, hg4⟩
 have hz_hg4 := hg4.size
 replace hx := RdI.gr hx hg4 (fun _ e => by cases e; omega)
 replace hn := hn.gr hg4 (fun _ e => by cases e; omega)
 replace hE := hE.gr hg4 (fun _ e => by cases e; omega)
 replace hb_g1 := hb_g1.gr hg4 (by intro e; cases e; omega)
 replace hb_g2 := hb_g2.gr hg4 (by intro e; cases e; omega)
 replace hb_g4 := hN4
 refine q_nil (k_then (wc_seq (wc_regionL ?_)))
 refine wl_val (ov_field0 (off := 0) fo43_0 rfl) rfl rfl rfl ?_
 refine wl_val (ov_loadAt oc34 rfl hb_g1 rfl) rfl rfl rfl ?_
 refine wl_step (or_call0 cl91 rfl rfl (parts8_any _ _)) rfl rfl rfl ?_
 rintro v w5 ⟨gl, rfl, hb_gl, he17, hll⟩
 replace hx := RdI.ext hx he17
 replace hn := hn.ext he17
 replace hE := hE.tr he17
 replace hb_g1 := hb_g1.ext he17
 replace hb_g2 := hb_g2.ext he17
 replace hb_g4 := hb_g4.ext he17
 have hz_he17 := he17.size
 have hzl := hb_gl.lt
 refine vm rfl rfl ?_
 iterate 2 refine vx rfl rfl rfl ?_
 iterate 2 refine va rfl rfl ?_
 refine q_nil (k_then (wc_seq (wc_seq (wc_regionL ?_))))
 refine wl_val (ov_field0 (off := 0) fo43_0 rfl) rfl rfl rfl ?_
 refine wl_val (ov_loadAt oc34 rfl hb_g1 rfl) rfl rfl rfl ?_
 refine wl_val (ov_lss rfl rfl) rfl rfl rfl ?_
 refine wl_case_d (d := 22) rfl (fun h22 => ?_) (fun h22 => ?_)
 ·have hbad : ¬ WrOk r := by
   rintro ⟨q1, q2, q3, q4, q5, q6, q7, q8⟩
   omega
  refine vm rfl rfl ?_
  iterate 3 refine wl_gskip rfl rfl rfl rfl rfl rfl ?_
  refine wl_val (ov_pick_t rfl rfl) rfl rfl rfl ?_
  refine vm rfl rfl ?_
  iterate 3 refine wl_gskip rfl rfl rfl rfl rfl rfl ?_
  refine wl_val (ov_pick_t rfl rfl) rfl rfl rfl ?_
  refine vm rfl rfl ?_
  iterate 3 refine wl_gskip rfl rfl rfl rfl rfl rfl ?_
  refine wl_val (ov_pick_t rfl rfl) rfl rfl rfl ?_
  refine vm rfl rfl ?_
  iterate 3 refine wl_gskip rfl rfl rfl rfl rfl rfl ?_
  iterate 3 refine wl_gskipU rfl rfl rfl rfl rfl ?_
  refine wl_gskip rfl rfl rfl rfl rfl rfl ?_
  refine wl_val (ov_pick_t rfl rfl) rfl rfl rfl ?_
  refine q_nil (k_then ?_)
  refine wc_cond_t rfl ?_
  refine wc_seq (wc_regionL ?_)
  refine wl_val (ov_loadBlk (cs := [(.int .u8 0), (.slice none 0 0)]) ag117_2 rfl hb_g4) rfl rfl rfl ?_
  refine wl_step0 (or_storeBlk (vs := [(.int .u8 0), (.slice none 0 0)]) sz117 rfl rfl (by simp [Value.oneCell']) hb_g2 rfl) rfl rfl ?_
  rintro _ w6 ⟨hN6, hg6⟩
  have hz_hg6 := hg6.size
  replace hE := hE.gr hg6 (fun _ e => by cases e; omega)
  replace hb_g2 := hN6
  refine va rfl rfl ?_
  refine q_nil (k_then (q_ret (k_thenR ?_)))
  refine e_retL (rs := [.cell 2 117, .tmp 3]) (vs := [.agg #[(.int .u8 0), (.slice none 0 0)], (.int .i64 2)]) rfl ⟨⟨_, _, [(.int .u8 0), (.slice none 0 0)], rfl, ag117_2, hb_g2, rfl⟩, rfl, trivial⟩ ?_
  rw [wrR_bad hbad]
  exact ⟨none, 0, rfl, Own.nil_ _ _ _ _, hE⟩
 ·refine vm rfl rfl ?_
  refine wl_gval (ov_field0 (off := 0) fo43_0 rfl) rfl rfl rfl rfl rfl ?_
  refine wl_gval (ov_loadAt oc34 rfl hb_g1 rfl) rfl rfl rfl rfl rfl ?_
  refine wl_gval (ov_gtr rfl rfl) rfl rfl rfl rfl rfl ?_
  refine wl_case_d (d := 26) rfl (fun h26 => ?_) (fun h26 => ?_)
  ·have hbad : ¬ WrOk r := by
    rintro ⟨q1, q2, q3, q4, q5, q6, q7, q8⟩
    omega
   refine wl_val (ov_pick_f rfl rfl) rfl rfl rfl ?_
   refine vm rfl rfl ?_
   iterate 3 refine wl_gskip rfl rfl rfl rfl rfl rfl ?_
   refine wl_val (ov_pick_t rfl rfl) rfl rfl rfl ?_
   refine vm rfl rfl ?_
   iterate 3 refine wl_gskip rfl rfl rfl rfl rfl rfl ?_
   refine wl_val (ov_pick_t rfl rfl) rfl rfl rfl ?_
   refine vm rfl rfl ?_
   iterate 3 refine wl_gskip rfl rfl rfl rfl rfl rfl ?_
   iterate 3 refine wl_gskipU rfl rfl rfl rfl rfl ?_
   refine wl_gskip rfl rfl rfl rfl rfl rfl ?_
   refine wl_val (ov_pick_t rfl rfl) rfl rfl rfl ?_
   refine q_nil (k_then ?_)
   refine wc_cond_t rfl ?_
   refine wc_seq (wc_regionL ?_)
   refine wl_val (ov_loadBlk (cs := [(.int .u8 0), (.slice none 0 0)]) ag117_2 rfl hb_g4) rfl rfl rfl ?_
   refine wl_step0 (or_storeBlk (vs := [(.int .u8 0), (.slice none 0 0)]) sz117 rfl rfl (by simp [Value.oneCell']) hb_g2 rfl) rfl rfl ?_
   rintro _ w206 ⟨hN206, hg206⟩
   have hz_hg206 := hg206.size
   replace hE := hE.gr hg206 (fun _ e => by cases e; omega)
   replace hb_g2 := hN206
   refine va rfl rfl ?_
   refine q_nil (k_then (q_ret (k_thenR ?_)))
   refine e_retL (rs := [.cell 2 117, .tmp 3]) (vs := [.agg #[(.int .u8 0), (.slice none 0 0)], (.int .i64 2)]) rfl ⟨⟨_, _, [(.int .u8 0), (.slice none 0 0)], rfl, ag117_2, hb_g2, rfl⟩, rfl, trivial⟩ ?_
   rw [wrR_bad hbad]
   exact ⟨none, 0, rfl, Own.nil_ _ _ _ _, hE⟩
  ·refine wl_val (ov_pick_f rfl rfl) rfl rfl rfl ?_
   refine vm rfl rfl ?_
   refine wl_gval (ov_field0 (off := 1) fo43_1 rfl) rfl rfl rfl rfl rfl ?_
   refine wl_gval (ov_loadAt oc29 rfl hb_g1 rfl) rfl rfl rfl rfl rfl ?_
   refine wl_gval (ov_lss rfl rfl) rfl rfl rfl rfl rfl ?_
   refine wl_case_d (d := 31) rfl (fun h31 => ?_) (fun h31 => ?_)
   ·have hbad : ¬ WrOk r := by
     rintro ⟨q1, q2, q3, q4, q5, q6, q7, q8⟩
     omega
    refine wl_val (ov_pick_f rfl rfl) rfl rfl rfl ?_
    refine vm rfl rfl ?_
    iterate 3 refine wl_gskip rfl rfl rfl rfl rfl rfl ?_
    refine wl_val (ov_pick_t rfl rfl) rfl rfl rfl ?_
    refine vm rfl rfl ?_
    iterate 3 refine wl_gskip rfl rfl rfl rfl rfl rfl ?_
    iterate 3 refine wl_gskipU rfl rfl rfl rfl rfl ?_
    refine wl_gskip rfl rfl rfl rfl rfl rfl ?_
    refine wl_val (ov_pick_t rfl rfl) rfl rfl rfl ?_
    refine q_nil (k_then ?_)
    refine wc_cond_t rfl ?_
    refine wc_seq (wc_regionL ?_)
    refine wl_val (ov_loadBlk (cs := [(.int .u8 0), (.slice none 0 0)]) ag117_2 rfl hb_g4) rfl rfl rfl ?_
    refine wl_step0 (or_storeBlk (vs := [(.int .u8 0), (.slice none 0 0)]) sz117 rfl rfl (by simp [Value.oneCell']) hb_g2 rfl) rfl rfl ?_
    rintro _ w206 ⟨hN206, hg206⟩
    have hz_hg206 := hg206.size
    replace hE := hE.gr hg206 (fun _ e => by cases e; omega)
    replace hb_g2 := hN206
    refine va rfl rfl ?_
    refine q_nil (k_then (q_ret (k_thenR ?_)))
    refine e_retL (rs := [.cell 2 117, .tmp 3]) (vs := [.agg #[(.int .u8 0), (.slice none 0 0)], (.int .i64 2)]) rfl ⟨⟨_, _, [(.int .u8 0), (.slice none 0 0)], rfl, ag117_2, hb_g2, rfl⟩, rfl, trivial⟩ ?_
    rw [wrR_bad hbad]
    exact ⟨none, 0, rfl, Own.nil_ _ _ _ _, hE⟩
   ·refine wl_val (ov_pick_f rfl rfl) rfl rfl rfl ?_
    refine vm rfl rfl ?_
    refine wl_gval (ov_field0 (off := 1) fo43_1 rfl) rfl rfl rfl rfl rfl ?_
    refine wl_gval (ov_loadAt oc29 rfl hb_g1 rfl) rfl rfl rfl rfl rfl ?_
    refine wl_gval (ov_gtr rfl rfl) rfl rfl rfl rfl rfl ?_
    refine wl_case_d (d := 36) rfl (fun h36 => ?_) (fun h36 => ?_)
    ·have hbad : ¬ WrOk r := by
      rintro ⟨q1, q2, q3, q4, q5, q6, q7, q8⟩
      omega
     refine wl_val (ov_pick_f rfl rfl) rfl rfl rfl ?_
     refine vm rfl rfl ?_
     iterate 3 refine wl_gskip rfl rfl rfl rfl rfl rfl ?_
     iterate 3 refine wl_gskipU rfl rfl rfl rfl rfl ?_
     refine wl_gskip rfl rfl rfl rfl rfl rfl ?_
     refine wl_val (ov_pick_t rfl rfl) rfl rfl rfl ?_
     refine q_nil (k_then ?_)
     refine wc_cond_t rfl ?_
     refine wc_seq (wc_regionL ?_)
     refine wl_val (ov_loadBlk (cs := [(.int .u8 0), (.slice none 0 0)]) ag117_2 rfl hb_g4) rfl rfl rfl ?_
     refine wl_step0 (or_storeBlk (vs := [(.int .u8 0), (.slice none 0 0)]) sz117 rfl rfl (by simp [Value.oneCell']) hb_g2 rfl) rfl rfl ?_
     rintro _ w206 ⟨hN206, hg206⟩
     have hz_hg206 := hg206.size
     replace hE := hE.gr hg206 (fun _ e => by cases e; omega)
     replace hb_g2 := hN206
     refine va rfl rfl ?_
     refine q_nil (k_then (q_ret (k_thenR ?_)))
     refine e_retL (rs := [.cell 2 117, .tmp 3]) (vs := [.agg #[(.int .u8 0), (.slice none 0 0)], (.int .i64 2)]) rfl ⟨⟨_, _, [(.int .u8 0), (.slice none 0 0)], rfl, ag117_2, hb_g2, rfl⟩, rfl, trivial⟩ ?_
     rw [wrR_bad hbad]
     exact ⟨none, 0, rfl, Own.nil_ _ _ _ _, hE⟩
    ·refine wl_val (ov_pick_f rfl rfl) rfl rfl rfl ?_
     refine vm rfl rfl ?_
     refine wl_gval (ov_move rfl) rfl rfl rfl rfl rfl ?_
     refine wl_gval (ov_not rfl) rfl rfl rfl rfl rfl ?_
     refine wl_spell (d := 40) rfl (v' := (.bool (decide (plOk r.op = false)))) (by cases plOk r.op <;> rfl) ?_
     refine wl_case_d (d := 40) rfl (fun h40 => ?_) (fun h40 => ?_)
     ·refine wl_gval (ov_move rfl) rfl rfl rfl rfl rfl ?_
      refine wl_gval (ov_field0 (off := 1) fo43_1 rfl) rfl rfl rfl rfl rfl ?_
      refine wl_gval (ov_loadAt oc29 rfl hb_g1 rfl) rfl rfl rfl rfl rfl ?_
      refine wl_gval (ov_eql rfl rfl) rfl rfl rfl rfl rfl ?_
      refine wl_spell (d := 44) rfl (bf (by omega)) ?_
      refine wl_gval (ov_pick_t rfl rfl) rfl rfl rfl rfl rfl ?_
      refine wl_val (ov_pick_f rfl rfl) rfl rfl rfl ?_
      refine q_nil (k_then ?_)
      refine wc_cond_f rfl ?_
      refine q_skip (k_then (wc_seq (wc_regionL ?_)))
      refine wl_val (ov_field0 (off := 1) fo43_1 rfl) rfl rfl rfl ?_
      refine wl_val (ov_loadAt oc29 rfl hb_g1 rfl) rfl rfl rfl ?_
      refine wl_val (ov_conv Tryz.underlying29 Tryz.underlying36 rfl (wu64 (by omega) (by omega))) rfl rfl rfl ?_
      refine wl_spell (d := 50) rfl (v' := (.int .u64 (↑r.err.toNat : Int))) (by rw [Int.toNat_of_nonneg (by omega)]) ?_
      refine wl_step (or_call0 cl92 rfl rfl (put_any _ _ _ _ _ [] (r.err.toNat) (RdB.nil _ 0 0) (by simp) (by omega))) rfl rfl rfl ?_
      rintro v w206 ⟨A51, c51, rfl, ho51, he51⟩
      replace hx := RdI.ext hx he51
      replace hn := hn.ext he51
      replace hE := hE.tr he51
      replace hb_g1 := hb_g1.ext he51
      replace hb_g2 := hb_g2.ext he51
      replace hb_g4 := hb_g4.ext he51
      have hz_he51 := he51.size
      have hq_ho51 := fun g e => Own.lt ho51 (g := g) e
      refine wl_step (or_alloc (cs := [(.slice none 0 0)]) ze32 rfl) rfl rfl rfl ?_
      rintro v w207 ⟨g7, rfl, hb_g7, he7, hl7, hu7⟩
      replace hx := RdI.ext hx he7
      replace hn := hn.ext he7
      replace hE := hE.tr he7
      replace hb_g1 := hb_g1.ext he7
      replace hb_g2 := hb_g2.ext he7
      replace hb_g4 := hb_g4.ext he7
      replace ho51 := Own.ext ho51 he7
      have hz_he7 := he7.size
      refine wl_step0 (or_storeAt (cs' := [(.slice A51 ([] ++ enc (r.err.toNat)).length c51)]) sz32 rfl rfl rfl hb_g7 rfl rfl) rfl rfl ?_
      rintro _ w208 ⟨hN208, hg208⟩
      have hz_hg208 := hg208.size
      replace hx := RdI.gr hx hg208 (fun _ e => by cases e; omega)
      replace hn := hn.gr hg208 (fun _ e => by cases e; omega)
      replace hE := hE.gr hg208 (fun _ e => by cases e; omega)
      replace hb_g1 := hb_g1.gr hg208 (by intro e; cases e; omega)
      replace hb_g2 := hb_g2.gr hg208 (by intro e; cases e; omega)
      replace hb_g4 := hb_g4.gr hg208 (by intro e; cases e; omega)
      replace ho51 := Own.gr ho51 hg208 (by first | exact .inl rfl | (right; intro e; first | (have := hq_ho51 _ e; omega) | (have := Own.lt ho51 e; omega) | exact own_blk_ne ho51 hb_g7 (by decide) e))
      replace hb_g7 := hN208
      refine q_nil (k_then (wc_seq (wc_seq (wc_regionL ?_))))
      refine wl_val (ov_field0 (off := 1) fo43_1 rfl) rfl rfl rfl ?_
      refine wl_val (ov_loadAt oc29 rfl hb_g1 rfl) rfl rfl rfl ?_
      refine ve rfl rfl rfl ?_
      refine wl_spell (d := 54) rfl (bf (by omega)) ?_
      refine q_nil (k_then ?_)
      refine wc_cond_f rfl ?_
      refine q_skip (k_then (wc_seq (wc_regionL ?_)))
      refine wl_val (ov_field0 (off := 0) fo43_0 rfl) rfl rfl rfl ?_
      refine wl_val (ov_loadAt oc34 rfl hb_g1 rfl) rfl rfl rfl ?_
      refine wl_val (ov_add rfl rfl (wi64 (by omega) (by omega))) rfl rfl rfl ?_
      refine wl_val (ov_conv Tryz.underlying34 Tryz.underlying5 rfl (wu8_R (by omega) (by omega))) rfl rfl rfl ?_
      refine wl_val (ov_loadAt oc32 rfl hb_g7 rfl) rfl rfl rfl ?_
      have hwb := wbytes_e he0
      have hwl2 : (wbytes r).length ≤ 10 := by rw [hwb]; omega
      refine wl_spell (d := 71) rfl (v' := .slice A51 (wbytes r).length c51) (by rw [hwb]; rfl) ?_
      rw [show ([] ++ enc r.err.toNat : List UInt8) = wbytes r from hwb.symm] at ho51
      refine wl_val (ov_build (cs := [(.int .u8 (↑(codeR r).toNat : Int)), (.slice A51 (wbytes r).length c51)]) ze117 pl117 rfl rfl) rfl rfl rfl ?_
      refine wl_step (or_alloc (cs := [(.int .u8 0), (.slice none 0 0)]) ze117 rfl) rfl rfl rfl ?_
      rintro v w209 ⟨g10, rfl, hb_g10, he10, hl10, hu10⟩
      replace hx := RdI.ext hx he10
      replace hn := hn.ext he10
      replace hE := hE.tr he10
      replace hb_g1 := hb_g1.ext he10
      replace hb_g2 := hb_g2.ext he10
      replace hb_g4 := hb_g4.ext he10
      replace ho51 := Own.ext ho51 he10
      have hz_he10 := he10.size
      refine wl_step0 (or_storeBlk (vs := [(.int .u8 (↑(codeR r).toNat : Int)), (.slice A51 (wbytes r).length c51)]) sz117 rfl rfl (by simp [Value.oneCell']) hb_g10 rfl) rfl rfl ?_
      rintro _ w210 ⟨hN210, hg210⟩
      have hz_hg210 := hg210.size
      replace hx := RdI.gr hx hg210 (fun _ e => by cases e; omega)
      replace hn := hn.gr hg210 (fun _ e => by cases e; omega)
      replace hE := hE.gr hg210 (fun _ e => by cases e; omega)
      replace hb_g1 := hb_g1.gr hg210 (by intro e; cases e; omega)
      replace hb_g2 := hb_g2.gr hg210 (by intro e; cases e; omega)
      replace hb_g4 := hb_g4.gr hg210 (by intro e; cases e; omega)
      replace ho51 := Own.gr ho51 hg210 (by first | exact .inl rfl | (right; intro e; first | (have := hq_ho51 _ e; omega) | (have := Own.lt ho51 e; omega) | exact own_blk_ne ho51 hb_g10 (by decide) e))
      replace hb_g10 := hN210
      refine q_nil (k_then (wc_seq (wc_seq (wc_regionL ?_))))
      refine wl_val (ov_loadBlk (cs := [(.int .u8 (↑(codeR r).toNat : Int)), (.slice A51 (wbytes r).length c51)]) ag117_2 rfl hb_g10) rfl rfl rfl ?_
      refine wl_step (or_call0 cl93 rfl rfl (rd8_read _ (codeR r) r.op (codeR_sub (by omega) (by omega)) _ _ A51 c51 (wbytes r) (OwnB.rd ho51) (by first | omega | decide | (simp; done)))) rfl rfl rfl ?_
      rintro v w211 ⟨X75, cx75, N75, cn75, xs75, rfl, hv75, hx75, hn75, he75⟩
      replace hx := RdI.ext hx he75
      replace hn := hn.ext he75
      replace hE := hE.tr he75
      replace hb_g1 := hb_g1.ext he75
      replace hb_g2 := hb_g2.ext he75
      replace hb_g4 := hb_g4.ext he75
      replace ho51 := Own.ext ho51 he75
      replace hb_g10 := hb_g10.ext he75
      have hz_he75 := he75.size
      refine vm rfl rfl ?_
      iterate 2 refine vx rfl rfl rfl ?_
      refine wl_step (or_alloc (cs := [(.int .i64 0), (.int .i64 0), (.slice none 0 0), (.int .u64 0), (.int .i64 0), (.slice none 0 0)]) ze43 rfl) rfl rfl rfl ?_
      rintro v w212 ⟨g11, rfl, hb_g11, he11, hl11, hu11⟩
      replace hx := RdI.ext hx he11
      replace hn := hn.ext he11
      replace hE := hE.tr he11
      replace hb_g1 := hb_g1.ext he11
      replace hb_g2 := hb_g2.ext he11
      replace hb_g4 := hb_g4.ext he11
      replace ho51 := Own.ext ho51 he11
      replace hb_g10 := hb_g10.ext he11
      replace hx75 := RdI.ext hx75 he11
      replace hn75 := hn75.ext he11
      have hz_he11 := he11.size
      refine wl_step0 (or_storeBlk (vs := [(.int .i64 (rdR r.op (wbytes r)).1.op), (.int .i64 (rdR r.op (wbytes r)).1.err), (.slice X75 (rdR r.op (wbytes r)).1.items.length cx75), (.int .u64 (↑(rdR r.op (wbytes r)).1.ver : Int)), (.int .i64 (rdR r.op (wbytes r)).1.count), (.slice N75 (rdR r.op (wbytes r)).1.nums.length cn75)]) sz43 rfl rfl (by simp [Value.oneCell']) hb_g11 rfl) rfl rfl ?_
      rintro _ w213 ⟨hN213, hg213⟩
      have hz_hg213 := hg213.size
      replace hx := RdI.gr hx hg213 (fun _ e => by cases e; omega)
      replace hn := hn.gr hg213 (fun _ e => by cases e; omega)
      replace hE := hE.gr hg213 (fun _ e => by cases e; omega)
      replace hb_g1 := hb_g1.gr hg213 (by intro e; cases e; omega)
      replace hb_g2 := hb_g2.gr hg213 (by intro e; cases e; omega)
      replace hb_g4 := hb_g4.gr hg213 (by intro e; cases e; omega)
      replace ho51 := Own.gr ho51 hg213 (by first | exact .inl rfl | (right; intro e; first | (have := hq_ho51 _ e; omega) | (have := Own.lt ho51 e; omega) | exact own_blk_ne ho51 hb_g11 (by decide) e))
      replace hb_g10 := hb_g10.gr hg213 (by intro e; cases e; omega)
      replace hx75 := RdI.gr hx75 hg213 (fun _ e => by cases e; omega)
      replace hn75 := hn75.gr hg213 (fun _ e => by cases e; omega)
      replace hb_g11 := hN213
      refine va rfl rfl ?_
      refine q_nil (k_then (wc_seq (wc_regionL ?_)))
      refine vm rfl rfl ?_
      refine wl_val (ov_neq rfl rfl) rfl rfl rfl ?_
      refine wl_case_d (d := 79) rfl (fun h79 => ?_) (fun h79 => ?_)
      ·have hbad : ¬ WrOk r := by
        rintro ⟨q1, q2, q3, q4, q5, q6, q7, q8⟩
        omega
       refine vm rfl rfl ?_
       iterate 4 refine wl_gskip rfl rfl rfl rfl rfl rfl ?_
       refine wl_val (ov_pick_t rfl rfl) rfl rfl rfl ?_
       refine q_nil (k_then ?_)
       refine wc_cond_t rfl ?_
       refine wc_seq (wc_regionL ?_)
       refine wl_val (ov_loadBlk (cs := [(.int .u8 0), (.slice none 0 0)]) ag117_2 rfl hb_g4) rfl rfl rfl ?_
       refine wl_step0 (or_storeBlk (vs := [(.int .u8 0), (.slice none 0 0)]) sz117 rfl rfl (by simp [Value.oneCell']) hb_g2 rfl) rfl rfl ?_
       rintro _ w214 ⟨hN214, hg214⟩
       have hz_hg214 := hg214.size
       replace hE := hE.gr hg214 (fun _ e => by cases e; omega)
       replace hb_g2 := hN214
       refine va rfl rfl ?_
       refine q_nil (k_then (q_ret (k_thenR ?_)))
       refine e_retL (rs := [.cell 2 117, .tmp 3]) (vs := [.agg #[(.int .u8 0), (.slice none 0 0)], (.int .i64 2)]) rfl ⟨⟨_, _, [(.int .u8 0), (.slice none 0 0)], rfl, ag117_2, hb_g2, rfl⟩, rfl, trivial⟩ ?_
       rw [wrR_bad hbad]
       exact ⟨none, 0, rfl, Own.nil_ _ _ _ _, hE⟩
      ·refine vm rfl rfl ?_
       refine wl_gval (ov_loadBlk (cs := [(.int .i64 (rdR r.op (wbytes r)).1.op), (.int .i64 (rdR r.op (wbytes r)).1.err), (.slice X75 (rdR r.op (wbytes r)).1.items.length cx75), (.int .u64 (↑(rdR r.op (wbytes r)).1.ver : Int)), (.int .i64 (rdR r.op (wbytes r)).1.count), (.slice N75 (rdR r.op (wbytes r)).1.nums.length cn75)]) ag43_6 rfl hb_g11) rfl rfl rfl rfl rfl ?_
       refine wl_gval (ov_loadBlk (cs := [(.int .i64 r.op), (.int .i64 r.err), (.slice X r.items.length cx), (.int .u64 (↑r.ver : Int)), (.int .i64 r.count), (.slice N r.nums.length cn)]) ag43_6 rfl hb_g1) rfl rfl rfl rfl rfl ?_
       refine wl_gstep (or_call0 cl94 rfl rfl (eq8_any _ (rdR r.op (wbytes r)).1 xs75 hv75 _ _ X75 cx75 N75 cn75 hx75 hn75 r xs hv _ _ X cx N cn hx hn)) rfl rfl rfl rfl rfl ?_
       rintro v w214 ⟨rfl, he83⟩
       replace hE := hE.tr he83
       replace hb_g2 := hb_g2.ext he83
       replace hb_g4 := hb_g4.ext he83
       replace ho51 := Own.ext ho51 he83
       replace hb_g10 := hb_g10.ext he83
       have hz_he83 := he83.size
       refine wl_gval (ov_not rfl) rfl rfl rfl rfl rfl ?_
       refine wl_spell (d := 84) rfl (v' := (.bool (decide (¬ (rdR r.op (wbytes r)).1 = r)))) (by by_cases h : (rdR r.op (wbytes r)).1 = r <;> simp [h]) ?_
       refine wl_case_d (d := 84) rfl (fun h84 => ?_) (fun h84 => ?_)
       ·have hbad : ¬ WrOk r := by
         rintro ⟨q1, q2, q3, q4, q5, q6, q7, q8⟩
         exact h84 q8
        refine wl_val (ov_pick_f rfl rfl) rfl rfl rfl ?_
        refine q_nil (k_then ?_)
        refine wc_cond_t rfl ?_
        refine wc_seq (wc_regionL ?_)
        refine wl_val (ov_loadBlk (cs := [(.int .u8 0), (.slice none 0 0)]) ag117_2 rfl hb_g4) rfl rfl rfl ?_
        refine wl_step0 (or_storeBlk (vs := [(.int .u8 0), (.slice none 0 0)]) sz117 rfl rfl (by simp [Value.oneCell']) hb_g2 rfl) rfl rfl ?_
        rintro _ w215 ⟨hN215, hg215⟩
        have hz_hg215 := hg215.size
        replace hE := hE.gr hg215 (fun _ e => by cases e; omega)
        replace hb_g2 := hN215
        refine va rfl rfl ?_
        refine q_nil (k_then (q_ret (k_thenR ?_)))
        refine e_retL (rs := [.cell 2 117, .tmp 3]) (vs := [.agg #[(.int .u8 0), (.slice none 0 0)], (.int .i64 2)]) rfl ⟨⟨_, _, [(.int .u8 0), (.slice none 0 0)], rfl, ag117_2, hb_g2, rfl⟩, rfl, trivial⟩ ?_
        rw [wrR_bad hbad]
        exact ⟨none, 0, rfl, Own.nil_ _ _ _ _, hE⟩
       ·have hsame := Decidable.not_not.1 h84
        have hgood : WrOk r := ⟨by omega, by omega, by omega, by omega, .inr he0, fun h => absurd h he0, by omega, hsame⟩
        refine wl_val (ov_pick_f rfl rfl) rfl rfl rfl ?_
        refine q_nil (k_then ?_)
        refine wc_cond_f rfl ?_
        refine q_skip (k_then (wc_seq (wc_regionL ?_)))
        refine wl_val (ov_loadBlk (cs := [(.int .u8 (↑(codeR r).toNat : Int)), (.slice A51 (wbytes r).length c51)]) ag117_2 rfl hb_g10) rfl rfl rfl ?_
        refine wl_step0 (or_storeBlk (vs := [(.int .u8 (↑(codeR r).toNat : Int)), (.slice A51 (wbytes r).length c51)]) sz117 rfl rfl (by simp [Value.oneCell']) hb_g2 rfl) rfl rfl ?_
        rintro _ w215 ⟨hN215, hg215⟩
        have hz_hg215 := hg215.size
        replace hE := hE.gr hg215 (fun _ e => by cases e; omega)
        replace ho51 := Own.gr ho51 hg215 (by first | exact .inl rfl | (right; intro e; first | (have := hq_ho51 _ e; omega) | (have := Own.lt ho51 e; omega) | exact own_blk_ne ho51 hb_g2 (by decide) e))
        replace hb_g2 := hN215
        refine va rfl rfl ?_
        refine q_nil (k_then (q_ret ?_))
        refine e_retL (rs := [.cell 2 117, .tmp 3]) (vs := [.agg #[(.int .u8 (↑(codeR r).toNat : Int)), (.slice A51 (wbytes r).length c51)], (.int .i64 0)]) rfl ⟨⟨_, _, [(.int .u8 (↑(codeR r).toNat : Int)), (.slice A51 (wbytes r).length c51)], rfl, ag117_2, hb_g2, rfl⟩, rfl, trivial⟩ ?_
        rw [wrR_ok hgood]
        exact ⟨A51, c51, rfl, Own.mono ho51 (by omega), hE⟩
     ·refine wl_gval (ov_move rfl) rfl rfl rfl rfl rfl ?_
      iterate 3 refine wl_gskip rfl rfl rfl rfl rfl rfl ?_
      refine wl_gval (ov_pick_f rfl rfl) rfl rfl rfl rfl rfl ?_
      refine wl_val (ov_pick_f rfl rfl) rfl rfl rfl ?_
      refine q_nil (k_then ?_)
      refine wc_cond_f rfl ?_
      refine q_skip (k_then (wc_seq (wc_regionL ?_)))
      refine wl_val (ov_field0 (off := 1) fo43_1 rfl) rfl rfl rfl ?_
      refine wl_val (ov_loadAt oc29 rfl hb_g1 rfl) rfl rfl rfl ?_
      refine wl_val (ov_conv Tryz.underlying29 Tryz.underlying36 rfl (wu64 (by omega) (by omega))) rfl rfl rfl ?_
      refine wl_spell (d := 50) rfl (v' := (.int .u64 (↑r.err.toNat : Int))) (by rw [Int.toNat_of_nonneg (by omega)]) ?_
      refine wl_step (or_call0 cl92 rfl rfl (put_any _ _ _ _ _ [] (r.err.toNat) (RdB.nil _ 0 0) (by simp) (by omega))) rfl rfl rfl ?_
      rintro v w206 ⟨A51, c51, rfl, ho51, he51⟩
      replace hx := RdI.ext hx he51
      replace hn := hn.ext he51
      replace hE := hE.tr he51
      replace hb_g1 := hb_g1.ext he51
      replace hb_g2 := hb_g2.ext he51
      replace hb_g4 := hb_g4.ext he51
      have hz_he51 := he51.size
      have hq_ho51 := fun g e => Own.lt ho51 (g := g) e
      refine wl_step (or_alloc (cs := [(.slice none 0 0)]) ze32 rfl) rfl rfl rfl ?_
      rintro v w207 ⟨g7, rfl, hb_g7, he7, hl7, hu7⟩
      replace hx := RdI.ext hx he7
      replace hn := hn.ext he7
      replace hE := hE.tr he7
      replace hb_g1 := hb_g1.ext he7
      replace hb_g2 := hb_g2.ext he7
      replace hb_g4 := hb_g4.ext he7
      replace ho51 := Own.ext ho51 he7
      have hz_he7 := he7.size
      refine wl_step0 (or_storeAt (cs' := [(.slice A51 ([] ++ enc (r.err.toNat)).length c51)]) sz32 rfl rfl rfl hb_g7 rfl rfl) rfl rfl ?_
      rintro _ w208 ⟨hN208, hg208⟩
      have hz_hg208 := hg208.size
      replace hx := RdI.gr hx hg208 (fun _ e => by cases e; omega)
      replace hn := hn.gr hg208 (fun _ e => by cases e; omega)
      replace hE := hE.gr hg208 (fun _ e => by cases e; omega)
      replace hb_g1 := hb_g1.gr hg208 (by intro e; cases e; omega)
      replace hb_g2 := hb_g2.gr hg208 (by intro e; cases e; omega)
      replace hb_g4 := hb_g4.gr hg208 (by intro e; cases e; omega)
      replace ho51 := Own.gr ho51 hg208 (by first | exact .inl rfl | (right; intro e; first | (have := hq_ho51 _ e; omega) | (have := Own.lt ho51 e; omega) | exact own_blk_ne ho51 hb_g7 (by decide) e))
      replace hb_g7 := hN208
      refine q_nil (k_then (wc_seq (wc_seq (wc_regionL ?_))))
      refine wl_val (ov_field0 (off := 1) fo43_1 rfl) rfl rfl rfl ?_
      refine wl_val (ov_loadAt oc29 rfl hb_g1 rfl) rfl rfl rfl ?_
      refine ve rfl rfl rfl ?_
      refine wl_spell (d := 54) rfl (bf (by omega)) ?_
      refine q_nil (k_then ?_)
      refine wc_cond_f rfl ?_
      refine q_skip (k_then (wc_seq (wc_regionL ?_)))
      refine wl_val (ov_field0 (off := 0) fo43_0 rfl) rfl rfl rfl ?_
      refine wl_val (ov_loadAt oc34 rfl hb_g1 rfl) rfl rfl rfl ?_
      refine wl_val (ov_add rfl rfl (wi64 (by omega) (by omega))) rfl rfl rfl ?_
      refine wl_val (ov_conv Tryz.underlying34 Tryz.underlying5 rfl (wu8_R (by omega) (by omega))) rfl rfl rfl ?_
      refine wl_val (ov_loadAt oc32 rfl hb_g7 rfl) rfl rfl rfl ?_
      have hwb := wbytes_e he0
      have hwl2 : (wbytes r).length ≤ 10 := by rw [hwb]; omega
      refine wl_spell (d := 71) rfl (v' := .slice A51 (wbytes r).length c51) (by rw [hwb]; rfl) ?_
      rw [show ([] ++ enc r.err.toNat : List UInt8) = wbytes r from hwb.symm] at ho51
      refine wl_val (ov_build (cs := [(.int .u8 (↑(codeR r).toNat : Int)), (.slice A51 (wbytes r).length c51)]) ze117 pl117 rfl rfl) rfl rfl rfl ?_
      refine wl_step (or_alloc (cs := [(.int .u8 0), (.slice none 0 0)]) ze117 rfl) rfl rfl rfl ?_
      rintro v w209 ⟨g10, rfl, hb_g10, he10, hl10, hu10⟩
      replace hx := RdI.ext hx he10
      replace hn := hn.ext he10
      replace hE := hE.tr he10
      replace hb_g1 := hb_g1.ext he10
      replace hb_g2 := hb_g2.ext he10
      replace hb_g4 := hb_g4.ext he10
      replace ho51 := Own.ext ho51 he10
      have hz_he10 := he10.size
      refine wl_step0 (or_storeBlk (vs := [(.int .u8 (↑(codeR r).toNat : Int)), (.slice A51 (wbytes r).length c51)]) sz117 rfl rfl (by simp [Value.oneCell']) hb_g10 rfl) rfl rfl ?_
      rintro _ w210 ⟨hN210, hg210⟩
      have hz_hg210 := hg210.size
      replace hx := RdI.gr hx hg210 (fun _ e => by cases e; omega)
      replace hn := hn.gr hg210 (fun _ e => by cases e; omega)
      replace hE := hE.gr hg210 (fun _ e => by cases e; omega)
      replace hb_g1 := hb_g1.gr hg210 (by intro e; cases e; omega)
      replace hb_g2 := hb_g2.gr hg210 (by intro e; cases e; omega)
      replace hb_g4 := hb_g4.gr hg210 (by intro e; cases e; omega)
      replace ho51 := Own.gr ho51 hg210 (by first | exact .inl rfl | (right; intro e; first | (have := hq_ho51 _ e; omega) | (have := Own.lt ho51 e; omega) | exact own_blk_ne ho51 hb_g10 (by decide) e))
      replace hb_g10 := hN210
      refine q_nil (k_then (wc_seq (wc_seq (wc_regionL ?_))))
      refine wl_val (ov_loadBlk (cs := [(.int .u8 (↑(codeR r).toNat : Int)), (.slice A51 (wbytes r).length c51)]) ag117_2 rfl hb_g10) rfl rfl rfl ?_
      refine wl_step (or_call0 cl93 rfl rfl (rd8_read _ (codeR r) r.op (codeR_sub (by omega) (by omega)) _ _ A51 c51 (wbytes r) (OwnB.rd ho51) (by first | omega | decide | (simp; done)))) rfl rfl rfl ?_
      rintro v w211 ⟨X75, cx75, N75, cn75, xs75, rfl, hv75, hx75, hn75, he75⟩
      replace hx := RdI.ext hx he75
      replace hn := hn.ext he75
      replace hE := hE.tr he75
      replace hb_g1 := hb_g1.ext he75
      replace hb_g2 := hb_g2.ext he75
      replace hb_g4 := hb_g4.ext he75
      replace ho51 := Own.ext ho51 he75
      replace hb_g10 := hb_g10.ext he75
      have hz_he75 := he75.size
      refine vm rfl rfl ?_
      iterate 2 refine vx rfl rfl rfl ?_
      refine wl_step (or_alloc (cs := [(.int .i64 0), (.int .i64 0), (.slice none 0 0), (.int .u64 0), (.int .i64 0), (.slice none 0 0)]) ze43 rfl) rfl rfl rfl ?_
      rintro v w212 ⟨g11, rfl, hb_g11, he11, hl11, hu11⟩
      replace hx := RdI.ext hx he11
      replace hn := hn.ext he11
      replace hE := hE.tr he11
      replace hb_g1 := hb_g1.ext he11
      replace hb_g2 := hb_g2.ext he11
      replace hb_g4 := hb_g4.ext he11
      replace ho51 := Own.ext ho51 he11
      replace hb_g10 := hb_g10.ext he11
      replace hx75 := RdI.ext hx75 he11
      replace hn75 := hn75.ext he11
      have hz_he11 := he11.size
      refine wl_step0 (or_storeBlk (vs := [(.int .i64 (rdR r.op (wbytes r)).1.op), (.int .i64 (rdR r.op (wbytes r)).1.err), (.slice X75 (rdR r.op (wbytes r)).1.items.length cx75), (.int .u64 (↑(rdR r.op (wbytes r)).1.ver : Int)), (.int .i64 (rdR r.op (wbytes r)).1.count), (.slice N75 (rdR r.op (wbytes r)).1.nums.length cn75)]) sz43 rfl rfl (by simp [Value.oneCell']) hb_g11 rfl) rfl rfl ?_
      rintro _ w213 ⟨hN213, hg213⟩
      have hz_hg213 := hg213.size
      replace hx := RdI.gr hx hg213 (fun _ e => by cases e; omega)
      replace hn := hn.gr hg213 (fun _ e => by cases e; omega)
      replace hE := hE.gr hg213 (fun _ e => by cases e; omega)
      replace hb_g1 := hb_g1.gr hg213 (by intro e; cases e; omega)
      replace hb_g2 := hb_g2.gr hg213 (by intro e; cases e; omega)
      replace hb_g4 := hb_g4.gr hg213 (by intro e; cases e; omega)
      replace ho51 := Own.gr ho51 hg213 (by first | exact .inl rfl | (right; intro e; first | (have := hq_ho51 _ e; omega) | (have := Own.lt ho51 e; omega) | exact own_blk_ne ho51 hb_g11 (by decide) e))
      replace hb_g10 := hb_g10.gr hg213 (by intro e; cases e; omega)
      replace hx75 := RdI.gr hx75 hg213 (fun _ e => by cases e; omega)
      replace hn75 := hn75.gr hg213 (fun _ e => by cases e; omega)
      replace hb_g11 := hN213
      refine va rfl rfl ?_
      refine q_nil (k_then (wc_seq (wc_regionL ?_)))
      refine vm rfl rfl ?_
      refine wl_val (ov_neq rfl rfl) rfl rfl rfl ?_
      refine wl_case_d (d := 79) rfl (fun h79 => ?_) (fun h79 => ?_)
      ·have hbad : ¬ WrOk r := by
        rintro ⟨q1, q2, q3, q4, q5, q6, q7, q8⟩
        omega
       refine vm rfl rfl ?_
       iterate 4 refine wl_gskip rfl rfl rfl rfl rfl rfl ?_
       refine wl_val (ov_pick_t rfl rfl) rfl rfl rfl ?_
       refine q_nil (k_then ?_)
       refine wc_cond_t rfl ?_
       refine wc_seq (wc_regionL ?_)
       refine wl_val (ov_loadBlk (cs := [(.int .u8 0), (.slice none 0 0)]) ag117_2 rfl hb_g4) rfl rfl rfl ?_
       refine wl_step0 (or_storeBlk (vs := [(.int .u8 0), (.slice none 0 0)]) sz117 rfl rfl (by simp [Value.oneCell']) hb_g2 rfl) rfl rfl ?_
       rintro _ w214 ⟨hN214, hg214⟩
       have hz_hg214 := hg214.size
       replace hE := hE.gr hg214 (fun _ e => by cases e; omega)
       replace hb_g2 := hN214
       refine va rfl rfl ?_
       refine q_nil (k_then (q_ret (k_thenR ?_)))
       refine e_retL (rs := [.cell 2 117, .tmp 3]) (vs := [.agg #[(.int .u8 0), (.slice none 0 0)], (.int .i64 2)]) rfl ⟨⟨_, _, [(.int .u8 0), (.slice none 0 0)], rfl, ag117_2, hb_g2, rfl⟩, rfl, trivial⟩ ?_
       rw [wrR_bad hbad]
       exact ⟨none, 0, rfl, Own.nil_ _ _ _ _, hE⟩
      ·refine vm rfl rfl ?_
       refine wl_gval (ov_loadBlk (cs := [(.int .i64 (rdR r.op (wbytes r)).1.op), (.int .i64 (rdR r.op (wbytes r)).1.err), (.slice X75 (rdR r.op (wbytes r)).1.items.length cx75), (.int .u64 (↑(rdR r.op (wbytes r)).1.ver : Int)), (.int .i64 (rdR r.op (wbytes r)).1.count), (.slice N75 (rdR r.op (wbytes r)).1.nums.length cn75)]) ag43_6 rfl hb_g11) rfl rfl rfl rfl rfl ?_
       refine wl_gval (ov_loadBlk (cs := [(.int .i64 r.op), (.int .i64 r.err), (.slice X r.items.length cx), (.int .u64 (↑r.ver : Int)), (.int .i64 r.count), (.slice N r.nums.length cn)]) ag43_6 rfl hb_g1) rfl rfl rfl rfl rfl ?_
       refine wl_gstep (or_call0 cl94 rfl rfl (eq8_any _ (rdR r.op (wbytes r)).1 xs75 hv75 _ _ X75 cx75 N75 cn75 hx75 hn75 r xs hv _ _ X cx N cn hx hn)) rfl rfl rfl rfl rfl ?_
       rintro v w214 ⟨rfl, he83⟩
       replace hE := hE.tr he83
       replace hb_g2 := hb_g2.ext he83
       replace hb_g4 := hb_g4.ext he83
       replace ho51 := Own.ext ho51 he83
       replace hb_g10 := hb_g10.ext he83
       have hz_he83 := he83.size
       refine wl_gval (ov_not rfl) rfl rfl rfl rfl rfl ?_
       refine wl_spell (d := 84) rfl (v' := (.bool (decide (¬ (rdR r.op (wbytes r)).1 = r)))) (by by_cases h : (rdR r.op (wbytes r)).1 = r <;> simp [h]) ?_
       refine wl_case_d (d := 84) rfl (fun h84 => ?_) (fun h84 => ?_)
       ·have hbad : ¬ WrOk r := by
         rintro ⟨q1, q2, q3, q4, q5, q6, q7, q8⟩
         exact h84 q8
        refine wl_val (ov_pick_f rfl rfl) rfl rfl rfl ?_
        refine q_nil (k_then ?_)
        refine wc_cond_t rfl ?_
        refine wc_seq (wc_regionL ?_)
        refine wl_val (ov_loadBlk (cs := [(.int .u8 0), (.slice none 0 0)]) ag117_2 rfl hb_g4) rfl rfl rfl ?_
        refine wl_step0 (or_storeBlk (vs := [(.int .u8 0), (.slice none 0 0)]) sz117 rfl rfl (by simp [Value.oneCell']) hb_g2 rfl) rfl rfl ?_
        rintro _ w215 ⟨hN215, hg215⟩
        have hz_hg215 := hg215.size
        replace hE := hE.gr hg215 (fun _ e => by cases e; omega)
        replace hb_g2 := hN215
        refine va rfl rfl ?_
        refine q_nil (k_then (q_ret (k_thenR ?_)))
        refine e_retL (rs := [.cell 2 117, .tmp 3]) (vs := [.agg #[(.int .u8 0), (.slice none 0 0)], (.int .i64 2)]) rfl ⟨⟨_, _, [(.int .u8 0), (.slice none 0 0)], rfl, ag117_2, hb_g2, rfl⟩, rfl, trivial⟩ ?_
        rw [wrR_bad hbad]
        exact ⟨none, 0, rfl, Own.nil_ _ _ _ _, hE⟩
       ·have hsame := Decidable.not_not.1 h84
        have hgood : WrOk r := ⟨by omega, by omega, by omega, by omega, .inr he0, fun h => absurd h he0, by omega, hsame⟩
        refine wl_val (ov_pick_f rfl rfl) rfl rfl rfl ?_
        refine q_nil (k_then ?_)
        refine wc_cond_f rfl ?_
        refine q_skip (k_then (wc_seq (wc_regionL ?_)))
        refine wl_val (ov_loadBlk (cs := [(.int .u8 (↑(codeR r).toNat : Int)), (.slice A51 (wbytes r).length c51)]) ag117_2 rfl hb_g10) rfl rfl rfl ?_
        refine wl_step0 (or_storeBlk (vs := [(.int .u8 (↑(codeR r).toNat : Int)), (.slice A51 (wbytes r).length c51)]) sz117 rfl rfl (by simp [Value.oneCell']) hb_g2 rfl) rfl rfl ?_
        rintro _ w215 ⟨hN215, hg215⟩
        have hz_hg215 := hg215.size
        replace hE := hE.gr hg215 (fun _ e => by cases e; omega)
        replace ho51 := Own.gr ho51 hg215 (by first | exact .inl rfl | (right; intro e; first | (have := hq_ho51 _ e; omega) | (have := Own.lt ho51 e; omega) | exact own_blk_ne ho51 hb_g2 (by decide) e))
        replace hb_g2 := hN215
        refine va rfl rfl ?_
        refine q_nil (k_then (q_ret ?_))
        refine e_retL (rs := [.cell 2 117, .tmp 3]) (vs := [.agg #[(.int .u8 (↑(codeR r).toNat : Int)), (.slice A51 (wbytes r).length c51)], (.int .i64 0)]) rfl ⟨⟨_, _, [(.int .u8 (↑(codeR r).toNat : Int)), (.slice A51 (wbytes r).length c51)], rfl, ag117_2, hb_g2, rfl⟩, rfl, trivial⟩ ?_
        rw [wrR_ok hgood]
        exact ⟨A51, c51, rfl, Own.mono ho51 (by omega), hE⟩
theorem wr8_write (w : World) (r : Rsp) (xs : List IT) (hv : vals xs = r.items) (lo hi : Nat) (X : Option Addr) (cx : Nat) (N : Option Addr) (cn : Nat) (hx : RdI w lo hi X cx xs) (hn : RdN w lo hi N cn r.nums) (hok : RspOk r) (hsz : rsz r ≤ 4398046511104) :
  Fn Tryz.prog 74 #[.agg (rspc r X cx N cn).toArray] w (fun v w' => ∃ A c, v = .tuple #[.agg #[.int .u8 ((wrR r).1.1.toNat : Int), .slice A (wrR r).1.2.length c], .int .i64 ((wrR r).2 : Int)] ∧ OwnB w' w.heap.size 5 A c (wrR r).1.2 ∧ Ext w w') := by
 by_cases h : r.err = 0
 ·exact wr8_0 w r xs hv lo hi X cx N cn hx hn hok hsz h
 ·exact wr8_e w r xs hv lo hi X cx N cn hx hn hok hsz h
theorem vd8_any (w : World) (r : Rsp) (xs : List IT) (hv : vals xs = r.items) (lo hi : Nat) (X : Option Addr) (cx : Nat) (N : Option Addr) (cn : Nat) (hx : RdI w lo hi X cx xs) (hn : RdN w lo hi N cn r.nums) (hok : RspOk r) (hsz : rsz r ≤ 4398046511104) :
  Fn Tryz.prog 53 #[(.agg #[(.int .i64 r.op), (.int .i64 r.err), (.slice X r.items.length cx), (.int .u64 (↑r.ver : Int)), (.int .i64 r.count), (.slice N r.nums.length cn)])] w (fun v w' => v = .bool (decide ((wrR r).2 = 0)) ∧ Ext w w')  := by
 replace hx := hx.top
 replace hn := Rd.top hn
 have hE := ext_refl w
 refine fn_enter (args := [(.agg #[(.int .i64 r.op), (.int .i64 r.err), (.slice X r.items.length cx), (.int .u64 (↑r.ver : Int)), (.int .i64 r.count), (.slice N r.nums.length cn)])]) Tryz.func53 rfl rfl rfl ?_
 show WC _ _ _ _ [(0, (.agg #[(.int .i64 r.op), (.int .i64 r.err), (.slice X r.items.length cx), (.int .u64 (↑r.ver : Int)), (.int .i64 r.count), (.slice N r.nums.length cn)]))] _
 refine wc_seq (wc_regionL ?_)
 refine wl_step (or_box (cs := [(.int .i64 r.op), (.int .i64 r.err), (.slice X r.items.length cx), (.int .u64 (↑r.ver : Int)), (.int .i64 r.count), (.slice N r.nums.length cn)]) rfl rfl) rfl rfl rfl ?_
 rintro v w1 ⟨g1, rfl, hb_g1, he1, hl1, hu1⟩
 replace hx := RdI.ext hx he1
 replace hn := hn.ext he1
 replace hE := hE.tr he1
 have hz_he1 := he1.size
 refine va rfl rfl ?_
 refine q_nil (k_then (wc_seq (wc_regionL ?_)))
 refine wl_val (ov_loadBlk (cs := [(.int .i64 r.op), (.int .i64 r.err), (.slice X r.items.length cx), (.int .u64 (↑r.ver : Int)), (.int .i64 r.count), (.slice N r.nums.length cn)]) ag43_6 rfl hb_g1) rfl rfl rfl ?_
 refine wl_step (or_call0 cl74 rfl rfl (wr8_write _ r xs hv _ _ X cx N cn hx hn hok hsz)) rfl rfl rfl ?_
 rintro v w2 ⟨A7, c7, rfl, ho7, he7⟩
 replace hE := hE.tr he7
 have hz_he7 := he7.size
 refine vm rfl rfl ?_
 iterate 2 refine vx rfl rfl rfl ?_
 refine wl_step (or_alloc (cs := [(.int .u8 0), (.slice none 0 0)]) ze117 rfl) rfl rfl rfl ?_
 rintro v w3 ⟨g3, rfl, hb_g3, he3, hl3, hu3⟩
 replace hE := hE.tr he3
 have hz_he3 := he3.size
 refine wl_step0 (or_storeBlk (vs := [(.int .u8 (↑(wrR r).1.1.toNat : Int)), (.slice A7 (wrR r).1.2.length c7)]) sz117 rfl rfl (by simp [Value.oneCell']) hb_g3 rfl) rfl rfl ?_
 rintro _ w4 ⟨hN4, hg4⟩
 have hz_hg4 := hg4.size
 replace hE := hE.gr hg4 (fun _ e => by cases e; omega)
 refine va rfl rfl ?_
 refine q_nil (k_then (wc_seq (wc_regionL ?_)))
 refine vm rfl rfl ?_
 refine ve rfl rfl rfl ?_
 refine va rfl rfl ?_
 refine q_nil (k_then (q_ret ?_))
 refine e_ret rfl rfl ?_
 exact ⟨by congr 1; rw [decide_eq_decide]; omega, hE⟩
end Go.Proofs.YtiighkbehiddkaaGreat