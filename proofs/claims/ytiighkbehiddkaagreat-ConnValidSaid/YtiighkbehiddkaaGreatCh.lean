/-
 The walk of ConnValid.
-/
import Derived.Test.YtiighkbehiddkaaGreatCg
namespace Go.Proofs.YtiighkbehiddkaaGreat
open Go.RowKit
set_option linter.unusedVariables false
set_option maxRecDepth 4000
theorem cl10 : callable Tryz.prog 10 = true := by kernel_rfl
theorem cl12 : callable Tryz.prog 12 = true := by kernel_rfl
theorem cl14 : callable Tryz.prog 14 = true := by kernel_rfl
theorem cl8 : callable Tryz.prog 8 = true := by kernel_rfl
theorem connValid_g (w : World) (i o p : Nat) (hv : 16 ≤ p ∧ p ≤ 2097152 ∧ p + 8 ≤ i ∧ i ≤ 4194304 ∧ 64 ≤ o ∧ o ≤ 1048576) :
  Fn Tryz.prog 5 #[(.agg #[(.int .i64 (↑i : Int)), (.int .i64 (↑o : Int)), (.int .i64 (↑p : Int))])] w (fun v w' => v = .bool true ∧ Ext w w')  := by
 have hE := ext_refl w
 have hcf : cfOk (i : Int) (o : Int) (p : Int) := by unfold cfOk; omega
 refine fn_enter (args := [(.agg #[(.int .i64 (↑i : Int)), (.int .i64 (↑o : Int)), (.int .i64 (↑p : Int))])]) Tryz.func5 rfl rfl rfl ?_
 show WC _ _ _ _ [(0, (.agg #[(.int .i64 (↑i : Int)), (.int .i64 (↑o : Int)), (.int .i64 (↑p : Int))]))] _
 refine wc_seq (wc_regionL ?_)
 refine wl_step (or_box (cs := [(.int .i64 (↑i : Int)), (.int .i64 (↑o : Int)), (.int .i64 (↑p : Int))]) rfl rfl) rfl rfl rfl ?_
 rintro v w1 ⟨g1, rfl, hb_g1, he1, hl1, hu1⟩
 replace hE := hE.tr he1
 have hz_he1 := he1.size
 refine va rfl rfl ?_
 refine q_nil (k_then (wc_seq (wc_regionL ?_)))
 refine wl_val (ov_loadBlk (cs := [(.int .i64 (↑i : Int)), (.int .i64 (↑o : Int)), (.int .i64 (↑p : Int))]) ag23_3 rfl hb_g1) rfl rfl rfl ?_
 refine wl_step (or_call0 cl11 rfl rfl (cnew_ok _ (i) (o) (p) hv)) rfl rfl rfl ?_
 rintro v w2 ⟨gn7, S7, a7, rfl, hc7, hl7, he7⟩
 replace hE := hE.tr he7
 replace hb_g1 := hb_g1.ext he7
 have hz_he7 := he7.size
 obtain ⟨L7, hlo7⟩ : ∃ n, n = w1.heap.size := ⟨_, rfl⟩
 obtain ⟨H7, hhi7⟩ : ∃ n, n = w2.heap.size := ⟨_, rfl⟩
 replace hc7 : Cnn w2 gn7 S7 a7 a7 (cnNew (i) (o) (p)) := hc7
 have hQ7 : ∀ x ∈ S7, L7 ≤ x ∧ x < H7 := fun x hx => ⟨by rw [hlo7]; exact hl7 x hx, by rw [hhi7]; exact (hc7.bnd.1 x hx).1⟩
 have hB_hc7 : (∀ x ∈ S7, x < w2.heap.size) ∧ a7 ≤ w2.heap.size := ⟨fun x hx => (hc7.bnd.1 x hx).1, hc7.bnd.2⟩
 refine vm rfl rfl ?_
 iterate 2 refine vx rfl rfl rfl ?_
 iterate 2 refine va rfl rfl ?_
 refine q_nil (k_then (wc_seq (wc_seq (wc_regionL ?_))))
 refine wl_val (ov_loadBlk (cs := [(.int .i64 (↑i : Int)), (.int .i64 (↑o : Int)), (.int .i64 (↑p : Int))]) ag23_3 rfl hb_g1) rfl rfl rfl ?_
 refine wl_step (or_call0 cl8 rfl rfl (rvalid28_any _ (↑i : Int) (↑o : Int) (↑p : Int) (by omega) (by omega) (by omega) (by omega) (by omega) (by omega))) rfl rfl rfl ?_
 rintro v w3 ⟨rfl, he11⟩
 replace hE := hE.tr he11
 replace hb_g1 := hb_g1.ext he11
 replace hc7 := hc7.ext he11
 have hz_he11 := he11.size
 refine wl_spell (d := 11) rfl (bt (hcf)) ?_
 refine wl_val (ov_not (b := true) rfl) rfl rfl rfl ?_
 refine q_nil (k_then ?_)
 refine wc_cond_f rfl ?_
 refine q_skip (k_then (wc_seq (wc_regionL ?_)))
 refine wl_val (ov_loadBlk (cs := [(.int .i64 (↑i : Int)), (.int .i64 (↑o : Int)), (.int .i64 (↑p : Int))]) ag23_3 rfl hb_g1) rfl rfl rfl ?_
 refine wl_step (or_call0 cl27 rfl rfl (cvalid_any _ (↑i : Int) (↑o : Int) (↑p : Int) (by omega) (by omega) (by omega) (by omega) (by omega) (by omega))) rfl rfl rfl ?_
 rintro v w4 ⟨rfl, he28⟩
 replace hE := hE.tr he28
 replace hb_g1 := hb_g1.ext he28
 replace hc7 := hc7.ext he28
 have hz_he28 := he28.size
 refine wl_spell (d := 28) rfl (bt (hcf)) ?_
 refine vm rfl rfl ?_
 refine wl_gval (ov_move rfl) rfl rfl rfl rfl rfl ?_
 refine wl_gval (ov_nnilptr Tryz.underlying28 rfl) rfl rfl rfl rfl rfl ?_
 refine wl_val (ov_pick_t rfl rfl) rfl rfl rfl ?_
 refine vm rfl rfl ?_
 refine wl_gval (ov_move rfl) rfl rfl rfl rfl rfl ?_
 refine wl_gval (ov_eql rfl rfl) rfl rfl rfl rfl rfl ?_
 refine wl_val (ov_pick_t rfl rfl) rfl rfl rfl ?_
 refine vm rfl rfl ?_
 refine wl_gval (ov_move rfl) rfl rfl rfl rfl rfl ?_
 refine wl_gval (ov_loadBlk (cs := [(.int .i64 (↑i : Int)), (.int .i64 (↑o : Int)), (.int .i64 (↑p : Int))]) ag23_3 rfl hb_g1) rfl rfl rfl rfl rfl ?_
 refine wl_gstep (or_call0 cl12 rfl rfl (rnew28_any _ (↑i : Int) (↑o : Int) (↑p : Int))) rfl rfl rfl rfl rfl ?_
 rintro v w5 ⟨rfl, he40⟩
 replace hE := hE.tr he40
 replace hc7 := hc7.ext he40
 have hz_he40 := he40.size
 refine wl_gstep (or_call0 cl14 rfl rfl (looks28_any _ _ S7 a7 a7 (cnNew (i) (o) (p)) hc7 (↑i : Int) (↑o : Int) (↑p : Int) [] none 0 [] none 0 1 false (cmd0 0) 0 0 none 0 none 0 none 0 (Rd.nil _ _ _ _ _ _ (Nat.zero_le _)) (Rd.nil _ _ _ _ _ _ (Nat.zero_le _)) (Rd.nil _ _ _ _ _ _ (Nat.zero_le _)) (rspO 0 0) [] rfl 0 0 none 0 none 0 (RdI.nil _ 0 0) (Rd.nil _ _ _ _ _ _ (Nat.zero_le _)) rfl rfl rfl (fun q => by cases q) (fun q => by cases q))) rfl rfl rfl rfl rfl ?_
 rintro v w6 ⟨rfl, he41⟩
 replace hE := hE.tr he41
 have hz_he41 := he41.size
 refine wl_val (ov_pick_t rfl rfl) rfl rfl rfl ?_
 refine vm rfl rfl ?_
 refine wl_gstep (or_call0 cl10 rfl rfl (known28_any _)) rfl rfl rfl rfl rfl ?_
 rintro v w7 ⟨rfl, he44⟩
 replace hE := hE.tr he44
 have hz_he44 := he44.size
 refine wl_val (ov_pick_t rfl rfl) rfl rfl rfl ?_
 refine va rfl rfl ?_
 refine q_nil (k_then (q_ret ?_))
 refine e_ret rfl rfl ?_
 exact ⟨rfl, hE⟩
theorem connValid_b (w : World) (i o p : Int) (hi1 : -9223372036854775808 ≤ i) (hi2 : i ≤ 9223372036854775807) (ho1 : -9223372036854775808 ≤ o) (ho2 : o ≤ 9223372036854775807) (hp1 : -9223372036854775808 ≤ p) (hp2 : p ≤ 9223372036854775807) (hcf : ¬ cfOk i o p) :
  Fn Tryz.prog 5 #[(.agg #[(.int .i64 i), (.int .i64 o), (.int .i64 p)])] w (fun v w' => v = .bool true ∧ Ext w w')  := by
 have hE := ext_refl w
 refine fn_enter (args := [(.agg #[(.int .i64 i), (.int .i64 o), (.int .i64 p)])]) Tryz.func5 rfl rfl rfl ?_
 show WC _ _ _ _ [(0, (.agg #[(.int .i64 i), (.int .i64 o), (.int .i64 p)]))] _
 refine wc_seq (wc_regionL ?_)
 refine wl_step (or_box (cs := [(.int .i64 i), (.int .i64 o), (.int .i64 p)]) rfl rfl) rfl rfl rfl ?_
 rintro v w1 ⟨g1, rfl, hb_g1, he1, hl1, hu1⟩
 replace hE := hE.tr he1
 have hz_he1 := he1.size
 refine va rfl rfl ?_
 refine q_nil (k_then (wc_seq (wc_regionL ?_)))
 refine wl_val (ov_loadBlk (cs := [(.int .i64 i), (.int .i64 o), (.int .i64 p)]) ag23_3 rfl hb_g1) rfl rfl rfl ?_
 refine wl_step (or_call0 cl11 rfl rfl (cnew_bad _ i o p hcf hi1 hi2 ho1 ho2 hp1 hp2)) rfl rfl rfl ?_
 rintro v w2 ⟨rfl, he7⟩
 replace hE := hE.tr he7
 replace hb_g1 := hb_g1.ext he7
 have hz_he7 := he7.size
 refine vm rfl rfl ?_
 iterate 2 refine vx rfl rfl rfl ?_
 iterate 2 refine va rfl rfl ?_
 refine q_nil (k_then (wc_seq (wc_seq (wc_regionL ?_))))
 refine wl_val (ov_loadBlk (cs := [(.int .i64 i), (.int .i64 o), (.int .i64 p)]) ag23_3 rfl hb_g1) rfl rfl rfl ?_
 refine wl_step (or_call0 cl8 rfl rfl (rvalid28_any _ i o p hi1 hi2 ho1 ho2 hp1 hp2)) rfl rfl rfl ?_
 rintro v w3 ⟨rfl, he11⟩
 replace hE := hE.tr he11
 replace hb_g1 := hb_g1.ext he11
 have hz_he11 := he11.size
 refine wl_spell (d := 11) rfl (bf (hcf)) ?_
 refine wl_val (ov_not (b := false) rfl) rfl rfl rfl ?_
 refine q_nil (k_then ?_)
 refine wc_cond_t rfl ?_
 refine wc_seq (wc_regionL ?_)
 refine wl_val (ov_loadBlk (cs := [(.int .i64 i), (.int .i64 o), (.int .i64 p)]) ag23_3 rfl hb_g1) rfl rfl rfl ?_
 refine wl_step (or_call0 cl27 rfl rfl (cvalid_any _ i o p hi1 hi2 ho1 ho2 hp1 hp2)) rfl rfl rfl ?_
 rintro v w4 ⟨rfl, he14⟩
 replace hE := hE.tr he14
 have hz_he14 := he14.size
 refine wl_spell (d := 14) rfl (bf (hcf)) ?_
 refine wl_val (ov_not (b := false) rfl) rfl rfl rfl ?_
 refine vm rfl rfl ?_
 refine wl_gval (ov_move rfl) rfl rfl rfl rfl rfl ?_
 refine wl_gval (ov_nilptr Tryz.underlying28 rfl) rfl rfl rfl rfl rfl ?_
 refine wl_val (ov_pick_t rfl rfl) rfl rfl rfl ?_
 refine vm rfl rfl ?_
 refine wl_gval (ov_move rfl) rfl rfl rfl rfl rfl ?_
 refine wl_gval (ov_eql rfl rfl) rfl rfl rfl rfl rfl ?_
 refine wl_val (ov_pick_t rfl rfl) rfl rfl rfl ?_
 refine vm rfl rfl ?_
 refine wl_gstep (or_call0 cl10 rfl rfl (known28_any _)) rfl rfl rfl rfl rfl ?_
 rintro v w5 ⟨rfl, he25⟩
 replace hE := hE.tr he25
 have hz_he25 := he25.size
 refine wl_val (ov_pick_t rfl rfl) rfl rfl rfl ?_
 refine va rfl rfl ?_
 refine q_nil (k_then (q_ret (k_thenR ?_)))
 refine e_ret rfl rfl ?_
 exact ⟨rfl, hE⟩
theorem connValid_walk (w : World) (i o p : Int) (hi1 : -9223372036854775808 ≤ i) (hi2 : i ≤ 9223372036854775807) (ho1 : -9223372036854775808 ≤ o) (ho2 : o ≤ 9223372036854775807) (hp1 : -9223372036854775808 ≤ p) (hp2 : p ≤ 9223372036854775807) :
  Fn Tryz.prog 5 #[.agg #[.int .i64 i, .int .i64 o, .int .i64 p]] w (fun v w' => v = .bool true ∧ Ext w w') := by
 by_cases h : cfOk i o p
 ·obtain ⟨a, ha⟩ : ∃ a : Nat, i = (a : Int) := ⟨i.toNat, by unfold cfOk at h; omega⟩
  obtain ⟨b, hb⟩ : ∃ b : Nat, o = (b : Int) := ⟨o.toNat, by unfold cfOk at h; omega⟩
  obtain ⟨c, hc⟩ : ∃ c : Nat, p = (c : Int) := ⟨p.toNat, by unfold cfOk at h; omega⟩
  subst ha hb hc
  exact connValid_g w a b c (by unfold cfOk at h; omega)
 ·exact connValid_b w i o p hi1 hi2 ho1 ho2 hp1 hp2 h
end Go.Proofs.YtiighkbehiddkaaGreat