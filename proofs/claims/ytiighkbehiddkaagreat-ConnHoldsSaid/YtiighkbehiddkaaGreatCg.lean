/-
 How a connection looks; the configurations.
-/
import Derived.Test.YtiighkbehiddkaaGreatCf
namespace Go.Proofs.YtiighkbehiddkaaGreat
open Go.RowKit
set_option linter.unusedVariables false
set_option maxRecDepth 4000
theorem rvalid28_any (w : World) (i o p : Int) (hi1 : -9223372036854775808 ≤ i) (hi2 : i ≤ 9223372036854775807) (ho1 : -9223372036854775808 ≤ o) (ho2 : o ≤ 9223372036854775807) (hp1 : -9223372036854775808 ≤ p) (hp2 : p ≤ 9223372036854775807) :
  Fn Tryz.prog 8 #[(.agg #[(.int .i64 i), (.int .i64 o), (.int .i64 p)])] w (fun v w' => v = .bool (decide (cfOk i o p)) ∧ Ext w w')  := by
 have hE := ext_refl w
 refine fn_enter (args := [(.agg #[(.int .i64 i), (.int .i64 o), (.int .i64 p)])]) Tryz.func8 rfl rfl rfl ?_
 show WC _ _ _ _ [(0, (.agg #[(.int .i64 i), (.int .i64 o), (.int .i64 p)]))] _
 refine wc_seq (wc_regionL ?_)
 refine wl_step (or_box (cs := [(.int .i64 i), (.int .i64 o), (.int .i64 p)]) rfl rfl) rfl rfl rfl ?_
 rintro v w1 ⟨g1, rfl, hb_g1, he1, hl1, hu1⟩
 replace hE := hE.tr he1
 have hz_he1 := he1.size
 refine va rfl rfl ?_
 refine q_nil (k_then (wc_seq (wc_regionL ?_)))
 refine wl_val (ov_field0 (off := 2) fo23_2 rfl) rfl rfl rfl ?_
 refine wl_val (ov_loadAt oc3 rfl hb_g1 rfl) rfl rfl rfl ?_
 refine wl_val (ov_geq rfl rfl) rfl rfl rfl ?_
 refine wl_case_d (d := 5) rfl (fun h5 => ?_) (fun h5 => ?_)
 ·refine vm rfl rfl ?_
  refine wl_gval (ov_field0 (off := 2) fo23_2 rfl) rfl rfl rfl rfl rfl ?_
  refine wl_gval (ov_loadAt oc3 rfl hb_g1 rfl) rfl rfl rfl rfl rfl ?_
  refine wl_gval (ov_leq rfl rfl) rfl rfl rfl rfl rfl ?_
  refine wl_case_d (d := 9) rfl (fun h9 => ?_) (fun h9 => ?_)
  ·refine wl_val (ov_pick_t rfl rfl) rfl rfl rfl ?_
   refine vm rfl rfl ?_
   refine wl_gval (ov_field0 (off := 0) fo23_0 rfl) rfl rfl rfl rfl rfl ?_
   refine wl_gval (ov_loadAt oc3 rfl hb_g1 rfl) rfl rfl rfl rfl rfl ?_
   refine wl_gval (ov_field0 (off := 2) fo23_2 rfl) rfl rfl rfl rfl rfl ?_
   refine wl_gval (ov_loadAt oc3 rfl hb_g1 rfl) rfl rfl rfl rfl rfl ?_
   refine wl_gval (ov_add rfl rfl (wi64 (by omega) (by omega))) rfl rfl rfl rfl rfl ?_
   refine wl_gval (ov_geq rfl rfl) rfl rfl rfl rfl rfl ?_
   refine wl_case_d (d := 17) rfl (fun h17 => ?_) (fun h17 => ?_)
   ·refine wl_val (ov_pick_t rfl rfl) rfl rfl rfl ?_
    refine vm rfl rfl ?_
    refine wl_gval (ov_field0 (off := 0) fo23_0 rfl) rfl rfl rfl rfl rfl ?_
    refine wl_gval (ov_loadAt oc3 rfl hb_g1 rfl) rfl rfl rfl rfl rfl ?_
    refine wl_gval (ov_leq rfl rfl) rfl rfl rfl rfl rfl ?_
    refine wl_case_d (d := 22) rfl (fun h22 => ?_) (fun h22 => ?_)
    ·refine wl_val (ov_pick_t rfl rfl) rfl rfl rfl ?_
     refine vm rfl rfl ?_
     refine wl_gval (ov_field0 (off := 1) fo23_1 rfl) rfl rfl rfl rfl rfl ?_
     refine wl_gval (ov_loadAt oc3 rfl hb_g1 rfl) rfl rfl rfl rfl rfl ?_
     refine wl_gval (ov_geq rfl rfl) rfl rfl rfl rfl rfl ?_
     refine wl_case_d (d := 27) rfl (fun h27 => ?_) (fun h27 => ?_)
     ·refine wl_val (ov_pick_t rfl rfl) rfl rfl rfl ?_
      refine vm rfl rfl ?_
      refine wl_gval (ov_field0 (off := 1) fo23_1 rfl) rfl rfl rfl rfl rfl ?_
      refine wl_gval (ov_loadAt oc3 rfl hb_g1 rfl) rfl rfl rfl rfl rfl ?_
      refine wl_gval (ov_leq rfl rfl) rfl rfl rfl rfl rfl ?_
      refine wl_case_d (d := 32) rfl (fun h32 => ?_) (fun h32 => ?_)
      ·refine wl_val (ov_pick_t rfl rfl) rfl rfl rfl ?_
       refine va rfl rfl ?_
       refine q_nil (k_then (q_ret ?_))
       refine e_ret rfl rfl ?_
       first
        | (rw [decide_eq_true (show cfOk i o p from ⟨by omega, by omega, by omega, by omega, by omega, by omega⟩)]; exact ⟨rfl, hE⟩)
        | (rw [decide_eq_false (show ¬ cfOk i o p from fun q => by obtain ⟨q1, q2, q3, q4, q5, q6⟩ := q; omega)]; exact ⟨rfl, hE⟩)
      ·refine wl_val (ov_pick_t rfl rfl) rfl rfl rfl ?_
       refine va rfl rfl ?_
       refine q_nil (k_then (q_ret ?_))
       refine e_ret rfl rfl ?_
       first
        | (rw [decide_eq_true (show cfOk i o p from ⟨by omega, by omega, by omega, by omega, by omega, by omega⟩)]; exact ⟨rfl, hE⟩)
        | (rw [decide_eq_false (show ¬ cfOk i o p from fun q => by obtain ⟨q1, q2, q3, q4, q5, q6⟩ := q; omega)]; exact ⟨rfl, hE⟩)
     ·refine wl_val (ov_pick_t rfl rfl) rfl rfl rfl ?_
      refine vm rfl rfl ?_
      iterate 3 refine wl_gskip rfl rfl rfl rfl rfl rfl ?_
      refine wl_val (ov_pick_f rfl rfl) rfl rfl rfl ?_
      refine va rfl rfl ?_
      refine q_nil (k_then (q_ret ?_))
      refine e_ret rfl rfl ?_
      first
       | (rw [decide_eq_true (show cfOk i o p from ⟨by omega, by omega, by omega, by omega, by omega, by omega⟩)]; exact ⟨rfl, hE⟩)
       | (rw [decide_eq_false (show ¬ cfOk i o p from fun q => by obtain ⟨q1, q2, q3, q4, q5, q6⟩ := q; omega)]; exact ⟨rfl, hE⟩)
    ·refine wl_val (ov_pick_t rfl rfl) rfl rfl rfl ?_
     refine vm rfl rfl ?_
     iterate 3 refine wl_gskip rfl rfl rfl rfl rfl rfl ?_
     refine wl_val (ov_pick_f rfl rfl) rfl rfl rfl ?_
     refine vm rfl rfl ?_
     iterate 3 refine wl_gskip rfl rfl rfl rfl rfl rfl ?_
     refine wl_val (ov_pick_f rfl rfl) rfl rfl rfl ?_
     refine va rfl rfl ?_
     refine q_nil (k_then (q_ret ?_))
     refine e_ret rfl rfl ?_
     first
      | (rw [decide_eq_true (show cfOk i o p from ⟨by omega, by omega, by omega, by omega, by omega, by omega⟩)]; exact ⟨rfl, hE⟩)
      | (rw [decide_eq_false (show ¬ cfOk i o p from fun q => by obtain ⟨q1, q2, q3, q4, q5, q6⟩ := q; omega)]; exact ⟨rfl, hE⟩)
   ·refine wl_val (ov_pick_t rfl rfl) rfl rfl rfl ?_
    refine vm rfl rfl ?_
    iterate 3 refine wl_gskip rfl rfl rfl rfl rfl rfl ?_
    refine wl_val (ov_pick_f rfl rfl) rfl rfl rfl ?_
    refine vm rfl rfl ?_
    iterate 3 refine wl_gskip rfl rfl rfl rfl rfl rfl ?_
    refine wl_val (ov_pick_f rfl rfl) rfl rfl rfl ?_
    refine vm rfl rfl ?_
    iterate 3 refine wl_gskip rfl rfl rfl rfl rfl rfl ?_
    refine wl_val (ov_pick_f rfl rfl) rfl rfl rfl ?_
    refine va rfl rfl ?_
    refine q_nil (k_then (q_ret ?_))
    refine e_ret rfl rfl ?_
    first
     | (rw [decide_eq_true (show cfOk i o p from ⟨by omega, by omega, by omega, by omega, by omega, by omega⟩)]; exact ⟨rfl, hE⟩)
     | (rw [decide_eq_false (show ¬ cfOk i o p from fun q => by obtain ⟨q1, q2, q3, q4, q5, q6⟩ := q; omega)]; exact ⟨rfl, hE⟩)
  ·refine wl_val (ov_pick_t rfl rfl) rfl rfl rfl ?_
   refine vm rfl rfl ?_
   iterate 6 refine wl_gskip rfl rfl rfl rfl rfl rfl ?_
   refine wl_val (ov_pick_f rfl rfl) rfl rfl rfl ?_
   refine vm rfl rfl ?_
   iterate 3 refine wl_gskip rfl rfl rfl rfl rfl rfl ?_
   refine wl_val (ov_pick_f rfl rfl) rfl rfl rfl ?_
   refine vm rfl rfl ?_
   iterate 3 refine wl_gskip rfl rfl rfl rfl rfl rfl ?_
   refine wl_val (ov_pick_f rfl rfl) rfl rfl rfl ?_
   refine vm rfl rfl ?_
   iterate 3 refine wl_gskip rfl rfl rfl rfl rfl rfl ?_
   refine wl_val (ov_pick_f rfl rfl) rfl rfl rfl ?_
   refine va rfl rfl ?_
   refine q_nil (k_then (q_ret ?_))
   refine e_ret rfl rfl ?_
   first
    | (rw [decide_eq_true (show cfOk i o p from ⟨by omega, by omega, by omega, by omega, by omega, by omega⟩)]; exact ⟨rfl, hE⟩)
    | (rw [decide_eq_false (show ¬ cfOk i o p from fun q => by obtain ⟨q1, q2, q3, q4, q5, q6⟩ := q; omega)]; exact ⟨rfl, hE⟩)
 ·refine vm rfl rfl ?_
  iterate 3 refine wl_gskip rfl rfl rfl rfl rfl rfl ?_
  refine wl_val (ov_pick_f rfl rfl) rfl rfl rfl ?_
  refine vm rfl rfl ?_
  iterate 6 refine wl_gskip rfl rfl rfl rfl rfl rfl ?_
  refine wl_val (ov_pick_f rfl rfl) rfl rfl rfl ?_
  refine vm rfl rfl ?_
  iterate 3 refine wl_gskip rfl rfl rfl rfl rfl rfl ?_
  refine wl_val (ov_pick_f rfl rfl) rfl rfl rfl ?_
  refine vm rfl rfl ?_
  iterate 3 refine wl_gskip rfl rfl rfl rfl rfl rfl ?_
  refine wl_val (ov_pick_f rfl rfl) rfl rfl rfl ?_
  refine vm rfl rfl ?_
  iterate 3 refine wl_gskip rfl rfl rfl rfl rfl rfl ?_
  refine wl_val (ov_pick_f rfl rfl) rfl rfl rfl ?_
  refine va rfl rfl ?_
  refine q_nil (k_then (q_ret ?_))
  refine e_ret rfl rfl ?_
  first
   | (rw [decide_eq_true (show cfOk i o p from ⟨by omega, by omega, by omega, by omega, by omega, by omega⟩)]; exact ⟨rfl, hE⟩)
   | (rw [decide_eq_false (show ¬ cfOk i o p from fun q => by obtain ⟨q1, q2, q3, q4, q5, q6⟩ := q; omega)]; exact ⟨rfl, hE⟩)
end Go.Proofs.YtiighkbehiddkaaGreat