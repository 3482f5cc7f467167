/-
 The walk of ConnHolds.
-/
import Derived.Test.YtiighkbehiddkaaGreatCp
namespace Go.Proofs.YtiighkbehiddkaaGreat
open Go.RowKit
set_option linter.unusedVariables false
set_option maxRecDepth 4000
theorem cl10 : callable Tryz.prog 10 = true := by kernel_rfl
theorem cl31 : callable Tryz.prog 31 = true := by kernel_rfl
theorem cl8 : callable Tryz.prog 8 = true := by kernel_rfl
theorem connHolds_a (w : World) (i o p : Int) (hi1 : -9223372036854775808 ≤ i) (hi2 : i ≤ 9223372036854775807) (ho1 : -9223372036854775808 ≤ o) (ho2 : o ≤ 9223372036854775807) (hp1 : -9223372036854775808 ≤ p) (hp2 : p ≤ 9223372036854775807) (b : List UInt8) (lo1 hj1 : Nat) (B1 : Option Addr) (c1 : Nat) (hr1 : RdB w lo1 hj1 B1 c1 b) (zs : List UInt8) (lo2 hj2 : Nat) (B2 : Option Addr) (c2 : Nat) (hr2 : RdB w lo2 hj2 B2 c2 zs) (h : ¬ cfOk i o p) :
  Fn Tryz.prog 7 #[(.agg #[(.int .i64 i), (.int .i64 o), (.int .i64 p)]), (.slice B1 b.length c1), (.slice B2 zs.length c2)] w (fun v w' => v = .bool true ∧ Ext w w')  := by
 have hE := ext_refl w
 refine fn_enter (args := [(.agg #[(.int .i64 i), (.int .i64 o), (.int .i64 p)]), (.slice B1 b.length c1), (.slice B2 zs.length c2)]) Tryz.func7 rfl rfl rfl ?_
 show WC _ _ _ _ [(0, (.agg #[(.int .i64 i), (.int .i64 o), (.int .i64 p)])), (1, (.slice B1 b.length c1)), (2, (.slice B2 zs.length c2))] _
 refine wc_seq (wc_regionL ?_)
 refine wl_step (or_box (cs := [(.int .i64 i), (.int .i64 o), (.int .i64 p)]) rfl rfl) rfl rfl rfl ?_
 rintro v w1 ⟨g3, rfl, hb_g3, he3, hl3, hu3⟩
 replace hE := hE.tr he3
 have hz_he3 := he3.size
 refine va rfl rfl ?_
 refine q_nil (k_then (wc_seq (wc_seq (wc_regionL ?_))))
 refine wl_val (ov_loadBlk (cs := [(.int .i64 i), (.int .i64 o), (.int .i64 p)]) ag23_3 rfl hb_g3) rfl rfl rfl ?_
 refine wl_step (or_call0 cl8 rfl rfl (rvalid28_any _ i o p hi1 hi2 ho1 ho2 hp1 hp2)) rfl rfl rfl ?_
 rintro v w2 ⟨rfl, he17⟩
 replace hE := hE.tr he17
 have hz_he17 := he17.size
 refine wl_spell (d := 17) rfl (bf (h)) ?_
 refine wl_val (ov_not (b := false) rfl) rfl rfl rfl ?_
 refine vm rfl rfl ?_
 iterate 3 refine wl_gskip rfl rfl rfl rfl rfl rfl ?_
 refine wl_val (ov_pick_t rfl rfl) rfl rfl rfl ?_
 refine vm rfl rfl ?_
 iterate 3 refine wl_gskip rfl rfl rfl rfl rfl rfl ?_
 refine wl_val (ov_pick_t rfl rfl) rfl rfl rfl ?_
 refine vm rfl rfl ?_
 iterate 3 refine wl_gskip rfl rfl rfl rfl rfl rfl ?_
 refine wl_val (ov_pick_t rfl rfl) rfl rfl rfl ?_
 refine vm rfl rfl ?_
 iterate 3 refine wl_gskip rfl rfl rfl rfl rfl rfl ?_
 refine wl_val (ov_pick_t rfl rfl) rfl rfl rfl ?_
 refine q_nil (k_then ?_)
 refine wc_cond_t rfl ?_
 refine wc_seq (wc_regionL ?_)
 refine wl_step (or_call0 cl10 rfl rfl (known28_any _)) rfl rfl rfl ?_
 rintro v w3 ⟨rfl, he39⟩
 replace hE := hE.tr he39
 have hz_he39 := he39.size
 refine va rfl rfl ?_
 refine q_nil (k_then (q_ret (k_thenR ?_)))
 refine e_ret rfl rfl ?_
 exact ⟨rfl, hE⟩
theorem connHolds_b (w : World) (i o p : Int) (hi1 : -9223372036854775808 ≤ i) (hi2 : i ≤ 9223372036854775807) (ho1 : -9223372036854775808 ≤ o) (ho2 : o ≤ 9223372036854775807) (hp1 : -9223372036854775808 ≤ p) (hp2 : p ≤ 9223372036854775807) (b : List UInt8) (lo1 hj1 : Nat) (B1 : Option Addr) (c1 : Nat) (hr1 : RdB w lo1 hj1 B1 c1 b) (zs : List UInt8) (lo2 hj2 : Nat) (B2 : Option Addr) (c2 : Nat) (hr2 : RdB w lo2 hj2 B2 c2 zs) (h0 : ¬ ¬ cfOk i o p) (h : 2000 < i) :
  Fn Tryz.prog 7 #[(.agg #[(.int .i64 i), (.int .i64 o), (.int .i64 p)]), (.slice B1 b.length c1), (.slice B2 zs.length c2)] w (fun v w' => v = .bool true ∧ Ext w w')  := by
 have hE := ext_refl w
 refine fn_enter (args := [(.agg #[(.int .i64 i), (.int .i64 o), (.int .i64 p)]), (.slice B1 b.length c1), (.slice B2 zs.length c2)]) Tryz.func7 rfl rfl rfl ?_
 show WC _ _ _ _ [(0, (.agg #[(.int .i64 i), (.int .i64 o), (.int .i64 p)])), (1, (.slice B1 b.length c1)), (2, (.slice B2 zs.length c2))] _
 refine wc_seq (wc_regionL ?_)
 refine wl_step (or_box (cs := [(.int .i64 i), (.int .i64 o), (.int .i64 p)]) rfl rfl) rfl rfl rfl ?_
 rintro v w1 ⟨g3, rfl, hb_g3, he3, hl3, hu3⟩
 replace hE := hE.tr he3
 have hz_he3 := he3.size
 refine va rfl rfl ?_
 refine q_nil (k_then (wc_seq (wc_seq (wc_regionL ?_))))
 refine wl_val (ov_loadBlk (cs := [(.int .i64 i), (.int .i64 o), (.int .i64 p)]) ag23_3 rfl hb_g3) rfl rfl rfl ?_
 refine wl_step (or_call0 cl8 rfl rfl (rvalid28_any _ i o p hi1 hi2 ho1 ho2 hp1 hp2)) rfl rfl rfl ?_
 rintro v w2 ⟨rfl, he17⟩
 replace hE := hE.tr he17
 replace hb_g3 := hb_g3.ext he17
 have hz_he17 := he17.size
 refine wl_spell (d := 17) rfl (bt (Decidable.not_not.1 h0)) ?_
 refine wl_val (ov_not (b := true) rfl) rfl rfl rfl ?_
 refine vm rfl rfl ?_
 refine wl_gval (ov_field0 (off := 0) fo23_0 rfl) rfl rfl rfl rfl rfl ?_
 refine wl_gval (ov_loadAt oc3 rfl hb_g3 rfl) rfl rfl rfl rfl rfl ?_
 refine wl_gval (ov_gtr rfl rfl) rfl rfl rfl rfl rfl ?_
 refine wl_spell (d := 22) rfl (bt (by omega)) ?_
 refine wl_val (ov_pick_f rfl rfl) rfl rfl rfl ?_
 refine vm rfl rfl ?_
 iterate 3 refine wl_gskip rfl rfl rfl rfl rfl rfl ?_
 refine wl_val (ov_pick_t rfl rfl) rfl rfl rfl ?_
 refine vm rfl rfl ?_
 iterate 3 refine wl_gskip rfl rfl rfl rfl rfl rfl ?_
 refine wl_val (ov_pick_t rfl rfl) rfl rfl rfl ?_
 refine vm rfl rfl ?_
 iterate 3 refine wl_gskip rfl rfl rfl rfl rfl rfl ?_
 refine wl_val (ov_pick_t rfl rfl) rfl rfl rfl ?_
 refine q_nil (k_then ?_)
 refine wc_cond_t rfl ?_
 refine wc_seq (wc_regionL ?_)
 refine wl_step (or_call0 cl10 rfl rfl (known28_any _)) rfl rfl rfl ?_
 rintro v w3 ⟨rfl, he39⟩
 replace hE := hE.tr he39
 have hz_he39 := he39.size
 refine va rfl rfl ?_
 refine q_nil (k_then (q_ret (k_thenR ?_)))
 refine e_ret rfl rfl ?_
 exact ⟨rfl, hE⟩
theorem connHolds_c (w : World) (i o p : Int) (hi1 : -9223372036854775808 ≤ i) (hi2 : i ≤ 9223372036854775807) (ho1 : -9223372036854775808 ≤ o) (ho2 : o ≤ 9223372036854775807) (hp1 : -9223372036854775808 ≤ p) (hp2 : p ≤ 9223372036854775807) (b : List UInt8) (lo1 hj1 : Nat) (B1 : Option Addr) (c1 : Nat) (hr1 : RdB w lo1 hj1 B1 c1 b) (zs : List UInt8) (lo2 hj2 : Nat) (B2 : Option Addr) (c2 : Nat) (hr2 : RdB w lo2 hj2 B2 c2 zs) (h0 : ¬ ¬ cfOk i o p) (h1 : ¬ 2000 < i) (h : 2000 < o) :
  Fn Tryz.prog 7 #[(.agg #[(.int .i64 i), (.int .i64 o), (.int .i64 p)]), (.slice B1 b.length c1), (.slice B2 zs.length c2)] w (fun v w' => v = .bool true ∧ Ext w w')  := by
 have hE := ext_refl w
 refine fn_enter (args := [(.agg #[(.int .i64 i), (.int .i64 o), (.int .i64 p)]), (.slice B1 b.length c1), (.slice B2 zs.length c2)]) Tryz.func7 rfl rfl rfl ?_
 show WC _ _ _ _ [(0, (.agg #[(.int .i64 i), (.int .i64 o), (.int .i64 p)])), (1, (.slice B1 b.length c1)), (2, (.slice B2 zs.length c2))] _
 refine wc_seq (wc_regionL ?_)
 refine wl_step (or_box (cs := [(.int .i64 i), (.int .i64 o), (.int .i64 p)]) rfl rfl) rfl rfl rfl ?_
 rintro v w1 ⟨g3, rfl, hb_g3, he3, hl3, hu3⟩
 replace hE := hE.tr he3
 have hz_he3 := he3.size
 refine va rfl rfl ?_
 refine q_nil (k_then (wc_seq (wc_seq (wc_regionL ?_))))
 refine wl_val (ov_loadBlk (cs := [(.int .i64 i), (.int .i64 o), (.int .i64 p)]) ag23_3 rfl hb_g3) rfl rfl rfl ?_
 refine wl_step (or_call0 cl8 rfl rfl (rvalid28_any _ i o p hi1 hi2 ho1 ho2 hp1 hp2)) rfl rfl rfl ?_
 rintro v w2 ⟨rfl, he17⟩
 replace hE := hE.tr he17
 replace hb_g3 := hb_g3.ext he17
 have hz_he17 := he17.size
 refine wl_spell (d := 17) rfl (bt (Decidable.not_not.1 h0)) ?_
 refine wl_val (ov_not (b := true) rfl) rfl rfl rfl ?_
 refine vm rfl rfl ?_
 refine wl_gval (ov_field0 (off := 0) fo23_0 rfl) rfl rfl rfl rfl rfl ?_
 refine wl_gval (ov_loadAt oc3 rfl hb_g3 rfl) rfl rfl rfl rfl rfl ?_
 refine wl_gval (ov_gtr rfl rfl) rfl rfl rfl rfl rfl ?_
 refine wl_spell (d := 22) rfl (bf (by omega)) ?_
 refine wl_val (ov_pick_f rfl rfl) rfl rfl rfl ?_
 refine vm rfl rfl ?_
 refine wl_gval (ov_field0 (off := 1) fo23_1 rfl) rfl rfl rfl rfl rfl ?_
 refine wl_gval (ov_loadAt oc3 rfl hb_g3 rfl) rfl rfl rfl rfl rfl ?_
 refine wl_gval (ov_gtr rfl rfl) rfl rfl rfl rfl rfl ?_
 refine wl_spell (d := 27) rfl (bt (by omega)) ?_
 refine wl_val (ov_pick_f rfl rfl) rfl rfl rfl ?_
 refine vm rfl rfl ?_
 iterate 3 refine wl_gskip rfl rfl rfl rfl rfl rfl ?_
 refine wl_val (ov_pick_t rfl rfl) rfl rfl rfl ?_
 refine vm rfl rfl ?_
 iterate 3 refine wl_gskip rfl rfl rfl rfl rfl rfl ?_
 refine wl_val (ov_pick_t rfl rfl) rfl rfl rfl ?_
 refine q_nil (k_then ?_)
 refine wc_cond_t rfl ?_
 refine wc_seq (wc_regionL ?_)
 refine wl_step (or_call0 cl10 rfl rfl (known28_any _)) rfl rfl rfl ?_
 rintro v w3 ⟨rfl, he39⟩
 replace hE := hE.tr he39
 have hz_he39 := he39.size
 refine va rfl rfl ?_
 refine q_nil (k_then (q_ret (k_thenR ?_)))
 refine e_ret rfl rfl ?_
 exact ⟨rfl, hE⟩
theorem connHolds_d (w : World) (i o p : Int) (hi1 : -9223372036854775808 ≤ i) (hi2 : i ≤ 9223372036854775807) (ho1 : -9223372036854775808 ≤ o) (ho2 : o ≤ 9223372036854775807) (hp1 : -9223372036854775808 ≤ p) (hp2 : p ≤ 9223372036854775807) (b : List UInt8) (lo1 hj1 : Nat) (B1 : Option Addr) (c1 : Nat) (hr1 : RdB w lo1 hj1 B1 c1 b) (zs : List UInt8) (lo2 hj2 : Nat) (B2 : Option Addr) (c2 : Nat) (hr2 : RdB w lo2 hj2 B2 c2 zs) (h0 : ¬ ¬ cfOk i o p) (h1 : ¬ 2000 < i) (h2 : ¬ 2000 < o) (h : 300 < b.length) :
  Fn Tryz.prog 7 #[(.agg #[(.int .i64 i), (.int .i64 o), (.int .i64 p)]), (.slice B1 b.length c1), (.slice B2 zs.length c2)] w (fun v w' => v = .bool true ∧ Ext w w')  := by
 have hE := ext_refl w
 refine fn_enter (args := [(.agg #[(.int .i64 i), (.int .i64 o), (.int .i64 p)]), (.slice B1 b.length c1), (.slice B2 zs.length c2)]) Tryz.func7 rfl rfl rfl ?_
 show WC _ _ _ _ [(0, (.agg #[(.int .i64 i), (.int .i64 o), (.int .i64 p)])), (1, (.slice B1 b.length c1)), (2, (.slice B2 zs.length c2))] _
 refine wc_seq (wc_regionL ?_)
 refine wl_step (or_box (cs := [(.int .i64 i), (.int .i64 o), (.int .i64 p)]) rfl rfl) rfl rfl rfl ?_
 rintro v w1 ⟨g3, rfl, hb_g3, he3, hl3, hu3⟩
 replace hE := hE.tr he3
 have hz_he3 := he3.size
 refine va rfl rfl ?_
 refine q_nil (k_then (wc_seq (wc_seq (wc_regionL ?_))))
 refine wl_val (ov_loadBlk (cs := [(.int .i64 i), (.int .i64 o), (.int .i64 p)]) ag23_3 rfl hb_g3) rfl rfl rfl ?_
 refine wl_step (or_call0 cl8 rfl rfl (rvalid28_any _ i o p hi1 hi2 ho1 ho2 hp1 hp2)) rfl rfl rfl ?_
 rintro v w2 ⟨rfl, he17⟩
 replace hE := hE.tr he17
 replace hb_g3 := hb_g3.ext he17
 have hz_he17 := he17.size
 refine wl_spell (d := 17) rfl (bt (Decidable.not_not.1 h0)) ?_
 refine wl_val (ov_not (b := true) rfl) rfl rfl rfl ?_
 refine vm rfl rfl ?_
 refine wl_gval (ov_field0 (off := 0) fo23_0 rfl) rfl rfl rfl rfl rfl ?_
 refine wl_gval (ov_loadAt oc3 rfl hb_g3 rfl) rfl rfl rfl rfl rfl ?_
 refine wl_gval (ov_gtr rfl rfl) rfl rfl rfl rfl rfl ?_
 refine wl_spell (d := 22) rfl (bf (by omega)) ?_
 refine wl_val (ov_pick_f rfl rfl) rfl rfl rfl ?_
 refine vm rfl rfl ?_
 refine wl_gval (ov_field0 (off := 1) fo23_1 rfl) rfl rfl rfl rfl rfl ?_
 refine wl_gval (ov_loadAt oc3 rfl hb_g3 rfl) rfl rfl rfl rfl rfl ?_
 refine wl_gval (ov_gtr rfl rfl) rfl rfl rfl rfl rfl ?_
 refine wl_spell (d := 27) rfl (bf (by omega)) ?_
 refine wl_val (ov_pick_f rfl rfl) rfl rfl rfl ?_
 refine vm rfl rfl ?_
 refine wl_gval (ov_move rfl) rfl rfl rfl rfl rfl ?_
 refine wl_gval (ov_len Tryz.underlying32 rfl) rfl rfl rfl rfl rfl ?_
 refine wl_gval (ov_gtr rfl rfl) rfl rfl rfl rfl rfl ?_
 refine wl_spell (d := 32) rfl (bt (by omega)) ?_
 refine wl_val (ov_pick_f rfl rfl) rfl rfl rfl ?_
 refine vm rfl rfl ?_
 iterate 3 refine wl_gskip rfl rfl rfl rfl rfl rfl ?_
 refine wl_val (ov_pick_t rfl rfl) rfl rfl rfl ?_
 refine q_nil (k_then ?_)
 refine wc_cond_t rfl ?_
 refine wc_seq (wc_regionL ?_)
 refine wl_step (or_call0 cl10 rfl rfl (known28_any _)) rfl rfl rfl ?_
 rintro v w3 ⟨rfl, he39⟩
 replace hE := hE.tr he39
 have hz_he39 := he39.size
 refine va rfl rfl ?_
 refine q_nil (k_then (q_ret (k_thenR ?_)))
 refine e_ret rfl rfl ?_
 exact ⟨rfl, hE⟩
theorem connHolds_e (w : World) (i o p : Int) (hi1 : -9223372036854775808 ≤ i) (hi2 : i ≤ 9223372036854775807) (ho1 : -9223372036854775808 ≤ o) (ho2 : o ≤ 9223372036854775807) (hp1 : -9223372036854775808 ≤ p) (hp2 : p ≤ 9223372036854775807) (b : List UInt8) (lo1 hj1 : Nat) (B1 : Option Addr) (c1 : Nat) (hr1 : RdB w lo1 hj1 B1 c1 b) (zs : List UInt8) (lo2 hj2 : Nat) (B2 : Option Addr) (c2 : Nat) (hr2 : RdB w lo2 hj2 B2 c2 zs) (h0 : ¬ ¬ cfOk i o p) (h1 : ¬ 2000 < i) (h2 : ¬ 2000 < o) (h3 : ¬ 300 < b.length) (h : 20 < zs.length) :
  Fn Tryz.prog 7 #[(.agg #[(.int .i64 i), (.int .i64 o), (.int .i64 p)]), (.slice B1 b.length c1), (.slice B2 zs.length c2)] w (fun v w' => v = .bool true ∧ Ext w w')  := by
 have hE := ext_refl w
 refine fn_enter (args := [(.agg #[(.int .i64 i), (.int .i64 o), (.int .i64 p)]), (.slice B1 b.length c1), (.slice B2 zs.length c2)]) Tryz.func7 rfl rfl rfl ?_
 show WC _ _ _ _ [(0, (.agg #[(.int .i64 i), (.int .i64 o), (.int .i64 p)])), (1, (.slice B1 b.length c1)), (2, (.slice B2 zs.length c2))] _
 refine wc_seq (wc_regionL ?_)
 refine wl_step (or_box (cs := [(.int .i64 i), (.int .i64 o), (.int .i64 p)]) rfl rfl) rfl rfl rfl ?_
 rintro v w1 ⟨g3, rfl, hb_g3, he3, hl3, hu3⟩
 replace hE := hE.tr he3
 have hz_he3 := he3.size
 refine va rfl rfl ?_
 refine q_nil (k_then (wc_seq (wc_seq (wc_regionL ?_))))
 refine wl_val (ov_loadBlk (cs := [(.int .i64 i), (.int .i64 o), (.int .i64 p)]) ag23_3 rfl hb_g3) rfl rfl rfl ?_
 refine wl_step (or_call0 cl8 rfl rfl (rvalid28_any _ i o p hi1 hi2 ho1 ho2 hp1 hp2)) rfl rfl rfl ?_
 rintro v w2 ⟨rfl, he17⟩
 replace hE := hE.tr he17
 replace hb_g3 := hb_g3.ext he17
 have hz_he17 := he17.size
 refine wl_spell (d := 17) rfl (bt (Decidable.not_not.1 h0)) ?_
 refine wl_val (ov_not (b := true) rfl) rfl rfl rfl ?_
 refine vm rfl rfl ?_
 refine wl_gval (ov_field0 (off := 0) fo23_0 rfl) rfl rfl rfl rfl rfl ?_
 refine wl_gval (ov_loadAt oc3 rfl hb_g3 rfl) rfl rfl rfl rfl rfl ?_
 refine wl_gval (ov_gtr rfl rfl) rfl rfl rfl rfl rfl ?_
 refine wl_spell (d := 22) rfl (bf (by omega)) ?_
 refine wl_val (ov_pick_f rfl rfl) rfl rfl rfl ?_
 refine vm rfl rfl ?_
 refine wl_gval (ov_field0 (off := 1) fo23_1 rfl) rfl rfl rfl rfl rfl ?_
 refine wl_gval (ov_loadAt oc3 rfl hb_g3 rfl) rfl rfl rfl rfl rfl ?_
 refine wl_gval (ov_gtr rfl rfl) rfl rfl rfl rfl rfl ?_
 refine wl_spell (d := 27) rfl (bf (by omega)) ?_
 refine wl_val (ov_pick_f rfl rfl) rfl rfl rfl ?_
 refine vm rfl rfl ?_
 refine wl_gval (ov_move rfl) rfl rfl rfl rfl rfl ?_
 refine wl_gval (ov_len Tryz.underlying32 rfl) rfl rfl rfl rfl rfl ?_
 refine wl_gval (ov_gtr rfl rfl) rfl rfl rfl rfl rfl ?_
 refine wl_spell (d := 32) rfl (bf (by omega)) ?_
 refine wl_val (ov_pick_f rfl rfl) rfl rfl rfl ?_
 refine vm rfl rfl ?_
 refine wl_gval (ov_move rfl) rfl rfl rfl rfl rfl ?_
 refine wl_gval (ov_len Tryz.underlying32 rfl) rfl rfl rfl rfl rfl ?_
 refine wl_gval (ov_gtr rfl rfl) rfl rfl rfl rfl rfl ?_
 refine wl_spell (d := 37) rfl (bt (by omega)) ?_
 refine wl_val (ov_pick_f rfl rfl) rfl rfl rfl ?_
 refine q_nil (k_then ?_)
 refine wc_cond_t rfl ?_
 refine wc_seq (wc_regionL ?_)
 refine wl_step (or_call0 cl10 rfl rfl (known28_any _)) rfl rfl rfl ?_
 rintro v w3 ⟨rfl, he39⟩
 replace hE := hE.tr he39
 have hz_he39 := he39.size
 refine va rfl rfl ?_
 refine q_nil (k_then (q_ret (k_thenR ?_)))
 refine e_ret rfl rfl ?_
 exact ⟨rfl, hE⟩
theorem connHolds_g (w : World) (i o p : Nat) (hc : 16 ≤ p ∧ p ≤ 2097152 ∧ p + 8 ≤ i ∧ i ≤ 4194304 ∧ 64 ≤ o ∧ o ≤ 1048576) (hq1 : i ≤ 2000) (hq2 : o ≤ 2000)  (b : List UInt8) (lo1 hi1 : Nat) (B1 : Option Addr) (c1 : Nat) (hr1 : RdB w lo1 hi1 B1 c1 b) (zs : List UInt8) (lo2 hi2 : Nat) (B2 : Option Addr) (c2 : Nat) (hr2 : RdB w lo2 hi2 B2 c2 zs) (hb3 : b.length ≤ 300) (hz3 : zs.length ≤ 20) :
  Fn Tryz.prog 7 #[(.agg #[(.int .i64 (↑i : Int)), (.int .i64 (↑o : Int)), (.int .i64 (↑p : Int))]), (.slice B1 b.length c1), (.slice B2 zs.length c2)] w (fun v w' => v = .bool true ∧ Ext w w')  := by
 have hE := ext_refl w
 have hcf : cfOk (i : Int) (o : Int) (p : Int) := by unfold cfOk; omega
 refine fn_enter (args := [(.agg #[(.int .i64 (↑i : Int)), (.int .i64 (↑o : Int)), (.int .i64 (↑p : Int))]), (.slice B1 b.length c1), (.slice B2 zs.length c2)]) Tryz.func7 rfl rfl rfl ?_
 show WC _ _ _ _ [(0, (.agg #[(.int .i64 (↑i : Int)), (.int .i64 (↑o : Int)), (.int .i64 (↑p : Int))])), (1, (.slice B1 b.length c1)), (2, (.slice B2 zs.length c2))] _
 refine wc_seq (wc_regionL ?_)
 refine wl_step (or_box (cs := [(.int .i64 (↑i : Int)), (.int .i64 (↑o : Int)), (.int .i64 (↑p : Int))]) rfl rfl) rfl rfl rfl ?_
 rintro v w1 ⟨g3, rfl, hb_g3, he3, hl3, hu3⟩
 replace hE := hE.tr he3
 replace hr1 := hr1.ext he3
 replace hr2 := hr2.ext he3
 have hz_he3 := he3.size
 refine va rfl rfl ?_
 refine q_nil (k_then (wc_seq (wc_seq (wc_regionL ?_))))
 refine wl_val (ov_loadBlk (cs := [(.int .i64 (↑i : Int)), (.int .i64 (↑o : Int)), (.int .i64 (↑p : Int))]) ag23_3 rfl hb_g3) rfl rfl rfl ?_
 refine wl_step (or_call0 cl8 rfl rfl (rvalid28_any _ (↑i : Int) (↑o : Int) (↑p : Int) (by omega) (by omega) (by omega) (by omega) (by omega) (by omega))) rfl rfl rfl ?_
 rintro v w2 ⟨rfl, he17⟩
 replace hE := hE.tr he17
 replace hr1 := hr1.ext he17
 replace hr2 := hr2.ext he17
 replace hb_g3 := hb_g3.ext he17
 have hz_he17 := he17.size
 refine wl_spell (d := 17) rfl (bt (hcf)) ?_
 refine wl_val (ov_not (b := true) rfl) rfl rfl rfl ?_
 refine vm rfl rfl ?_
 refine wl_gval (ov_field0 (off := 0) fo23_0 rfl) rfl rfl rfl rfl rfl ?_
 refine wl_gval (ov_loadAt oc3 rfl hb_g3 rfl) rfl rfl rfl rfl rfl ?_
 refine wl_gval (ov_gtr rfl rfl) rfl rfl rfl rfl rfl ?_
 refine wl_spell (d := 22) rfl (bf (by omega)) ?_
 refine wl_val (ov_pick_f rfl rfl) rfl rfl rfl ?_
 refine vm rfl rfl ?_
 refine wl_gval (ov_field0 (off := 1) fo23_1 rfl) rfl rfl rfl rfl rfl ?_
 refine wl_gval (ov_loadAt oc3 rfl hb_g3 rfl) rfl rfl rfl rfl rfl ?_
 refine wl_gval (ov_gtr rfl rfl) rfl rfl rfl rfl rfl ?_
 refine wl_spell (d := 27) rfl (bf (by omega)) ?_
 refine wl_val (ov_pick_f rfl rfl) rfl rfl rfl ?_
 refine vm rfl rfl ?_
 refine wl_gval (ov_move rfl) rfl rfl rfl rfl rfl ?_
 refine wl_gval (ov_len Tryz.underlying32 rfl) rfl rfl rfl rfl rfl ?_
 refine wl_gval (ov_gtr rfl rfl) rfl rfl rfl rfl rfl ?_
 refine wl_spell (d := 32) rfl (bf (by omega)) ?_
 refine wl_val (ov_pick_f rfl rfl) rfl rfl rfl ?_
 refine vm rfl rfl ?_
 refine wl_gval (ov_move rfl) rfl rfl rfl rfl rfl ?_
 refine wl_gval (ov_len Tryz.underlying32 rfl) rfl rfl rfl rfl rfl ?_
 refine wl_gval (ov_gtr rfl rfl) rfl rfl rfl rfl rfl ?_
 refine wl_spell (d := 37) rfl (bf (by omega)) ?_
 refine wl_val (ov_pick_f rfl rfl) rfl rfl rfl ?_
 refine q_nil (k_then ?_)
 refine wc_cond_f rfl ?_
 refine q_skip (k_then (wc_seq (wc_regionL ?_)))
 refine wl_val (ov_loadBlk (cs := [(.int .i64 (↑i : Int)), (.int .i64 (↑o : Int)), (.int .i64 (↑p : Int))]) ag23_3 rfl hb_g3) rfl rfl rfl ?_
 refine vm rfl rfl ?_
 obtain ⟨L43, hL43⟩ : ∃ n, n = w2.heap.size := ⟨_, rfl⟩
 refine wl_step (or_call0 cl31 rfl rfl (run28_any _ i o p hc b hb3 _ _ B1 c1 hr1 [] 0 0 none 0 (RdB.nil _ 0 0))) rfl rfl rfl ?_
 rintro v w3 ⟨X43, cx43, xs43, A43, cA43, rfl, hm43, hl43, hX43, hA43, hxr43, he43⟩
 replace hE := hE.tr he43
 replace hr1 := hr1.ext he43
 replace hr2 := hr2.ext he43
 replace hb_g3 := hb_g3.ext he43
 have hz_he43 := he43.size
 obtain ⟨H43, hH43⟩ : ∃ n, n = w3.heap.size := ⟨_, rfl⟩
 rw [← hL43, ← hH43] at hX43 hA43 hxr43
 refine vm rfl rfl ?_
 iterate 4 refine vx rfl rfl rfl ?_
 iterate 4 refine va rfl rfl ?_
 refine q_nil (k_then (wc_seq (wc_regionL ?_)))
 refine wl_val (ov_loadBlk (cs := [(.int .i64 (↑i : Int)), (.int .i64 (↑o : Int)), (.int .i64 (↑p : Int))]) ag23_3 rfl hb_g3) rfl rfl rfl ?_
 iterate 2 refine vm rfl rfl ?_
 obtain ⟨L52, hL52⟩ : ∃ n, n = w3.heap.size := ⟨_, rfl⟩
 refine wl_step (or_call0 cl31 rfl rfl (run28_any _ i o p hc b hb3 _ _ B1 c1 hr1 zs _ _ B2 c2 hr2)) rfl rfl rfl ?_
 rintro v w4 ⟨X52, cx52, xs52, A52, cA52, rfl, hm52, hl52, hX52, hA52, hxr52, he52⟩
 replace hE := hE.tr he52
 replace hX43 := hX43.ext he52
 replace hA43 := hA43.ext he52
 replace hxr43 : ∀ x ∈ xs43, XR _ _ _ x := fun x hx => (hxr43 x hx).ext he52
 have hz_he52 := he52.size
 obtain ⟨H52, hH52⟩ : ∃ n, n = w4.heap.size := ⟨_, rfl⟩
 rw [← hL52, ← hH52] at hX52 hA52 hxr52
 refine vm rfl rfl ?_
 iterate 4 refine vx rfl rfl rfl ?_
 iterate 4 refine va rfl rfl ?_
 refine q_nil (k_then (wc_seq (wc_seq (wc_regionL ?_))))
 refine vm rfl rfl ?_
 refine wl_val (ov_not (b := true) rfl) rfl rfl rfl ?_
 refine vm rfl rfl ?_
 refine wl_gval (ov_move rfl) rfl rfl rfl rfl rfl ?_
 refine wl_gval (ov_not (b := true) rfl) rfl rfl rfl rfl rfl ?_
 refine wl_val (ov_pick_f rfl rfl) rfl rfl rfl ?_
 refine vm rfl rfl ?_
 iterate 2 refine wl_gval (ov_move rfl) rfl rfl rfl rfl rfl ?_
 refine wl_gval (ov_neb Tryz.underlying4 rfl rfl) rfl rfl rfl rfl rfl ?_
 refine wl_spell (d := 66) rfl (v' := (.bool false)) (by rw [bne_self_eq_false]) ?_
 refine wl_val (ov_pick_f rfl rfl) rfl rfl rfl ?_
 refine vm rfl rfl ?_
 refine wl_gval (ov_move rfl) rfl rfl rfl rfl rfl ?_
 refine wl_gval (ov_bstr bt32 Tryz.underlying9 rfl hA43) rfl rfl rfl rfl rfl ?_
 refine wl_gval (ov_move rfl) rfl rfl rfl rfl rfl ?_
 refine wl_gval (ov_bstr bt32 Tryz.underlying9 rfl hA52) rfl rfl rfl rfl rfl ?_
 refine wl_gval (ov_sne rfl rfl) rfl rfl rfl rfl rfl ?_
 refine wl_spell (d := 73) rfl (bf (fun q => q rfl)) ?_
 refine wl_val (ov_pick_f rfl rfl) rfl rfl rfl ?_
 refine vm rfl rfl ?_
 refine wl_gval (ov_move rfl) rfl rfl rfl rfl rfl ?_
 refine wl_gval (ov_len Tryz.underlying85 rfl) rfl rfl rfl rfl rfl ?_
 refine wl_gval (ov_move rfl) rfl rfl rfl rfl rfl ?_
 refine wl_gval (ov_len Tryz.underlying85 rfl) rfl rfl rfl rfl rfl ?_
 have hmm := congrArg List.length (hm43.trans hm52.symm)
 rw [List.length_map, List.length_map] at hmm
 refine wl_gval (ov_neq rfl rfl) rfl rfl rfl rfl rfl ?_
 refine wl_spell (d := 80) rfl (bf (by omega)) ?_
 refine wl_val (ov_pick_f rfl rfl) rfl rfl rfl ?_
 refine q_nil (k_then ?_)
 refine wc_cond_f rfl ?_
 refine q_skip (k_then (wc_seq (wc_seq (wc_regionL ?_))))
 refine va rfl rfl ?_
 refine q_nil (k_then (wc_block ?_))
 refine wc_loop (σ := Nat) (fun s => xs43.length - s) (fun s => [(7, .slice X43 xs43.length cx43), (11, .slice X52 xs52.length cx52), (15, .int .i64 (s : Int))]) (fun s w' => s ≤ xs43.length ∧ Ext w4 w') (0) (⟨Nat.zero_le _, ext_refl _⟩) (⟨rfl, rfl, rfl, trivial⟩) ?_
 rintro j wq ⟨hj, hxq⟩
 show WC _ _ _ _ [(7, (.slice X43 xs43.length cx43)), (11, (.slice X52 xs52.length cx52)), (15, (.int .i64 (↑j : Int)))] _
 replace hE := hE.tr hxq
 replace hX43 := hX43.ext hxq
 replace hxr43 : ∀ x ∈ xs43, XR _ _ _ x := fun x hx => (hxr43 x hx).ext hxq
 replace hX52 := hX52.ext hxq
 replace hxr52 : ∀ x ∈ xs52, XR _ _ _ x := fun x hx => (hxr52 x hx).ext hxq
 have hz_hxq := hxq.size
 refine wc_seq (wc_seq (wc_regionL ?_))
 iterate 2 refine vm rfl rfl ?_
 refine wl_val (ov_len Tryz.underlying85 rfl) rfl rfl rfl ?_
 refine wl_val (ov_lss rfl rfl) rfl rfl rfl ?_
 refine q_nil (k_then ?_)
 refine wc_cond_d rfl (fun hc3 => ?_) (fun hc3 => ?_)
 ·obtain ⟨ea, hja⟩ : ∃ e, xs43[j]? = some e := ⟨_, List.getElem?_eq_getElem (by omega)⟩
  obtain ⟨hKa, hVa, hTa⟩ := hxr43 ea (List.mem_of_getElem? hja)
  obtain ⟨eb, hjb⟩ : ∃ e, xs52[j]? = some e := ⟨_, List.getElem?_eq_getElem (by omega)⟩
  obtain ⟨hKb, hVb, hTb⟩ := hxr52 eb (List.mem_of_getElem? hjb)
  have hee : ea.1 = eb.1 := by have h := congrArg (fun l => l[j]?) (hm43.trans hm52.symm); simp only [List.getElem?_map, hja, hjb] at h; exact Option.some.inj h
  obtain ⟨ca, Ka, cka, Va, cva, Ta, cta⟩ := ea
  replace hKa : RdS wq _ _ Ka cka ca.keys := hKa
  replace hVa : RdB wq _ _ Va cva ca.value := hVa
  replace hTa : RdS wq _ _ Ta cta ca.tags := hTa
  obtain ⟨cb, Kb, ckb, Vb, cvb, Tb, ctb⟩ := eb
  replace hKb : RdS wq _ _ Kb ckb cb.keys := hKb
  replace hVb : RdB wq _ _ Vb cvb cb.value := hVb
  replace hTb : RdS wq _ _ Tb ctb cb.tags := hTb
  replace hee : ca = cb := hee
  refine q_skip (k_then (wc_seq (wc_block (wc_seq ?_))))
  refine wc_draw mixed 8 [(88, eqv (.slice X43 xs43.length cx43)), (89, eqv (.int .i64 (↑j : Int))), (90, isCells [(.int .i64 ca.op), (.string (strB ca.key)), (.slice Ka ca.keys.length cka), (.slice Va ca.value.length cva), (.slice Ta ca.tags.length cta), (.int .u64 (↑ca.life : Int)), (.int .u64 (↑ca.ver : Int)), (.string (strB ca.tag)), (.string (strB ca.pre)), (.string (strB ca.child))]), (91, eqv (.agg #[(.int .i64 ca.op), (.string (strB ca.key)), (.slice Ka ca.keys.length cka), (.slice Va ca.value.length cva), (.slice Ta ca.tags.length cta), (.int .u64 (↑ca.life : Int)), (.int .u64 (↑ca.ver : Int)), (.string (strB ca.tag)), (.string (strB ca.pre)), (.string (strB ca.child))])), (92, eqv (.slice X52 xs52.length cx52)), (93, eqv (.int .i64 (↑j : Int))), (94, isCells [(.int .i64 cb.op), (.string (strB cb.key)), (.slice Kb cb.keys.length ckb), (.slice Vb cb.value.length cvb), (.slice Tb cb.tags.length ctb), (.int .u64 (↑cb.life : Int)), (.int .u64 (↑cb.ver : Int)), (.string (strB cb.tag)), (.string (strB cb.pre)), (.string (strB cb.child))]), (95, eqv (.agg #[(.int .i64 cb.op), (.string (strB cb.key)), (.slice Kb cb.keys.length ckb), (.slice Vb cb.value.length cvb), (.slice Tb cb.tags.length ctb), (.int .u64 (↑cb.life : Int)), (.int .u64 (↑cb.ver : Int)), (.string (strB cb.tag)), (.string (strB cb.pre)), (.string (strB cb.child))]))] [[], [], [0, 1], [2], [], [], [4, 5], [6]] _ [] [] (fun _ _ h => h) trivial (by kernel_rfl) rfl ⟨⟨stb_eqv _, fun _ he => by cases he⟩, ⟨stb_eqv _, fun _ he => by cases he⟩, ⟨stb_isCells _, fun _ he => by cases he⟩, ⟨stb_eqv _, fun _ he => by cases he⟩, ⟨stb_eqv _, fun _ he => by cases he⟩, ⟨stb_eqv _, fun _ he => by cases he⟩, ⟨stb_isCells _, fun _ he => by cases he⟩, ⟨stb_eqv _, fun _ he => by cases he⟩, trivial⟩ ⟨?_, ?_, ?_, ?_, ?_, ?_, ?_, ?_, trivial⟩ ?_
  ·intro wd hxE
   replace hxr43 : ∀ x ∈ xs43, XR _ _ _ x := fun x hx => (hxr43 x hx).ext hxE
   replace hxr52 : ∀ x ∈ xs52, XR _ _ _ x := fun x hx => (hxr52 x hx).ext hxE
   have hz_hxE := hxE.size
   show OpG _ _ _ _ _ _
   exact og_plain rfl (ox_val (ov_move rfl))
  ·intro wd hxE
   replace hxr43 : ∀ x ∈ xs43, XR _ _ _ x := fun x hx => (hxr43 x hx).ext hxE
   replace hxr52 : ∀ x ∈ xs52, XR _ _ _ x := fun x hx => (hxr52 x hx).ext hxE
   have hz_hxE := hxE.size
   show OpG _ _ _ _ _ _
   exact og_plain rfl (ox_val (ov_move rfl))
  ·intro wd hxE
   replace hX43 := hX43.ext hxE
   replace hxr43 : ∀ x ∈ xs43, XR _ _ _ x := fun x hx => (hxr43 x hx).ext hxE
   replace hxr52 : ∀ x ∈ xs52, XR _ _ _ x := fun x hx => (hxr52 x hx).ext hxE
   have hz_hxE := hxE.size
   rintro _ rfl
   rintro _ rfl
   show OpG _ _ _ _ _ _
   refine og_plain rfl (OpRun.mono (or_rindex (m := (j)) sl85 rfl rfl hX43 (fun _ _ => rfl) hja) ?_)
   rintro v _ ⟨rfl, p90, rfl, hp90, hpl90, hph90⟩
   exact ⟨⟨p90, rfl, hp90⟩, ext_refl _⟩
  ·intro wd hxE
   replace hxr43 : ∀ x ∈ xs43, XR _ _ _ x := fun x hx => (hxr43 x hx).ext hxE
   replace hxr52 : ∀ x ∈ xs52, XR _ _ _ x := fun x hx => (hxr52 x hx).ext hxE
   have hz_hxE := hxE.size
   rintro _ ⟨p90, rfl, hp90⟩
   show OpG _ _ _ _ _ _
   exact og_plain rfl (ox_val (ov_loadAgg (cs := [(.int .i64 ca.op), (.string (strB ca.key)), (.slice Ka ca.keys.length cka), (.slice Va ca.value.length cva), (.slice Ta ca.tags.length cta), (.int .u64 (↑ca.life : Int)), (.int .u64 (↑ca.ver : Int)), (.string (strB ca.tag)), (.string (strB ca.pre)), (.string (strB ca.child))]) ag39_10 rfl rfl hp90))
  ·intro wd hxE
   replace hxr43 : ∀ x ∈ xs43, XR _ _ _ x := fun x hx => (hxr43 x hx).ext hxE
   replace hxr52 : ∀ x ∈ xs52, XR _ _ _ x := fun x hx => (hxr52 x hx).ext hxE
   have hz_hxE := hxE.size
   show OpG _ _ _ _ _ _
   exact og_plain rfl (ox_val (ov_move rfl))
  ·intro wd hxE
   replace hxr43 : ∀ x ∈ xs43, XR _ _ _ x := fun x hx => (hxr43 x hx).ext hxE
   replace hxr52 : ∀ x ∈ xs52, XR _ _ _ x := fun x hx => (hxr52 x hx).ext hxE
   have hz_hxE := hxE.size
   show OpG _ _ _ _ _ _
   exact og_plain rfl (ox_val (ov_move rfl))
  ·intro wd hxE
   replace hxr43 : ∀ x ∈ xs43, XR _ _ _ x := fun x hx => (hxr43 x hx).ext hxE
   replace hX52 := hX52.ext hxE
   replace hxr52 : ∀ x ∈ xs52, XR _ _ _ x := fun x hx => (hxr52 x hx).ext hxE
   have hz_hxE := hxE.size
   rintro _ rfl
   rintro _ rfl
   show OpG _ _ _ _ _ _
   refine og_plain rfl (OpRun.mono (or_rindex (m := (j)) sl85 rfl rfl hX52 (fun _ _ => rfl) hjb) ?_)
   rintro v _ ⟨rfl, p94, rfl, hp94, hpl94, hph94⟩
   exact ⟨⟨p94, rfl, hp94⟩, ext_refl _⟩
  ·intro wd hxE
   replace hxr43 : ∀ x ∈ xs43, XR _ _ _ x := fun x hx => (hxr43 x hx).ext hxE
   replace hxr52 : ∀ x ∈ xs52, XR _ _ _ x := fun x hx => (hxr52 x hx).ext hxE
   have hz_hxE := hxE.size
   rintro _ ⟨p94, rfl, hp94⟩
   show OpG _ _ _ _ _ _
   exact og_plain rfl (ox_val (ov_loadAgg (cs := [(.int .i64 cb.op), (.string (strB cb.key)), (.slice Kb cb.keys.length ckb), (.slice Vb cb.value.length cvb), (.slice Tb cb.tags.length ctb), (.int .u64 (↑cb.life : Int)), (.int .u64 (↑cb.ver : Int)), (.string (strB cb.tag)), (.string (strB cb.pre)), (.string (strB cb.child))]) ag39_10 rfl rfl hp94))
  ·intro wf10 hf10
   replace hxr43 : ∀ x ∈ xs43, XR _ _ _ x := fun x hx => (hxr43 x hx).ext hf10
   replace hxr52 : ∀ x ∈ xs52, XR _ _ _ x := fun x hx => (hxr52 x hx).ext hf10
   replace hxq := hxq.tr hf10
   replace hKa := hKa.ext hf10
   replace hVa := hVa.ext hf10
   replace hTa := hTa.ext hf10
   replace hKb := hKb.ext hf10
   replace hVb := hVb.ext hf10
   replace hTb := hTb.ext hf10
   have hz_hf10 := hf10.size
   rintro _ rfl
   rintro _ rfl
   rintro _ ⟨p90, rfl, hp90⟩
   rintro _ rfl
   rintro _ rfl
   rintro _ rfl
   rintro _ ⟨p94, rfl, hp94⟩
   rintro _ rfl
   show WL _ _ _ [_, _] _ _ _
   refine wl_step (or_call0 cl22 rfl rfl (requal_any _ ca _ _ Ka cka Va cva Ta cta hKa hVa hTa cb _ _ Kb ckb Vb cvb Tb ctb hKb hVb hTb)) rfl rfl rfl ?_
   rintro v w5 ⟨rfl, he96⟩
   replace hxr43 : ∀ x ∈ xs43, XR _ _ _ x := fun x hx => (hxr43 x hx).ext he96
   replace hxr52 : ∀ x ∈ xs52, XR _ _ _ x := fun x hx => (hxr52 x hx).ext he96
   replace hxq := hxq.tr he96
   have hz_he96 := he96.size
   refine wl_spell (d := 96) rfl (bt (hee)) ?_
   refine wl_val (ov_not (b := true) rfl) rfl rfl rfl ?_
   refine q_nil (k_then ?_)
   refine wc_cond_f rfl ?_
   refine q_skip (k_block (k_then (wc_regionL ?_)))
   refine vm rfl rfl ?_
   refine wl_val (ov_add rfl rfl (wi64 (by omega) (by omega))) rfl rfl rfl ?_
   refine va rfl rfl ?_
   refine q_nil ?_
   refine k_loop (j + 1) (by show xs43.length - (j + 1) < xs43.length - j; omega) (⟨rfl, rfl, rfl, trivial⟩) (⟨by show j + 1 ≤ _; omega, hxq⟩)
 ·refine q_exit (k_thenX (k_thenX (k_blockE (k_then (wc_seq (wc_regionL ?_))))))
  refine wl_step (or_call0 cl10 rfl rfl (known28_any _)) rfl rfl rfl ?_
  rintro v w205 ⟨rfl, he98⟩
  replace hE := hE.tr he98
  replace hxr43 : ∀ x ∈ xs43, XR _ _ _ x := fun x hx => (hxr43 x hx).ext he98
  replace hxr52 : ∀ x ∈ xs52, XR _ _ _ x := fun x hx => (hxr52 x hx).ext he98
  have hz_he98 := he98.size
  refine va rfl rfl ?_
  refine q_nil (k_then (q_ret ?_))
  refine e_ret rfl rfl ?_
  exact ⟨rfl, hE⟩
theorem connHolds_walk (w : World) (i o p : Int) (hi1 : -9223372036854775808 ≤ i) (hi2 : i ≤ 9223372036854775807) (ho1 : -9223372036854775808 ≤ o) (ho2 : o ≤ 9223372036854775807) (hp1 : -9223372036854775808 ≤ p) (hp2 : p ≤ 9223372036854775807) (b : List UInt8) (lo1 hj1 : Nat) (B1 : Option Addr) (c1 : Nat) (hr1 : RdB w lo1 hj1 B1 c1 b) (zs : List UInt8) (lo2 hj2 : Nat) (B2 : Option Addr) (c2 : Nat) (hr2 : RdB w lo2 hj2 B2 c2 zs) :
  Fn Tryz.prog 7 #[.agg #[.int .i64 i, .int .i64 o, .int .i64 p], .slice B1 b.length c1, .slice B2 zs.length c2] w (fun v w' => v = .bool true ∧ Ext w w') := by
 by_cases h0 : ¬ cfOk i o p
 ·exact connHolds_a w i o p hi1 hi2 ho1 ho2 hp1 hp2 b lo1 hj1 B1 c1 hr1 zs lo2 hj2 B2 c2 hr2 h0
 by_cases h1 : 2000 < i
 ·exact connHolds_b w i o p hi1 hi2 ho1 ho2 hp1 hp2 b lo1 hj1 B1 c1 hr1 zs lo2 hj2 B2 c2 hr2 h0 h1
 by_cases h2 : 2000 < o
 ·exact connHolds_c w i o p hi1 hi2 ho1 ho2 hp1 hp2 b lo1 hj1 B1 c1 hr1 zs lo2 hj2 B2 c2 hr2 h0 h1 h2
 by_cases h3 : 300 < b.length
 ·exact connHolds_d w i o p hi1 hi2 ho1 ho2 hp1 hp2 b lo1 hj1 B1 c1 hr1 zs lo2 hj2 B2 c2 hr2 h0 h1 h2 h3
 by_cases h4 : 20 < zs.length
 ·exact connHolds_e w i o p hi1 hi2 ho1 ho2 hp1 hp2 b lo1 hj1 B1 c1 hr1 zs lo2 hj2 B2 c2 hr2 h0 h1 h2 h3 h4
 replace h0 := Decidable.not_not.1 h0
 unfold cfOk at h0
 obtain ⟨i, rfl⟩ : ∃ a : Nat, i = (a : Int) := ⟨i.toNat, by omega⟩
 obtain ⟨o, rfl⟩ : ∃ a : Nat, o = (a : Int) := ⟨o.toNat, by omega⟩
 obtain ⟨p, rfl⟩ : ∃ a : Nat, p = (a : Int) := ⟨p.toNat, by omega⟩
 exact connHolds_g w i o p (by omega) (by omega) (by omega) b _ _ B1 c1 hr1 zs _ _ B2 c2 hr2 (by omega) (by omega)
end Go.Proofs.YtiighkbehiddkaaGreat