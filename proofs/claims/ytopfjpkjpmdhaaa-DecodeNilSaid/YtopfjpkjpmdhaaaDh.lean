/-
  The walk of DecodeNil.
-/
import Derived.Test.YtopfjpkjpmdhaaaDg
namespace Go.Proofs.Ytopfjpkjpmdhaaa
open Go.RowKit
set_option linter.unusedVariables false
set_option maxRecDepth 4000
theorem cl30 : callable Try.prog 30 = true := by kernel_rfl
theorem cl47 : callable Try.prog 47 = true := by kernel_rfl
theorem oc68 : oneCellTy Try.prog 68 = true := by kernel_rfl
theorem sl92 : SliceTy Try.prog 92 68 1 8 (.pointer none) := sliceTy_mk Try.underlying92 (by kernel_rfl) rfl (by decide)

theorem decodeNil_walk (w : World) (lo hi : Nat) (A : Option Addr) (c : Nat) (l : List UInt8) (hr : RdB w lo hi A c l) :
    Fn Try.prog 12 #[(.slice A l.length c)] w (fun v w' => v = .bool true ∧ Ext w w')  := by
  replace hr := hr.top
  have hE := ext_refl w
  refine fn_enter (args := [(.slice A l.length c)]) Try.func12 rfl rfl rfl ?_
  show WC _ _ _ _ [(0, (.slice A l.length c))] _
  refine wc_seq ?_
  refine wc_regionL ?_
  refine wl_val (ov_assign rfl) rfl rfl rfl ?_
  refine q_nil ?_
  refine k_then ?_
  refine wc_seq ?_
  refine wc_seq ?_
  refine wc_regionL ?_
  refine wl_val (ov_move rfl) rfl rfl rfl ?_
  refine wl_val (ov_len Try.underlying26 rfl) rfl rfl rfl ?_
  refine wl_val (ov_gtr rfl rfl) rfl rfl rfl ?_
  refine wl_case_d (d := 8) rfl (fun h8 => ?_) (fun h8 => ?_)
  · refine q_nil ?_
    refine k_then ?_
    refine wc_cond_t rfl ?_
    refine wc_seq ?_
    refine wc_regionL ?_
    refine wl_step (or_call0 cl30 rfl rfl (known06_any _)) rfl rfl rfl ?_
    rintro v w1 ⟨rfl, he9⟩
    replace hr := hr.ext he9
    replace hE := hE.tr he9
    have hz_he9 := he9.size
    refine wl_val (ov_assign rfl) rfl rfl rfl ?_
    refine q_nil ?_
    refine k_then ?_
    refine q_ret ?_
    refine k_thenR ?_
    refine e_ret rfl rfl ?_
    exact ⟨rfl, hE⟩
  · refine q_nil ?_
    refine k_then ?_
    refine wc_cond_f rfl ?_
    refine q_skip ?_
    refine k_then ?_
    refine wc_seq ?_
    refine wc_regionL ?_
    refine wl_val (ov_assign rfl) rfl rfl rfl ?_
    refine q_nil ?_
    refine k_then ?_
    refine wc_seq ?_
    refine wc_seq ?_
    refine wc_regionL ?_
    refine wl_val (ov_move rfl) rfl rfl rfl ?_
    refine wl_val (ov_build (cs := [(.bool false), (.bool false), (.int .i64 0), (.slice none 0 0)]) ze91 pl91 rfl rfl) rfl rfl rfl ?_
    refine wl_step (or_box (cs := [(.bool false), (.bool false), (.int .i64 0), (.slice none 0 0)]) rfl rfl) rfl rfl rfl ?_
    rintro v w201 ⟨g12, rfl, hb_g12, he12, hl12, hu12⟩
    replace hr := hr.ext he12
    replace hE := hE.tr he12
    have hz_he12 := he12.size
    refine wl_step (or_buildSlice1 (os := [.tmp 10, .tmp 12]) sl92 rfl rfl rfl (by simp [Value.oneCell']) (by decide)) rfl rfl rfl ?_
    rintro v w202 ⟨g13, rfl, hb_g13, he13, hl13, hu13, _⟩
    replace hr := hr.ext he13
    replace hE := hE.tr he13
    replace hb_g12 := hb_g12.ext he13
    have hz_he13 := he13.size
    refine wl_val (ov_len Try.underlying92 rfl) rfl rfl rfl ?_
    refine wl_val (ov_move rfl) rfl rfl rfl ?_
    refine q_nil ?_
    refine k_then ?_
    refine wc_block ?_
    refine wc_loop (σ := Nat) (fun s => 2 - s) (fun s => [(0, .slice A l.length c), (13, .slice (some ⟨g13, 0, none⟩) 2 2), (14, .int .i64 2), (15, .int .i64 (s : Int))]) (fun s w' => s ≤ 2 ∧ Blk w' g13 68 [.pointer none, .pointer (some ⟨g12, 0, none⟩)] ∧ Blk w' g12 91 [.bool false, .bool false, .int .i64 0, .slice none 0 0] ∧ RdB w' lo w.heap.size A c l ∧ Ext w w') (0) (⟨by decide, hb_g13, hb_g12, hr, hE⟩) (⟨rfl, rfl, rfl, rfl, trivial⟩) ?_
    rintro k wq ⟨hk, hb_g13, hb_g12, hr, hE⟩
    show WC _ _ _ _ [(0, (.slice A l.length c)), (13, (.slice (some ⟨g13, 0, none⟩) 2 2)), (14, (.int .i64 2)), (15, (.int .i64 (↑k : Int)))] _
    have hz_Eq := hE.size
    refine wc_seq ?_
    refine wc_regionL ?_
    refine wl_val (ov_lss rfl rfl) rfl rfl rfl ?_
    refine q_nil ?_
    refine k_then ?_
    refine wc_seq ?_
    refine wc_cond_d rfl (fun hc2 => ?_) (fun hc2 => ?_)
    · rcases (show k = 0 ∨ k = 1 by omega) with rfl | rfl
      · refine q_skip ?_
        refine k_then ?_
        refine wc_seq ?_
        refine wc_block ?_
        refine wc_seq ?_
        refine wc_regionL ?_
        refine wl_step (or_rindex (m := ((0 : Nat))) sl92 rfl rfl (Blk.rdR hb_g13 (by simp [maxLen])) (fun _ _ => rfl) rfl) rfl rfl rfl ?_
        rintro v _ ⟨rfl, p17, rfl, hp17, hpl17, hph17⟩
        refine wl_val (ov_load oc68 rfl (cell_zero hp17 rfl)) rfl rfl rfl ?_
        refine wl_val (ov_assign rfl) rfl rfl rfl ?_
        refine q_nil ?_
        refine k_then ?_
        refine wc_seq ?_
        refine wc_regionL ?_
        refine wl_val (ov_move rfl) rfl rfl rfl ?_
        refine wl_val (ov_move rfl) rfl rfl rfl ?_
        refine wl_step (or_call0 cl38 rfl rfl (dfeed_nil _ 0 0 _ _ l)) rfl rfl rfl ?_
        rintro v w203 ⟨rfl, he21⟩
        replace hb_g13 := hb_g13.ext he21
        replace hb_g12 := hb_g12.ext he21
        replace hr := hr.ext he21
        replace hE := hE.tr he21
        have hz_he21 := he21.size
        refine wl_val (ov_neq rfl rfl) rfl rfl rfl ?_
        refine wl_val (ov_move rfl) rfl rfl rfl ?_
        refine wl_gval (ov_move rfl) rfl rfl rfl rfl rfl ?_
        refine wl_gval (ov_build (cs := [(.int .u8 0), (.slice none 0 0)]) ze72 pl72 rfl rfl) rfl rfl rfl rfl rfl ?_
        refine wl_gstep (or_call0 cl40 rfl rfl (lnext_nil _)) rfl rfl rfl rfl rfl ?_
        rintro v w204 ⟨rfl, he26⟩
        replace hb_g13 := hb_g13.ext he26
        replace hb_g12 := hb_g12.ext he26
        replace hr := hr.ext he26
        replace hE := hE.tr he26
        have hz_he26 := he26.size
        refine wl_gval (ov_not (b := true) rfl) rfl rfl rfl rfl rfl ?_
        refine wl_val (ov_pick_f rfl rfl) rfl rfl rfl ?_
        refine wl_val (ov_move rfl) rfl rfl rfl ?_
        refine wl_gval (ov_move rfl) rfl rfl rfl rfl rfl ?_
        refine wl_gstep (or_call0 cl39 rfl rfl (dneed_nil _)) rfl rfl rfl rfl rfl ?_
        rintro v w205 ⟨rfl, he31⟩
        replace hb_g13 := hb_g13.ext he31
        replace hb_g12 := hb_g12.ext he31
        replace hr := hr.ext he31
        replace hE := hE.tr he31
        have hz_he31 := he31.size
        refine wl_gval (ov_neq rfl rfl) rfl rfl rfl rfl rfl ?_
        refine wl_val (ov_pick_f rfl rfl) rfl rfl rfl ?_
        refine wl_val (ov_move rfl) rfl rfl rfl ?_
        refine wl_gval (ov_move rfl) rfl rfl rfl rfl rfl ?_
        refine wl_gstep (or_call0 cl42 rfl rfl (dheld_nil _)) rfl rfl rfl rfl rfl ?_
        rintro v w206 ⟨rfl, he36⟩
        replace hb_g13 := hb_g13.ext he36
        replace hb_g12 := hb_g12.ext he36
        replace hr := hr.ext he36
        replace hE := hE.tr he36
        have hz_he36 := he36.size
        refine wl_gval (ov_neq rfl rfl) rfl rfl rfl rfl rfl ?_
        refine wl_val (ov_pick_f rfl rfl) rfl rfl rfl ?_
        refine wl_val (ov_move rfl) rfl rfl rfl ?_
        refine wl_gval (ov_move rfl) rfl rfl rfl rfl rfl ?_
        refine wl_gstep (or_call0 cl49 rfl rfl (dclosed_nil _)) rfl rfl rfl rfl rfl ?_
        rintro v w207 ⟨rfl, he41⟩
        replace hb_g13 := hb_g13.ext he41
        replace hb_g12 := hb_g12.ext he41
        replace hr := hr.ext he41
        replace hE := hE.tr he41
        have hz_he41 := he41.size
        refine wl_val (ov_pick_f rfl rfl) rfl rfl rfl ?_
        refine wl_val (ov_move rfl) rfl rfl rfl ?_
        refine wl_gval (ov_move rfl) rfl rfl rfl rfl rfl ?_
        refine wl_gstep (or_call0 cl47 rfl rfl (dcopy_nil _)) rfl rfl rfl rfl rfl ?_
        rintro v w208 ⟨rfl, he45⟩
        replace hb_g13 := hb_g13.ext he45
        replace hb_g12 := hb_g12.ext he45
        replace hr := hr.ext he45
        replace hE := hE.tr he45
        have hz_he45 := he45.size
        refine wl_gval (ov_nnilptr Try.underlying68 rfl) rfl rfl rfl rfl rfl ?_
        refine wl_val (ov_pick_f rfl rfl) rfl rfl rfl ?_
        refine q_nil ?_
        refine k_then ?_
        refine wc_cond_f rfl ?_
        refine q_skip ?_
        refine k_block ?_
        refine k_then ?_
        refine wc_regionL ?_
        refine wl_val (ov_add rfl rfl (wi64 (by omega) (by omega))) rfl rfl rfl ?_
        refine wl_val (ov_move rfl) rfl rfl rfl ?_
        refine q_nil ?_
        refine k_loop (0 + 1) (by decide) (⟨rfl, rfl, rfl, rfl, trivial⟩) (⟨by decide, hb_g13, hb_g12, hr, hE⟩)
      · refine q_skip ?_
        refine k_then ?_
        refine wc_seq ?_
        refine wc_block ?_
        refine wc_seq ?_
        refine wc_regionL ?_
        refine wl_step (or_rindex (m := ((1 : Nat))) sl92 rfl rfl (Blk.rdR hb_g13 (by simp [maxLen])) (fun _ _ => rfl) rfl) rfl rfl rfl ?_
        rintro v _ ⟨rfl, p17, rfl, hp17, hpl17, hph17⟩
        refine wl_val (ov_load oc68 rfl (cell_zero hp17 rfl)) rfl rfl rfl ?_
        refine wl_val (ov_assign rfl) rfl rfl rfl ?_
        refine q_nil ?_
        refine k_then ?_
        refine wc_seq ?_
        refine wc_regionL ?_
        refine wl_val (ov_move rfl) rfl rfl rfl ?_
        refine wl_val (ov_move rfl) rfl rfl rfl ?_
        refine wl_step (or_call0 cl38 rfl rfl (dfeed_zero _ _ hb_g12 0 0 _ _ l)) rfl rfl rfl ?_
        rintro v w203 ⟨rfl, he21⟩
        replace hb_g13 := hb_g13.ext he21
        replace hb_g12 := hb_g12.ext he21
        replace hr := hr.ext he21
        replace hE := hE.tr he21
        have hz_he21 := he21.size
        refine wl_val (ov_neq rfl rfl) rfl rfl rfl ?_
        refine wl_val (ov_move rfl) rfl rfl rfl ?_
        refine wl_gval (ov_move rfl) rfl rfl rfl rfl rfl ?_
        refine wl_gval (ov_build (cs := [(.int .u8 0), (.slice none 0 0)]) ze72 pl72 rfl rfl) rfl rfl rfl rfl rfl ?_
        refine wl_gstep (or_call0 cl40 rfl rfl (lnext_zero _ _ hb_g12)) rfl rfl rfl rfl rfl ?_
        rintro v w204 ⟨rfl, he26⟩
        replace hb_g13 := hb_g13.ext he26
        replace hb_g12 := hb_g12.ext he26
        replace hr := hr.ext he26
        replace hE := hE.tr he26
        have hz_he26 := he26.size
        refine wl_gval (ov_not (b := true) rfl) rfl rfl rfl rfl rfl ?_
        refine wl_val (ov_pick_f rfl rfl) rfl rfl rfl ?_
        refine wl_val (ov_move rfl) rfl rfl rfl ?_
        refine wl_gval (ov_move rfl) rfl rfl rfl rfl rfl ?_
        refine wl_gstep (or_call0 cl39 rfl rfl (dneed_zero _ _ hb_g12)) rfl rfl rfl rfl rfl ?_
        rintro v w205 ⟨rfl, he31⟩
        replace hb_g13 := hb_g13.ext he31
        replace hb_g12 := hb_g12.ext he31
        replace hr := hr.ext he31
        replace hE := hE.tr he31
        have hz_he31 := he31.size
        refine wl_gval (ov_neq rfl rfl) rfl rfl rfl rfl rfl ?_
        refine wl_val (ov_pick_f rfl rfl) rfl rfl rfl ?_
        refine wl_val (ov_move rfl) rfl rfl rfl ?_
        refine wl_gval (ov_move rfl) rfl rfl rfl rfl rfl ?_
        refine wl_gstep (or_call0 cl42 rfl rfl (dheld_zero _ _ hb_g12)) rfl rfl rfl rfl rfl ?_
        rintro v w206 ⟨rfl, he36⟩
        replace hb_g13 := hb_g13.ext he36
        replace hb_g12 := hb_g12.ext he36
        replace hr := hr.ext he36
        replace hE := hE.tr he36
        have hz_he36 := he36.size
        refine wl_gval (ov_neq rfl rfl) rfl rfl rfl rfl rfl ?_
        refine wl_val (ov_pick_f rfl rfl) rfl rfl rfl ?_
        refine wl_val (ov_move rfl) rfl rfl rfl ?_
        refine wl_gval (ov_move rfl) rfl rfl rfl rfl rfl ?_
        refine wl_gstep (or_call0 cl49 rfl rfl (dclosed_zero _ _ hb_g12)) rfl rfl rfl rfl rfl ?_
        rintro v w207 ⟨rfl, he41⟩
        replace hb_g13 := hb_g13.ext he41
        replace hb_g12 := hb_g12.ext he41
        replace hr := hr.ext he41
        replace hE := hE.tr he41
        have hz_he41 := he41.size
        refine wl_val (ov_pick_f rfl rfl) rfl rfl rfl ?_
        refine wl_val (ov_move rfl) rfl rfl rfl ?_
        refine wl_gval (ov_move rfl) rfl rfl rfl rfl rfl ?_
        refine wl_gstep (or_call0 cl47 rfl rfl (dcopy_zero _ _ hb_g12)) rfl rfl rfl rfl rfl ?_
        rintro v w208 ⟨rfl, he45⟩
        replace hb_g13 := hb_g13.ext he45
        replace hb_g12 := hb_g12.ext he45
        replace hr := hr.ext he45
        replace hE := hE.tr he45
        have hz_he45 := he45.size
        refine wl_gval (ov_nnilptr Try.underlying68 rfl) rfl rfl rfl rfl rfl ?_
        refine wl_val (ov_pick_f rfl rfl) rfl rfl rfl ?_
        refine q_nil ?_
        refine k_then ?_
        refine wc_cond_f rfl ?_
        refine q_skip ?_
        refine k_block ?_
        refine k_then ?_
        refine wc_regionL ?_
        refine wl_val (ov_add rfl rfl (wi64 (by omega) (by omega))) rfl rfl rfl ?_
        refine wl_val (ov_move rfl) rfl rfl rfl ?_
        refine q_nil ?_
        refine k_loop (1 + 1) (by decide) (⟨rfl, rfl, rfl, rfl, trivial⟩) (⟨by decide, hb_g13, hb_g12, hr, hE⟩)
    · refine q_exit ?_
      refine k_thenX ?_
      refine k_thenX ?_
      refine k_blockE ?_
      refine k_then ?_
      refine wc_seq ?_
      refine wc_regionL ?_
      refine wl_step (or_call0 cl30 rfl rfl (known06_any _)) rfl rfl rfl ?_
      rintro v w203 ⟨rfl, he49⟩
      replace hE := hE.tr he49
      have hz_he49 := he49.size
      refine wl_val (ov_assign rfl) rfl rfl rfl ?_
      refine q_nil ?_
      refine k_then ?_
      refine q_ret ?_
      refine e_ret rfl rfl ?_
      exact ⟨rfl, hE⟩

end Go.Proofs.Ytopfjpkjpmdhaaa
