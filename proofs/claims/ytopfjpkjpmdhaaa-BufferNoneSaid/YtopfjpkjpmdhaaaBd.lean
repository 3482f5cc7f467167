/-
  The walk of BufferNone.
-/
import Derived.Test.YtopfjpkjpmdhaaaBa
namespace Go.Proofs.Ytopfjpkjpmdhaaa
open Go.RowKit
set_option linter.unusedVariables false
set_option maxRecDepth 4000
theorem cl16 : callable Try.prog 16 = true := by kernel_rfl
theorem cl29 : callable Try.prog 29 = true := by kernel_rfl
theorem oc22 : oneCellTy Try.prog 22 = true := by kernel_rfl
theorem sl53 : SliceTy Try.prog 53 22 1 8 (.pointer none) := sliceTy_mk Try.underlying53 (by kernel_rfl) rfl (by decide)

theorem bufferNone_walk (w : World) (lo hi : Nat) (A : Option Addr) (c : Nat) (l : List UInt8) (n : Int) (hn1 : -9223372036854775808 ≤ n) (hn : n ≤ 9223372036854775807) (hr : RdB w lo hi A c l) :
    Fn Try.prog 7 #[(.slice A l.length c), (.int .i64 n)] w (fun v w' => v = .bool true ∧ Ext w w') := by
  replace hr := hr.top
  have hE := ext_refl w
  refine fn_enter (args := [(.slice A l.length c), (.int .i64 n)]) Try.func7 rfl rfl rfl ?_
  show WC _ _ _ _ [(0, (.slice A l.length c)), (1, (.int .i64 n))] _
  refine wc_seq ?_
  refine wc_regionL ?_
  refine wl_val (ov_assign rfl) rfl rfl rfl ?_
  refine q_nil ?_
  refine k_then ?_
  refine wc_seq ?_
  refine wc_seq ?_
  refine wc_regionL ?_
  refine wl_val (ov_move rfl) rfl rfl rfl ?_
  refine wl_val (ov_len Try.underlying26 rfl) rfl rfl rfl ?_
  refine wl_val (ov_gtr rfl rfl) rfl rfl rfl ?_
  refine q_nil ?_
  refine k_then ?_
  refine wc_cond_d rfl (fun hc1 => ?_) (fun hc1 => ?_)
  · refine wc_seq ?_
    refine wc_regionL ?_
    refine wl_step (or_call0 cl16 rfl rfl (known27_any _)) rfl rfl rfl ?_
    rintro v w1 ⟨rfl, he19⟩
    replace hr := hr.ext he19
    replace hE := hE.tr he19
    have hz_he19 := he19.size
    refine wl_val (ov_assign rfl) rfl rfl rfl ?_
    refine q_nil ?_
    refine k_then ?_
    refine q_ret ?_
    refine k_thenR ?_
    refine e_ret rfl rfl ?_
    exact ⟨rfl, hE⟩
  · refine q_skip ?_
    refine k_then ?_
    refine wc_seq ?_
    refine wc_regionL ?_
    refine wl_val (ov_assign rfl) rfl rfl rfl ?_
    refine q_nil ?_
    refine k_then ?_
    refine wc_seq ?_
    refine wc_seq ?_
    refine wc_regionL ?_
    refine wl_val (ov_move rfl) rfl rfl rfl ?_
    refine wl_val (ov_build (cs := [(.int .i64 0), (.slice none 0 0), (.int .i64 0), (.int .u64 0), (.int .u64 0)]) ze52 pl52 rfl rfl) rfl rfl rfl ?_
    refine wl_step (or_box (cs := [(.int .i64 0), (.slice none 0 0), (.int .i64 0), (.int .u64 0), (.int .u64 0)]) rfl rfl) rfl rfl rfl ?_
    rintro v w201 ⟨g22, rfl, hb_g22, he22, hl22, hu22⟩
    replace hr := hr.ext he22
    replace hE := hE.tr he22
    have hz_he22 := he22.size
    refine wl_step (or_buildSlice1 (os := [.tmp 20, .tmp 22]) sl53 rfl rfl rfl (by simp [Value.oneCell']) (by decide)) rfl rfl rfl ?_
    rintro v w202 ⟨g23, rfl, hb_g23, he23, hl23, hu23, _⟩
    replace hr := hr.ext he23
    replace hE := hE.tr he23
    replace hb_g22 := hb_g22.ext he23
    have hz_he23 := he23.size
    refine wl_val (ov_len Try.underlying53 rfl) rfl rfl rfl ?_
    refine wl_val (ov_move rfl) rfl rfl rfl ?_
    refine q_nil ?_
    refine k_then ?_
    refine wc_block ?_
    refine wc_loop (σ := Nat) (fun s => 2 - s) (fun s => [(0, .slice A l.length c), (1, .int .i64 n), (23, .slice (some ⟨g23, 0, none⟩) 2 2), (24, .int .i64 2), (25, .int .i64 (s : Int))]) (fun s w' => s ≤ 2 ∧ Blk w' g23 22 [.pointer none, .pointer (some ⟨g22, 0, none⟩)] ∧ Blk w' g22 52 [.int .i64 0, .slice none 0 0, .int .i64 0, .int .u64 0, .int .u64 0] ∧ RdB w' lo w.heap.size A c l ∧ Ext w w') (0) (⟨by decide, hb_g23, hb_g22, hr, hE⟩) (⟨rfl, rfl, rfl, rfl, rfl, trivial⟩) ?_
    rintro k wq ⟨hk, hb_g23, hb_g22, hr, hE⟩
    show WC _ _ _ _ [(0, (.slice A l.length c)), (1, (.int .i64 n)), (23, (.slice (some ⟨g23, 0, none⟩) 2 2)), (24, (.int .i64 2)), (25, (.int .i64 (↑k : Int)))] _
    have hz_Eq := hE.size
    refine wc_seq ?_
    refine wc_regionL ?_
    refine wl_val (ov_lss rfl rfl) rfl rfl rfl ?_
    refine q_nil ?_
    refine k_then ?_
    refine wc_seq ?_
    refine wc_cond_d rfl (fun hc2 => ?_) (fun hc2 => ?_)
    · rcases (show k = 0 ∨ k = 1 by omega) with rfl | rfl
      · refine q_skip ?_
        refine k_then ?_
        refine wc_seq ?_
        refine wc_block ?_
        refine wc_seq ?_
        refine wc_regionL ?_
        refine wl_step (or_rindex (m := ((0 : Nat))) sl53 rfl rfl (Blk.rdR hb_g23 (by simp [maxLen])) (fun _ _ => rfl) rfl) rfl rfl rfl ?_
        rintro v _ ⟨rfl, p27, rfl, hp27, hpl27, hph27⟩
        refine wl_val (ov_load oc22 rfl (cell_zero hp27 rfl)) rfl rfl rfl ?_
        refine wl_val (ov_assign rfl) rfl rfl rfl ?_
        refine q_nil ?_
        refine k_then ?_
        refine wc_seq ?_
        refine wc_regionL ?_
        refine wl_val (ov_move rfl) rfl rfl rfl ?_
        refine wl_val (ov_move rfl) rfl rfl rfl ?_
        refine wl_step (or_call0 cl18 rfl rfl (bput_nil _ 0 0 _ _ l)) rfl rfl rfl ?_
        rintro v w203 ⟨rfl, he32⟩
        replace hb_g23 := hb_g23.ext he32
        replace hb_g22 := hb_g22.ext he32
        replace hr := hr.ext he32
        replace hE := hE.tr he32
        have hz_he32 := he32.size
        refine wl_val (ov_move rfl) rfl rfl rfl ?_
        refine wl_val (ov_extract rfl rfl) rfl rfl rfl ?_
        refine wl_val (ov_extract rfl rfl) rfl rfl rfl ?_
        refine wl_val (ov_assign rfl) rfl rfl rfl ?_
        refine wl_val (ov_assign rfl) rfl rfl rfl ?_
        refine q_nil ?_
        refine k_then ?_
        refine wc_seq ?_
        refine wc_regionL ?_
        refine wl_val (ov_move rfl) rfl rfl rfl ?_
        refine wl_val (ov_move rfl) rfl rfl rfl ?_
        refine wl_step (or_call0 cl22 rfl rfl (btake_nil _ n)) rfl rfl rfl ?_
        rintro v w204 ⟨rfl, he38⟩
        replace hb_g23 := hb_g23.ext he38
        replace hb_g22 := hb_g22.ext he38
        replace hr := hr.ext he38
        replace hE := hE.tr he38
        have hz_he38 := he38.size
        refine wl_val (ov_move rfl) rfl rfl rfl ?_
        refine wl_val (ov_extract rfl rfl) rfl rfl rfl ?_
        refine wl_val (ov_extract rfl rfl) rfl rfl rfl ?_
        refine wl_val (ov_assign rfl) rfl rfl rfl ?_
        refine wl_val (ov_assign rfl) rfl rfl rfl ?_
        refine q_nil ?_
        refine k_then ?_
        refine wc_seq ?_
        refine wc_regionL ?_
        refine wl_val (ov_move rfl) rfl rfl rfl ?_
        refine wl_val (ov_move rfl) rfl rfl rfl ?_
        refine wl_step (or_call0 cl27 rfl rfl (bpeek_nil _ n)) rfl rfl rfl ?_
        rintro v w205 ⟨rfl, he44⟩
        replace hb_g23 := hb_g23.ext he44
        replace hb_g22 := hb_g22.ext he44
        replace hr := hr.ext he44
        replace hE := hE.tr he44
        have hz_he44 := he44.size
        refine wl_val (ov_move rfl) rfl rfl rfl ?_
        refine wl_val (ov_extract rfl rfl) rfl rfl rfl ?_
        refine wl_val (ov_extract rfl rfl) rfl rfl rfl ?_
        refine wl_val (ov_assign rfl) rfl rfl rfl ?_
        refine wl_val (ov_assign rfl) rfl rfl rfl ?_
        refine q_nil ?_
        refine k_then ?_
        refine wc_seq ?_
        refine wc_regionL ?_
        refine wl_val (ov_move rfl) rfl rfl rfl ?_
        refine wl_step (or_call0 cl24 rfl rfl (bclear_nil _)) rfl rfl rfl ?_
        rintro v w206 ⟨rfl, he49⟩
        replace hb_g23 := hb_g23.ext he49
        replace hb_g22 := hb_g22.ext he49
        replace hr := hr.ext he49
        replace hE := hE.tr he49
        have hz_he49 := he49.size
        refine wl_val (ov_move rfl) rfl rfl rfl ?_
        refine wl_val (ov_extract rfl rfl) rfl rfl rfl ?_
        refine wl_val (ov_extract rfl rfl) rfl rfl rfl ?_
        refine wl_val (ov_assign rfl) rfl rfl rfl ?_
        refine wl_val (ov_assign rfl) rfl rfl rfl ?_
        refine q_nil ?_
        refine k_then ?_
        refine wc_seq ?_
        refine wc_regionL ?_
        refine wl_val (ov_move rfl) rfl rfl rfl ?_
        refine wl_val (ov_neq rfl rfl) rfl rfl rfl ?_
        refine wl_val (ov_move rfl) rfl rfl rfl ?_
        refine wl_gval (ov_move rfl) rfl rfl rfl rfl rfl ?_
        refine wl_gval (ov_neq rfl rfl) rfl rfl rfl rfl rfl ?_
        refine wl_val (ov_pick_f rfl rfl) rfl rfl rfl ?_
        refine wl_val (ov_move rfl) rfl rfl rfl ?_
        refine wl_gval (ov_move rfl) rfl rfl rfl rfl rfl ?_
        refine wl_gval (ov_move rfl) rfl rfl rfl rfl rfl ?_
        refine wl_gstep (or_call0 cl17 rfl rfl (bputall_nil _ 0 0 _ _ l)) rfl rfl rfl rfl rfl ?_
        rintro v w207 ⟨rfl, he61⟩
        replace hb_g23 := hb_g23.ext he61
        replace hb_g22 := hb_g22.ext he61
        replace hr := hr.ext he61
        replace hE := hE.tr he61
        have hz_he61 := he61.size
        refine wl_gval (ov_neq rfl rfl) rfl rfl rfl rfl rfl ?_
        refine wl_val (ov_pick_f rfl rfl) rfl rfl rfl ?_
        refine wl_val (ov_move rfl) rfl rfl rfl ?_
        refine wl_gval (ov_move rfl) rfl rfl rfl rfl rfl ?_
        refine wl_gval (ov_len Try.underlying26 rfl) rfl rfl rfl rfl rfl ?_
        refine wl_gval (ov_neq rfl rfl) rfl rfl rfl rfl rfl ?_
        refine wl_val (ov_pick_f rfl rfl) rfl rfl rfl ?_
        refine wl_val (ov_move rfl) rfl rfl rfl ?_
        refine wl_gval (ov_move rfl) rfl rfl rfl rfl rfl ?_
        refine wl_gval (ov_neq rfl rfl) rfl rfl rfl rfl rfl ?_
        refine wl_val (ov_pick_f rfl rfl) rfl rfl rfl ?_
        refine wl_val (ov_move rfl) rfl rfl rfl ?_
        refine wl_gval (ov_move rfl) rfl rfl rfl rfl rfl ?_
        refine wl_gval (ov_len Try.underlying26 rfl) rfl rfl rfl rfl rfl ?_
        refine wl_gval (ov_neq rfl rfl) rfl rfl rfl rfl rfl ?_
        refine wl_val (ov_pick_f rfl rfl) rfl rfl rfl ?_
        refine wl_val (ov_move rfl) rfl rfl rfl ?_
        refine wl_gval (ov_move rfl) rfl rfl rfl rfl rfl ?_
        refine wl_gval (ov_neq rfl rfl) rfl rfl rfl rfl rfl ?_
        refine wl_val (ov_pick_f rfl rfl) rfl rfl rfl ?_
        refine wl_val (ov_move rfl) rfl rfl rfl ?_
        refine wl_gval (ov_move rfl) rfl rfl rfl rfl rfl ?_
        refine wl_gval (ov_move rfl) rfl rfl rfl rfl rfl ?_
        refine wl_gstep (or_call0 cl23 rfl rfl (bskipm_nil _ n)) rfl rfl rfl rfl rfl ?_
        rintro v w208 ⟨rfl, he85⟩
        replace hb_g23 := hb_g23.ext he85
        replace hb_g22 := hb_g22.ext he85
        replace hr := hr.ext he85
        replace hE := hE.tr he85
        have hz_he85 := he85.size
        refine wl_gval (ov_neq rfl rfl) rfl rfl rfl rfl rfl ?_
        refine wl_val (ov_pick_f rfl rfl) rfl rfl rfl ?_
        refine wl_val (ov_move rfl) rfl rfl rfl ?_
        refine wl_gval (ov_move rfl) rfl rfl rfl rfl rfl ?_
        refine wl_gval (ov_neq rfl rfl) rfl rfl rfl rfl rfl ?_
        refine wl_val (ov_pick_f rfl rfl) rfl rfl rfl ?_
        refine wl_val (ov_move rfl) rfl rfl rfl ?_
        refine wl_gval (ov_move rfl) rfl rfl rfl rfl rfl ?_
        refine wl_gval (ov_neq rfl rfl) rfl rfl rfl rfl rfl ?_
        refine wl_val (ov_pick_f rfl rfl) rfl rfl rfl ?_
        refine wl_val (ov_move rfl) rfl rfl rfl ?_
        refine wl_gval (ov_move rfl) rfl rfl rfl rfl rfl ?_
        refine wl_gstep (or_call0 cl20 rfl rfl (blen_nil _)) rfl rfl rfl rfl rfl ?_
        rintro v w209 ⟨rfl, he98⟩
        replace hb_g23 := hb_g23.ext he98
        replace hb_g22 := hb_g22.ext he98
        replace hr := hr.ext he98
        replace hE := hE.tr he98
        have hz_he98 := he98.size
        refine wl_gval (ov_neq rfl rfl) rfl rfl rfl rfl rfl ?_
        refine wl_val (ov_pick_f rfl rfl) rfl rfl rfl ?_
        refine wl_val (ov_move rfl) rfl rfl rfl ?_
        refine wl_gval (ov_move rfl) rfl rfl rfl rfl rfl ?_
        refine wl_gstep (or_call0 cl19 rfl rfl (broom_nil _)) rfl rfl rfl rfl rfl ?_
        rintro v w210 ⟨rfl, he103⟩
        replace hb_g23 := hb_g23.ext he103
        replace hb_g22 := hb_g22.ext he103
        replace hr := hr.ext he103
        replace hE := hE.tr he103
        have hz_he103 := he103.size
        refine wl_gval (ov_neq rfl rfl) rfl rfl rfl rfl rfl ?_
        refine wl_val (ov_pick_f rfl rfl) rfl rfl rfl ?_
        refine wl_val (ov_move rfl) rfl rfl rfl ?_
        refine wl_gval (ov_move rfl) rfl rfl rfl rfl rfl ?_
        refine wl_gstep (or_call0 cl28 rfl rfl (bcap_nil _)) rfl rfl rfl rfl rfl ?_
        rintro v w211 ⟨rfl, he108⟩
        replace hb_g23 := hb_g23.ext he108
        replace hb_g22 := hb_g22.ext he108
        replace hr := hr.ext he108
        replace hE := hE.tr he108
        have hz_he108 := he108.size
        refine wl_gval (ov_neq rfl rfl) rfl rfl rfl rfl rfl ?_
        refine wl_val (ov_pick_f rfl rfl) rfl rfl rfl ?_
        refine wl_val (ov_move rfl) rfl rfl rfl ?_
        refine wl_gval (ov_move rfl) rfl rfl rfl rfl rfl ?_
        refine wl_gstep (or_call0 cl25 rfl rfl (lcounts_nil _)) rfl rfl rfl rfl rfl ?_
        rintro v w212 ⟨rfl, he113⟩
        replace hb_g23 := hb_g23.ext he113
        replace hb_g22 := hb_g22.ext he113
        replace hr := hr.ext he113
        replace hE := hE.tr he113
        have hz_he113 := he113.size
        refine wl_gval (ov_not (b := true) rfl) rfl rfl rfl rfl rfl ?_
        refine wl_val (ov_pick_f rfl rfl) rfl rfl rfl ?_
        refine wl_val (ov_move rfl) rfl rfl rfl ?_
        refine wl_gval (ov_move rfl) rfl rfl rfl rfl rfl ?_
        refine wl_gstep (or_call0 cl29 rfl rfl (bcopy_nil _)) rfl rfl rfl rfl rfl ?_
        rintro v w213 ⟨rfl, he118⟩
        replace hb_g23 := hb_g23.ext he118
        replace hb_g22 := hb_g22.ext he118
        replace hr := hr.ext he118
        replace hE := hE.tr he118
        have hz_he118 := he118.size
        refine wl_gval (ov_nnilptr Try.underlying22 rfl) rfl rfl rfl rfl rfl ?_
        refine wl_val (ov_pick_f rfl rfl) rfl rfl rfl ?_
        refine q_nil ?_
        refine k_then ?_
        refine wc_cond_f rfl ?_
        refine q_skip ?_
        refine k_block ?_
        refine k_then ?_
        refine wc_regionL ?_
        refine wl_val (ov_add rfl rfl (wi64 (by omega) (by omega))) rfl rfl rfl ?_
        refine wl_val (ov_move rfl) rfl rfl rfl ?_
        refine q_nil ?_
        refine k_loop (0 + 1) (by decide) (⟨rfl, rfl, rfl, rfl, rfl, trivial⟩) (⟨by decide, hb_g23, hb_g22, hr, hE⟩)
      · refine q_skip ?_
        refine k_then ?_
        refine wc_seq ?_
        refine wc_block ?_
        refine wc_seq ?_
        refine wc_regionL ?_
        refine wl_step (or_rindex (m := ((1 : Nat))) sl53 rfl rfl (Blk.rdR hb_g23 (by simp [maxLen])) (fun _ _ => rfl) rfl) rfl rfl rfl ?_
        rintro v _ ⟨rfl, p27, rfl, hp27, hpl27, hph27⟩
        refine wl_val (ov_load oc22 rfl (cell_zero hp27 rfl)) rfl rfl rfl ?_
        refine wl_val (ov_assign rfl) rfl rfl rfl ?_
        refine q_nil ?_
        refine k_then ?_
        refine wc_seq ?_
        refine wc_regionL ?_
        refine wl_val (ov_move rfl) rfl rfl rfl ?_
        refine wl_val (ov_move rfl) rfl rfl rfl ?_
        refine wl_step (or_call0 cl18 rfl rfl (bput_zero _ _ hb_g22 0 0 _ _ l)) rfl rfl rfl ?_
        rintro v w203 ⟨rfl, he32⟩
        replace hb_g23 := hb_g23.ext he32
        replace hb_g22 := hb_g22.ext he32
        replace hr := hr.ext he32
        replace hE := hE.tr he32
        have hz_he32 := he32.size
        refine wl_val (ov_move rfl) rfl rfl rfl ?_
        refine wl_val (ov_extract rfl rfl) rfl rfl rfl ?_
        refine wl_val (ov_extract rfl rfl) rfl rfl rfl ?_
        refine wl_val (ov_assign rfl) rfl rfl rfl ?_
        refine wl_val (ov_assign rfl) rfl rfl rfl ?_
        refine q_nil ?_
        refine k_then ?_
        refine wc_seq ?_
        refine wc_regionL ?_
        refine wl_val (ov_move rfl) rfl rfl rfl ?_
        refine wl_val (ov_move rfl) rfl rfl rfl ?_
        refine wl_step (or_call0 cl22 rfl rfl (btake_zero _ _ hb_g22 n)) rfl rfl rfl ?_
        rintro v w204 ⟨rfl, he38⟩
        replace hb_g23 := hb_g23.ext he38
        replace hb_g22 := hb_g22.ext he38
        replace hr := hr.ext he38
        replace hE := hE.tr he38
        have hz_he38 := he38.size
        refine wl_val (ov_move rfl) rfl rfl rfl ?_
        refine wl_val (ov_extract rfl rfl) rfl rfl rfl ?_
        refine wl_val (ov_extract rfl rfl) rfl rfl rfl ?_
        refine wl_val (ov_assign rfl) rfl rfl rfl ?_
        refine wl_val (ov_assign rfl) rfl rfl rfl ?_
        refine q_nil ?_
        refine k_then ?_
        refine wc_seq ?_
        refine wc_regionL ?_
        refine wl_val (ov_move rfl) rfl rfl rfl ?_
        refine wl_val (ov_move rfl) rfl rfl rfl ?_
        refine wl_step (or_call0 cl27 rfl rfl (bpeek_zero _ _ hb_g22 n)) rfl rfl rfl ?_
        rintro v w205 ⟨rfl, he44⟩
        replace hb_g23 := hb_g23.ext he44
        replace hb_g22 := hb_g22.ext he44
        replace hr := hr.ext he44
        replace hE := hE.tr he44
        have hz_he44 := he44.size
        refine wl_val (ov_move rfl) rfl rfl rfl ?_
        refine wl_val (ov_extract rfl rfl) rfl rfl rfl ?_
        refine wl_val (ov_extract rfl rfl) rfl rfl rfl ?_
        refine wl_val (ov_assign rfl) rfl rfl rfl ?_
        refine wl_val (ov_assign rfl) rfl rfl rfl ?_
        refine q_nil ?_
        refine k_then ?_
        refine wc_seq ?_
        refine wc_regionL ?_
        refine wl_val (ov_move rfl) rfl rfl rfl ?_
        refine wl_step (or_call0 cl24 rfl rfl (bclear_zero _ _ hb_g22)) rfl rfl rfl ?_
        rintro v w206 ⟨rfl, he49⟩
        replace hb_g23 := hb_g23.ext he49
        replace hb_g22 := hb_g22.ext he49
        replace hr := hr.ext he49
        replace hE := hE.tr he49
        have hz_he49 := he49.size
        refine wl_val (ov_move rfl) rfl rfl rfl ?_
        refine wl_val (ov_extract rfl rfl) rfl rfl rfl ?_
        refine wl_val (ov_extract rfl rfl) rfl rfl rfl ?_
        refine wl_val (ov_assign rfl) rfl rfl rfl ?_
        refine wl_val (ov_assign rfl) rfl rfl rfl ?_
        refine q_nil ?_
        refine k_then ?_
        refine wc_seq ?_
        refine wc_regionL ?_
        refine wl_val (ov_move rfl) rfl rfl rfl ?_
        refine wl_val (ov_neq rfl rfl) rfl rfl rfl ?_
        refine wl_val (ov_move rfl) rfl rfl rfl ?_
        refine wl_gval (ov_move rfl) rfl rfl rfl rfl rfl ?_
        refine wl_gval (ov_neq rfl rfl) rfl rfl rfl rfl rfl ?_
        refine wl_val (ov_pick_f rfl rfl) rfl rfl rfl ?_
        refine wl_val (ov_move rfl) rfl rfl rfl ?_
        refine wl_gval (ov_move rfl) rfl rfl rfl rfl rfl ?_
        refine wl_gval (ov_move rfl) rfl rfl rfl rfl rfl ?_
        refine wl_gstep (or_call0 cl17 rfl rfl (bputall_zero _ _ hb_g22 0 0 _ _ l)) rfl rfl rfl rfl rfl ?_
        rintro v w207 ⟨rfl, he61⟩
        replace hb_g23 := hb_g23.ext he61
        replace hb_g22 := hb_g22.ext he61
        replace hr := hr.ext he61
        replace hE := hE.tr he61
        have hz_he61 := he61.size
        refine wl_gval (ov_neq rfl rfl) rfl rfl rfl rfl rfl ?_
        refine wl_val (ov_pick_f rfl rfl) rfl rfl rfl ?_
        refine wl_val (ov_move rfl) rfl rfl rfl ?_
        refine wl_gval (ov_move rfl) rfl rfl rfl rfl rfl ?_
        refine wl_gval (ov_len Try.underlying26 rfl) rfl rfl rfl rfl rfl ?_
        refine wl_gval (ov_neq rfl rfl) rfl rfl rfl rfl rfl ?_
        refine wl_val (ov_pick_f rfl rfl) rfl rfl rfl ?_
        refine wl_val (ov_move rfl) rfl rfl rfl ?_
        refine wl_gval (ov_move rfl) rfl rfl rfl rfl rfl ?_
        refine wl_gval (ov_neq rfl rfl) rfl rfl rfl rfl rfl ?_
        refine wl_val (ov_pick_f rfl rfl) rfl rfl rfl ?_
        refine wl_val (ov_move rfl) rfl rfl rfl ?_
        refine wl_gval (ov_move rfl) rfl rfl rfl rfl rfl ?_
        refine wl_gval (ov_len Try.underlying26 rfl) rfl rfl rfl rfl rfl ?_
        refine wl_gval (ov_neq rfl rfl) rfl rfl rfl rfl rfl ?_
        refine wl_val (ov_pick_f rfl rfl) rfl rfl rfl ?_
        refine wl_val (ov_move rfl) rfl rfl rfl ?_
        refine wl_gval (ov_move rfl) rfl rfl rfl rfl rfl ?_
        refine wl_gval (ov_neq rfl rfl) rfl rfl rfl rfl rfl ?_
        refine wl_val (ov_pick_f rfl rfl) rfl rfl rfl ?_
        refine wl_val (ov_move rfl) rfl rfl rfl ?_
        refine wl_gval (ov_move rfl) rfl rfl rfl rfl rfl ?_
        refine wl_gval (ov_move rfl) rfl rfl rfl rfl rfl ?_
        refine wl_gstep (or_call0 cl23 rfl rfl (bskipm_zero _ _ hb_g22 n)) rfl rfl rfl rfl rfl ?_
        rintro v w208 ⟨rfl, he85⟩
        replace hb_g23 := hb_g23.ext he85
        replace hb_g22 := hb_g22.ext he85
        replace hr := hr.ext he85
        replace hE := hE.tr he85
        have hz_he85 := he85.size
        refine wl_gval (ov_neq rfl rfl) rfl rfl rfl rfl rfl ?_
        refine wl_val (ov_pick_f rfl rfl) rfl rfl rfl ?_
        refine wl_val (ov_move rfl) rfl rfl rfl ?_
        refine wl_gval (ov_move rfl) rfl rfl rfl rfl rfl ?_
        refine wl_gval (ov_neq rfl rfl) rfl rfl rfl rfl rfl ?_
        refine wl_val (ov_pick_f rfl rfl) rfl rfl rfl ?_
        refine wl_val (ov_move rfl) rfl rfl rfl ?_
        refine wl_gval (ov_move rfl) rfl rfl rfl rfl rfl ?_
        refine wl_gval (ov_neq rfl rfl) rfl rfl rfl rfl rfl ?_
        refine wl_val (ov_pick_f rfl rfl) rfl rfl rfl ?_
        refine wl_val (ov_move rfl) rfl rfl rfl ?_
        refine wl_gval (ov_move rfl) rfl rfl rfl rfl rfl ?_
        refine wl_gstep (or_call0 cl20 rfl rfl (blen_zero _ _ hb_g22)) rfl rfl rfl rfl rfl ?_
        rintro v w209 ⟨rfl, he98⟩
        replace hb_g23 := hb_g23.ext he98
        replace hb_g22 := hb_g22.ext he98
        replace hr := hr.ext he98
        replace hE := hE.tr he98
        have hz_he98 := he98.size
        refine wl_gval (ov_neq rfl rfl) rfl rfl rfl rfl rfl ?_
        refine wl_val (ov_pick_f rfl rfl) rfl rfl rfl ?_
        refine wl_val (ov_move rfl) rfl rfl rfl ?_
        refine wl_gval (ov_move rfl) rfl rfl rfl rfl rfl ?_
        refine wl_gstep (or_call0 cl19 rfl rfl (broom_zero _ _ hb_g22)) rfl rfl rfl rfl rfl ?_
        rintro v w210 ⟨rfl, he103⟩
        replace hb_g23 := hb_g23.ext he103
        replace hb_g22 := hb_g22.ext he103
        replace hr := hr.ext he103
        replace hE := hE.tr he103
        have hz_he103 := he103.size
        refine wl_gval (ov_neq rfl rfl) rfl rfl rfl rfl rfl ?_
        refine wl_val (ov_pick_f rfl rfl) rfl rfl rfl ?_
        refine wl_val (ov_move rfl) rfl rfl rfl ?_
        refine wl_gval (ov_move rfl) rfl rfl rfl rfl rfl ?_
        refine wl_gstep (or_call0 cl28 rfl rfl (bcap_zero _ _ hb_g22)) rfl rfl rfl rfl rfl ?_
        rintro v w211 ⟨rfl, he108⟩
        replace hb_g23 := hb_g23.ext he108
        replace hb_g22 := hb_g22.ext he108
        replace hr := hr.ext he108
        replace hE := hE.tr he108
        have hz_he108 := he108.size
        refine wl_gval (ov_neq rfl rfl) rfl rfl rfl rfl rfl ?_
        refine wl_val (ov_pick_f rfl rfl) rfl rfl rfl ?_
        refine wl_val (ov_move rfl) rfl rfl rfl ?_
        refine wl_gval (ov_move rfl) rfl rfl rfl rfl rfl ?_
        refine wl_gstep (or_call0 cl25 rfl rfl (lcounts_zero _ _ hb_g22)) rfl rfl rfl rfl rfl ?_
        rintro v w212 ⟨rfl, he113⟩
        replace hb_g23 := hb_g23.ext he113
        replace hb_g22 := hb_g22.ext he113
        replace hr := hr.ext he113
        replace hE := hE.tr he113
        have hz_he113 := he113.size
        refine wl_gval (ov_not (b := true) rfl) rfl rfl rfl rfl rfl ?_
        refine wl_val (ov_pick_f rfl rfl) rfl rfl rfl ?_
        refine wl_val (ov_move rfl) rfl rfl rfl ?_
        refine wl_gval (ov_move rfl) rfl rfl rfl rfl rfl ?_
        refine wl_gstep (or_call0 cl29 rfl rfl (bcopy_zero _ _ hb_g22)) rfl rfl rfl rfl rfl ?_
        rintro v w213 ⟨rfl, he118⟩
        replace hb_g23 := hb_g23.ext he118
        replace hb_g22 := hb_g22.ext he118
        replace hr := hr.ext he118
        replace hE := hE.tr he118
        have hz_he118 := he118.size
        refine wl_gval (ov_nnilptr Try.underlying22 rfl) rfl rfl rfl rfl rfl ?_
        refine wl_val (ov_pick_f rfl rfl) rfl rfl rfl ?_
        refine q_nil ?_
        refine k_then ?_
        refine wc_cond_f rfl ?_
        refine q_skip ?_
        refine k_block ?_
        refine k_then ?_
        refine wc_regionL ?_
        refine wl_val (ov_add rfl rfl (wi64 (by omega) (by omega))) rfl rfl rfl ?_
        refine wl_val (ov_move rfl) rfl rfl rfl ?_
        refine q_nil ?_
        refine k_loop (1 + 1) (by decide) (⟨rfl, rfl, rfl, rfl, rfl, trivial⟩) (⟨by decide, hb_g23, hb_g22, hr, hE⟩)
    · refine q_exit ?_
      refine k_thenX ?_
      refine k_thenX ?_
      refine k_blockE ?_
      refine k_then ?_
      refine wc_seq ?_
      refine wc_regionL ?_
      refine wl_step (or_call0 cl16 rfl rfl (known27_any _)) rfl rfl rfl ?_
      rintro v w203 ⟨rfl, he122⟩
      replace hE := hE.tr he122
      have hz_he122 := he122.size
      refine wl_val (ov_assign rfl) rfl rfl rfl ?_
      refine q_nil ?_
      refine k_then ?_
      refine q_ret ?_
      refine e_ret rfl rfl ?_
      exact ⟨rfl, hE⟩

end Go.Proofs.Ytopfjpkjpmdhaaa
