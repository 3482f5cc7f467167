/-
  The walk of FrameLongs.
-/
import Derived.Test.YtfniipfdpoeapaaFa
namespace Go.Proofs.Ytfniipfdpoeapaa
open Go.RowKit
set_option linter.unusedVariables false
theorem cl14 : callable Try.prog 14 = true := by kernel_rfl

set_option maxHeartbeats 1000000 in
theorem frameLongs_walk (w : World) (more less : Int) :
    Fn Try.prog 4 #[(.int .i64 more), (.int .i64 less)] w (fun v w' => v = .bool true ∧ Ext w w') := by
  have hE := ext_refl w
  refine fn_enter (args := [(.int .i64 more), (.int .i64 less)]) Try.func4 rfl rfl rfl ?_
  show WC _ _ _ _ [(0, (.int .i64 more)), (1, (.int .i64 less))] _
  refine wc_seq ?_
  refine wc_regionL ?_
  refine wl_val (ov_assign rfl) rfl rfl rfl ?_
  refine q_nil ?_
  refine k_then ?_
  refine wc_seq ?_
  refine wc_seq ?_
  refine wc_regionL ?_
  refine wl_val (ov_move rfl) rfl rfl rfl ?_
  refine wl_val (ov_lss rfl rfl) rfl rfl rfl ?_
  refine wl_case_d (d := 12) rfl (fun h1 => ?_) (fun h1 => ?_)
  · refine wl_val (ov_move rfl) rfl rfl rfl ?_
    refine wl_gskip rfl rfl rfl rfl rfl rfl ?_
    refine wl_gskip rfl rfl rfl rfl rfl rfl ?_
    refine wl_val (ov_pick_t rfl rfl) rfl rfl rfl ?_
    refine wl_val (ov_move rfl) rfl rfl rfl ?_
    refine wl_gskip rfl rfl rfl rfl rfl rfl ?_
    refine wl_gskip rfl rfl rfl rfl rfl rfl ?_
    refine wl_val (ov_pick_t rfl rfl) rfl rfl rfl ?_
    refine wl_val (ov_move rfl) rfl rfl rfl ?_
    refine wl_gskip rfl rfl rfl rfl rfl rfl ?_
    refine wl_gskip rfl rfl rfl rfl rfl rfl ?_
    refine wl_val (ov_pick_t rfl rfl) rfl rfl rfl ?_
    refine q_nil ?_
    refine k_then ?_
    refine wc_cond_t rfl ?_
    refine wc_seq ?_
    refine wc_regionL ?_
    refine wl_step (or_call0 cl14 rfl rfl (known05_any _)) rfl rfl rfl ?_
    rintro v w1 ⟨rfl, he25⟩
    replace hE := hE.tr he25
    have hz_he25 := he25.size
    refine wl_val (ov_assign rfl) rfl rfl rfl ?_
    refine q_nil ?_
    refine k_then ?_
    refine q_ret ?_
    refine k_thenR ?_
    refine e_ret rfl rfl ?_
    exact ⟨rfl, hE⟩
  · refine wl_val (ov_move rfl) rfl rfl rfl ?_
    refine wl_gval (ov_move rfl) rfl rfl rfl rfl rfl ?_
    refine wl_gval (ov_gtr rfl rfl) rfl rfl rfl rfl rfl ?_
    refine wl_case_d (d := 15) rfl (fun h2 => ?_) (fun h2 => ?_)
    · refine wl_val (ov_pick_f rfl rfl) rfl rfl rfl ?_
      refine wl_val (ov_move rfl) rfl rfl rfl ?_
      refine wl_gskip rfl rfl rfl rfl rfl rfl ?_
      refine wl_gskip rfl rfl rfl rfl rfl rfl ?_
      refine wl_val (ov_pick_t rfl rfl) rfl rfl rfl ?_
      refine wl_val (ov_move rfl) rfl rfl rfl ?_
      refine wl_gskip rfl rfl rfl rfl rfl rfl ?_
      refine wl_gskip rfl rfl rfl rfl rfl rfl ?_
      refine wl_val (ov_pick_t rfl rfl) rfl rfl rfl ?_
      refine q_nil ?_
      refine k_then ?_
      refine wc_cond_t rfl ?_
      refine wc_seq ?_
      refine wc_regionL ?_
      refine wl_step (or_call0 cl14 rfl rfl (known05_any _)) rfl rfl rfl ?_
      rintro v w201 ⟨rfl, he25⟩
      replace hE := hE.tr he25
      have hz_he25 := he25.size
      refine wl_val (ov_assign rfl) rfl rfl rfl ?_
      refine q_nil ?_
      refine k_then ?_
      refine q_ret ?_
      refine k_thenR ?_
      refine e_ret rfl rfl ?_
      exact ⟨rfl, hE⟩
    · refine wl_val (ov_pick_f rfl rfl) rfl rfl rfl ?_
      refine wl_val (ov_move rfl) rfl rfl rfl ?_
      refine wl_gval (ov_move rfl) rfl rfl rfl rfl rfl ?_
      refine wl_gval (ov_lss rfl rfl) rfl rfl rfl rfl rfl ?_
      refine wl_case_d (d := 19) rfl (fun h3 => ?_) (fun h3 => ?_)
      · refine wl_val (ov_pick_f rfl rfl) rfl rfl rfl ?_
        refine wl_val (ov_move rfl) rfl rfl rfl ?_
        refine wl_gskip rfl rfl rfl rfl rfl rfl ?_
        refine wl_gskip rfl rfl rfl rfl rfl rfl ?_
        refine wl_val (ov_pick_t rfl rfl) rfl rfl rfl ?_
        refine q_nil ?_
        refine k_then ?_
        refine wc_cond_t rfl ?_
        refine wc_seq ?_
        refine wc_regionL ?_
        refine wl_step (or_call0 cl14 rfl rfl (known05_any _)) rfl rfl rfl ?_
        rintro v w201 ⟨rfl, he25⟩
        replace hE := hE.tr he25
        have hz_he25 := he25.size
        refine wl_val (ov_assign rfl) rfl rfl rfl ?_
        refine q_nil ?_
        refine k_then ?_
        refine q_ret ?_
        refine k_thenR ?_
        refine e_ret rfl rfl ?_
        exact ⟨rfl, hE⟩
      · refine wl_val (ov_pick_f rfl rfl) rfl rfl rfl ?_
        refine wl_val (ov_move rfl) rfl rfl rfl ?_
        refine wl_gval (ov_move rfl) rfl rfl rfl rfl rfl ?_
        refine wl_gval (ov_gtr rfl rfl) rfl rfl rfl rfl rfl ?_
        refine wl_val (ov_pick_f rfl rfl) rfl rfl rfl ?_
        refine q_nil ?_
        refine k_then ?_
        refine wc_cond_d rfl (fun hc1 => ?_) (fun hc1 => ?_)
        · refine wc_seq ?_
          refine wc_regionL ?_
          refine wl_step (or_call0 cl14 rfl rfl (known05_any _)) rfl rfl rfl ?_
          rintro v w201 ⟨rfl, he25⟩
          replace hE := hE.tr he25
          have hz_he25 := he25.size
          refine wl_val (ov_assign rfl) rfl rfl rfl ?_
          refine q_nil ?_
          refine k_then ?_
          refine q_ret ?_
          refine k_thenR ?_
          refine e_ret rfl rfl ?_
          exact ⟨rfl, hE⟩
        · obtain ⟨n, hn⟩ : ∃ n : Nat, 2097152 + more = (n : Int) := ⟨(2097152 + more).toNat, by omega⟩
          refine q_skip ?_
          refine k_then ?_
          refine wc_seq ?_
          refine wc_regionL ?_
          refine wl_val (ov_move rfl) rfl rfl rfl ?_
          refine wl_val (ov_add rfl rfl (wi64 (by omega) (by omega))) rfl rfl rfl ?_
          refine wl_spell (d := 27) rfl (v' := (.int .i64 (↑n : Int))) (by rw [hn]) ?_
          refine wl_step (or_makeBytes (n := n) bt22 rfl rfl (by omega) (by omega)) rfl rfl rfl ?_
          rintro v w201 ⟨A28, c28, rfl, ho28, he28⟩
          replace hE := hE.tr he28
          have hz_he28 := he28.size
          have hq_ho28 := fun g e => Own.lt ho28 (g := g) e
          have hpn : (List.replicate n (0 : UInt8)).length = n := List.length_replicate
          generalize List.replicate n (0 : UInt8) = p at ho28 hpn ⊢
          have hel := enc_len (p.length + 1)
          refine wl_val (ov_build (cs := [(.int .u8 3), (.slice A28 p.length c28)]) ze25 pl25 rfl rfl) rfl rfl rfl ?_
          refine wl_step (or_alloc (cs := [(.int .u8 0), (.slice none 0 0)]) ze25 rfl) rfl rfl rfl ?_
          rintro v w202 ⟨g5, rfl, hb_g5, he5, hl5, hu5⟩
          replace hE := hE.tr he5
          replace ho28 := Own.ext ho28 he5
          have hz_he5 := he5.size
          refine wl_step0 (or_storeBlk (vs := [(.int .u8 3), (.slice A28 p.length c28)]) sz25 rfl rfl (by simp [Value.oneCell']) hb_g5 rfl) rfl rfl ?_
          rintro _ w203 ⟨hN203, hg203⟩
          have hz_hg203 := hg203.size
          replace hE := hE.gr hg203 (fun _ e => by cases e; omega)
          replace ho28 := Own.gr ho28 hg203 (by first | exact .inl rfl | (right; intro e; first | (have := hq_ho28 _ e; omega) | (have := Own.lt ho28 e; omega) | exact own_blk_ne ho28 hb_g5 (by decide) e))
          replace hb_g5 := hN203
          refine q_nil ?_
          refine k_then ?_
          refine wc_seq ?_
          refine wc_regionL ?_
          refine wl_val (ov_loadBlk (cs := [(.int .u8 3), (.slice A28 p.length c28)]) ag25_2 rfl hb_g5) rfl rfl rfl ?_
          refine wl_step (or_call0 cl19 rfl rfl (fwrite_any _ _ _ (3) _ _ p (OwnB.rd ho28) (by omega))) rfl rfl rfl ?_
          rintro v w204 ⟨A32, c32, rfl, ho32, he32⟩
          replace hE := hE.tr he32
          replace ho28 := Own.ext ho28 he32
          replace hb_g5 := hb_g5.ext he32
          have hz_he32 := he32.size
          have hq_ho32 := fun g e => Own.lt ho32 (g := g) e
          refine wl_val (ov_move rfl) rfl rfl rfl ?_
          refine wl_val (ov_extract rfl rfl) rfl rfl rfl ?_
          refine wl_val (ov_extract rfl rfl) rfl rfl rfl ?_
          refine wl_val (ov_assign rfl) rfl rfl rfl ?_
          refine wl_val (ov_assign rfl) rfl rfl rfl ?_
          refine q_nil ?_
          refine k_then ?_
          refine wc_seq ?_
          refine wc_regionL ?_
          refine wl_val (ov_loadBlk (cs := [(.int .u8 3), (.slice A28 p.length c28)]) ag25_2 rfl hb_g5) rfl rfl rfl ?_
          refine wl_step (or_call0 cl20 rfl rfl (fsize_any _ (3) _ _ p (by omega))) rfl rfl rfl ?_
          rintro v w205 ⟨rfl, he37⟩
          replace hE := hE.tr he37
          replace ho28 := Own.ext ho28 he37
          replace hb_g5 := hb_g5.ext he37
          replace ho32 := Own.ext ho32 he37
          have hz_he37 := he37.size
          refine wl_val (ov_move rfl) rfl rfl rfl ?_
          refine wl_val (ov_extract rfl rfl) rfl rfl rfl ?_
          refine wl_val (ov_extract rfl rfl) rfl rfl rfl ?_
          refine wl_val (ov_assign rfl) rfl rfl rfl ?_
          refine wl_val (ov_assign rfl) rfl rfl rfl ?_
          refine q_nil ?_
          refine k_then ?_
          refine wc_seq ?_
          refine wc_seq ?_
          refine wc_regionL ?_
          refine wl_val (ov_move rfl) rfl rfl rfl ?_
          refine wl_val (ov_gtr rfl rfl) rfl rfl rfl ?_
          refine q_nil ?_
          refine k_then ?_
          refine wc_cond_d rfl (fun hc2 => ?_) (fun hc2 => ?_)
          · refine wc_seq ?_
            refine wc_regionL ?_
            refine wl_val (ov_move rfl) rfl rfl rfl ?_
            refine wl_val (ov_len Try.underlying22 rfl) rfl rfl rfl ?_
            refine wl_val (ov_eql rfl rfl) rfl rfl rfl ?_
            refine wl_spell (d := 44) rfl (bt (by rw [fwrite_long (by omega)]; rfl)) ?_
            refine wl_val (ov_move rfl) rfl rfl rfl ?_
            refine wl_gval (ov_move rfl) rfl rfl rfl rfl rfl ?_
            refine wl_gval (ov_eql rfl rfl) rfl rfl rfl rfl rfl ?_
            refine wl_spell (d := 47) rfl (bt (by rw [fwrite_long (by omega)]; rfl)) ?_
            refine wl_val (ov_pick_t rfl rfl) rfl rfl rfl ?_
            refine wl_val (ov_move rfl) rfl rfl rfl ?_
            refine wl_gval (ov_move rfl) rfl rfl rfl rfl rfl ?_
            refine wl_gval (ov_eql rfl rfl) rfl rfl rfl rfl rfl ?_
            refine wl_spell (d := 51) rfl (bt (by rw [fsize_N, fsizeN, if_pos (by omega)]; rfl)) ?_
            refine wl_val (ov_pick_t rfl rfl) rfl rfl rfl ?_
            refine wl_val (ov_move rfl) rfl rfl rfl ?_
            refine wl_gval (ov_move rfl) rfl rfl rfl rfl rfl ?_
            refine wl_gval (ov_eql rfl rfl) rfl rfl rfl rfl rfl ?_
            refine wl_spell (d := 55) rfl (bt (by rw [fsize_N, fsizeN, if_pos (by omega)]; rfl)) ?_
            refine wl_val (ov_pick_t rfl rfl) rfl rfl rfl ?_
            refine wl_val (ov_move rfl) rfl rfl rfl ?_
            refine wl_gstep (or_call0 cl14 rfl rfl (known05_any _)) rfl rfl rfl rfl rfl ?_
            rintro v w206 ⟨rfl, he58⟩
            replace hE := hE.tr he58
            replace ho28 := Own.ext ho28 he58
            replace hb_g5 := hb_g5.ext he58
            replace ho32 := Own.ext ho32 he58
            have hz_he58 := he58.size
            refine wl_val (ov_pick_t rfl rfl) rfl rfl rfl ?_
            refine wl_val (ov_assign rfl) rfl rfl rfl ?_
            refine q_nil ?_
            refine k_then ?_
            refine q_ret ?_
            refine k_thenR ?_
            refine e_ret rfl rfl ?_
            exact ⟨rfl, hE⟩
          · have hfw : fwrite (3) p = ((enc (p.length + 1) ++ [3] ++ p), 0) := fwrite_short (by omega)
            have hfs : fsize p = ((enc (p.length + 1)).length + (p.length + 1), 0) := by rw [fsize_N, fsizeN, if_neg (by omega)]
            simp only [hfw] at ho32
            refine wc_spell (d := 6) rfl (v' := .slice A32 (enc (p.length + 1) ++ [3] ++ p).length c32) (by rw [hfw]; rfl) ?_
            refine wc_spell (d := 7) rfl (v' := .int .i64 0) (by rw [hfw]; rfl) ?_
            refine wc_spell (d := 8) rfl (v' := .int .i64 (((enc (p.length + 1)).length + (p.length + 1) : Nat) : Int)) (by rw [hfs]; rfl) ?_
            refine wc_spell (d := 9) rfl (v' := .int .i64 0) (by rw [hfs]; rfl) ?_
            refine q_skip ?_
            refine k_then ?_
            refine wc_seq ?_
            refine wc_regionL ?_
            refine wl_val (ov_move rfl) rfl rfl rfl ?_
            refine wl_val (ov_add rfl rfl (wi64 (by omega) (by omega))) rfl rfl rfl ?_
            refine wl_val (ov_add rfl rfl (wi64 (by omega) (by omega))) rfl rfl rfl ?_
            refine wl_val (ov_assign rfl) rfl rfl rfl ?_
            refine q_nil ?_
            refine k_then ?_
            refine wc_seq ?_
            refine wc_seq ?_
            refine wc_regionL ?_
            refine wl_val (ov_move rfl) rfl rfl rfl ?_
            refine wl_val (ov_lss rfl rfl) rfl rfl rfl ?_
            refine q_nil ?_
            refine k_then ?_
            refine wc_cond_d rfl (fun hc3 => ?_) (fun hc3 => ?_)
            · have hel3 : (enc (p.length + 1)).length = 3 := enc_len_of 2 _ (by omega) (by show p.length + 1 < 2097152; omega) (.inr (by show 16384 ≤ p.length + 1; omega))
              refine wc_regionL ?_
              refine wl_val (ov_move rfl) rfl rfl rfl ?_
              refine wl_val (ov_sub rfl rfl (wi64 (by omega) (by omega))) rfl rfl rfl ?_
              refine wl_val (ov_assign rfl) rfl rfl rfl ?_
              refine q_nil ?_
              refine k_then ?_
              refine wc_seq ?_
              refine wc_seq ?_
              refine wc_regionL ?_
              refine wl_val (ov_move rfl) rfl rfl rfl ?_
              refine wl_val (ov_neq rfl rfl) rfl rfl rfl ?_
              refine wl_val (ov_move rfl) rfl rfl rfl ?_
              refine wl_gval (ov_move rfl) rfl rfl rfl rfl rfl ?_
              refine wl_gval (ov_neq rfl rfl) rfl rfl rfl rfl rfl ?_
              refine wl_val (ov_pick_f rfl rfl) rfl rfl rfl ?_
              refine wl_val (ov_move rfl) rfl rfl rfl ?_
              refine wl_gval (ov_move rfl) rfl rfl rfl rfl rfl ?_
              refine wl_gval (ov_len Try.underlying22 rfl) rfl rfl rfl rfl rfl ?_
              refine wl_gval (ov_move rfl) rfl rfl rfl rfl rfl ?_
              refine wl_gval (ov_neq rfl rfl) rfl rfl rfl rfl rfl ?_
              refine wl_spell (d := 77) rfl (bf (by simp)) ?_
              refine wl_val (ov_pick_f rfl rfl) rfl rfl rfl ?_
              refine wl_val (ov_move rfl) rfl rfl rfl ?_
              refine wl_gval (ov_move rfl) rfl rfl rfl rfl rfl ?_
              refine wl_gval (ov_move rfl) rfl rfl rfl rfl rfl ?_
              refine wl_gval (ov_neq rfl rfl) rfl rfl rfl rfl rfl ?_
              refine wl_spell (d := 82) rfl (bf (by omega)) ?_
              refine wl_val (ov_pick_f rfl rfl) rfl rfl rfl ?_
              refine q_nil ?_
              refine k_then ?_
              refine wc_cond_f rfl ?_
              refine q_skip ?_
              refine k_then ?_
              refine wc_seq ?_
              refine wc_seq ?_
              refine wc_regionL ?_
              refine wl_val (ov_move rfl) rfl rfl rfl ?_
              refine wl_val (ov_move rfl) rfl rfl rfl ?_
              refine wl_val (ov_neg rfl (wi64 (by omega) (by omega))) rfl rfl rfl ?_
              refine wl_val (ov_gtr rfl rfl) rfl rfl rfl ?_
              refine q_nil ?_
              refine k_then ?_
              refine wc_cond_d rfl (fun hc5 => ?_) (fun hc5 => ?_)
              · refine wc_seq ?_
                refine wc_regionL ?_
                refine wl_val (ov_move rfl) rfl rfl rfl ?_
                refine wl_val (ov_move rfl) rfl rfl rfl ?_
                refine wl_val (ov_sub rfl rfl (wi64 (by omega) (by omega))) rfl rfl rfl ?_
                refine wl_val (ov_build (cs := [(.int .u8 0), (.slice none 0 0)]) ze25 pl25 rfl rfl) rfl rfl rfl ?_
                refine wl_step (or_call0 cl16 rfl rfl (freads_any _ _ _ _ _ _ _ (enc (p.length + 1) ++ [3] ++ p) (2097152 - less) (by omega) (by omega) (0) _ _ [] 0 5 (OwnB.rd ho32) (RdB.nil _ 0 0) (by simp; omega) (by rw [fread_more (by omega) (by omega) (by omega) (by omega)]) (by rw [fread_more (by omega) (by omega) (by omega) (by omega)]; rfl) (by rw [fread_more (by omega) (by omega) (by omega) (by omega)]; rfl))) rfl rfl rfl ?_
                rintro v w206 ⟨rfl, he92⟩
                replace hE := hE.tr he92
                replace ho28 := Own.ext ho28 he92
                replace hb_g5 := hb_g5.ext he92
                replace ho32 := Own.ext ho32 he92
                have hz_he92 := he92.size
                refine wl_val (ov_move rfl) rfl rfl rfl ?_
                refine wl_gstep (or_call0 cl14 rfl rfl (known05_any _)) rfl rfl rfl rfl rfl ?_
                rintro v w207 ⟨rfl, he94⟩
                replace hE := hE.tr he94
                replace ho28 := Own.ext ho28 he94
                replace hb_g5 := hb_g5.ext he94
                replace ho32 := Own.ext ho32 he94
                have hz_he94 := he94.size
                refine wl_val (ov_pick_t rfl rfl) rfl rfl rfl ?_
                refine wl_val (ov_assign rfl) rfl rfl rfl ?_
                refine q_nil ?_
                refine k_then ?_
                refine q_ret ?_
                refine k_thenR ?_
                refine e_ret rfl rfl ?_
                exact ⟨rfl, hE⟩
              · refine q_skip ?_
                refine k_then ?_
                refine wc_seq ?_
                refine wc_regionL ?_
                refine wl_val (ov_move rfl) rfl rfl rfl ?_
                refine wl_val (ov_move rfl) rfl rfl rfl ?_
                refine wl_val (ov_sub rfl rfl (wi64 (by omega) (by omega))) rfl rfl rfl ?_
                refine wl_val (ov_loadBlk (cs := [(.int .u8 3), (.slice A28 p.length c28)]) ag25_2 rfl hb_g5) rfl rfl rfl ?_
                refine wl_val (ov_move rfl) rfl rfl rfl ?_
                refine wl_step (or_call0 cl16 rfl rfl (freads_any _ _ _ _ _ _ _ (enc (p.length + 1) ++ [3] ++ p) (2097152 - less) (by omega) (by omega) (3) _ _ p (((enc (p.length + 1)).length + (p.length + 1) : Nat) : Int) 0 (OwnB.rd ho32) (OwnB.rd ho28) (by simp; omega) (by rw [fread_wire0 (by omega) (by omega)]) (by rw [fread_wire0 (by omega) (by omega)]) (by rw [fread_wire0 (by omega) (by omega)]; rfl))) rfl rfl rfl ?_
                rintro v w206 ⟨rfl, he101⟩
                replace hE := hE.tr he101
                replace ho28 := Own.ext ho28 he101
                replace hb_g5 := hb_g5.ext he101
                replace ho32 := Own.ext ho32 he101
                have hz_he101 := he101.size
                refine wl_val (ov_move rfl) rfl rfl rfl ?_
                refine wl_gval (ov_move rfl) rfl rfl rfl rfl rfl ?_
                refine wl_gval (ov_move rfl) rfl rfl rfl rfl rfl ?_
                refine wl_gval (ov_sub rfl rfl (wi64 (by omega) (by omega))) rfl rfl rfl rfl rfl ?_
                have hlw : (enc (p.length + 1) ++ [3] ++ p).length = (enc (p.length + 1)).length + (p.length + 1) := by simp
                have hcap106 := RdB.cap (OwnB.rd ho32)
                refine wl_gstep (or_bslice bt22 rfl (OwnB.rd ho32) (bounds_h rfl (by omega) (by omega)) (by omega) (by omega) (by omega) (by omega)) rfl rfl rfl rfl rfl ?_
                rintro v _ ⟨rfl, A106, c106, rfl, hr106, hl106⟩
                have hs106 : ((enc (p.length + 1) ++ [3] ++ p).drop 0).take ((Int.toNat ((((enc (p.length + 1)).length + (p.length + 1) : Nat) : Int) - 1)) - 0) = ((enc (p.length + 1) ++ [3] ++ p).take ((enc (p.length + 1)).length + p.length)) := by rw [List.drop_zero, Nat.sub_zero]; congr 1; omega
                rw [hs106] at hr106 hl106; rw [hs106]; clear hs106
                refine wl_gval (ov_move rfl) rfl rfl rfl rfl rfl ?_
                refine wl_gval (ov_sub rfl rfl (wi64 (by omega) (by omega))) rfl rfl rfl rfl rfl ?_
                refine wl_gval (ov_build (cs := [(.int .u8 0), (.slice none 0 0)]) ze25 pl25 rfl rfl) rfl rfl rfl rfl rfl ?_
                have h6 := fread_cut (x := 3) (p := p) (most := 2097152 - less) (j := (enc (p.length + 1)).length + p.length) (by omega) (by omega) (by omega)
                have h5 : ((enc (p.length + 1) ++ [3] ++ p).take ((enc (p.length + 1)).length + p.length)).length ≤ 140737488355328 := by rw [List.length_take]; omega
                have hc110 := freads_any _ _ _ _ _ _ _ ((enc (p.length + 1) ++ [3] ++ p).take ((enc (p.length + 1)).length + p.length)) (2097152 - less) (by omega) (by omega) (0) _ _ [] 0 4 hr106 (RdB.nil _ 0 0) (h5) (by rw [h6]) (by rw [h6]; rfl) (by rw [h6]; rfl)
                refine wl_gstep (or_call0 cl16 rfl rfl (hc110)) rfl rfl rfl rfl rfl ?_
                rintro v w207 ⟨rfl, he110⟩
                replace hE := hE.tr he110
                replace ho28 := Own.ext ho28 he110
                replace hb_g5 := hb_g5.ext he110
                replace ho32 := Own.ext ho32 he110
                replace hr106 := hr106.ext he110
                have hz_he110 := he110.size
                refine wl_val (ov_pick_t rfl rfl) rfl rfl rfl ?_
                refine wl_val (ov_move rfl) rfl rfl rfl ?_
                refine wl_gstep (or_call0 cl14 rfl rfl (known05_any _)) rfl rfl rfl rfl rfl ?_
                rintro v w208 ⟨rfl, he113⟩
                replace hE := hE.tr he113
                replace ho28 := Own.ext ho28 he113
                replace hb_g5 := hb_g5.ext he113
                replace ho32 := Own.ext ho32 he113
                replace hr106 := hr106.ext he113
                have hz_he113 := he113.size
                refine wl_val (ov_pick_t rfl rfl) rfl rfl rfl ?_
                refine wl_val (ov_assign rfl) rfl rfl rfl ?_
                refine q_nil ?_
                refine k_then ?_
                refine q_ret ?_
                refine e_ret rfl rfl ?_
                exact ⟨rfl, hE⟩
            · have hel4 : (enc (p.length + 1)).length = 4 := enc_len_of 3 _ (by omega) (by show p.length + 1 < 268435456; omega) (.inr (by show 2097152 ≤ p.length + 1; omega))
              refine q_skip ?_
              refine k_then ?_
              refine wc_seq ?_
              refine wc_seq ?_
              refine wc_regionL ?_
              refine wl_val (ov_move rfl) rfl rfl rfl ?_
              refine wl_val (ov_neq rfl rfl) rfl rfl rfl ?_
              refine wl_val (ov_move rfl) rfl rfl rfl ?_
              refine wl_gval (ov_move rfl) rfl rfl rfl rfl rfl ?_
              refine wl_gval (ov_neq rfl rfl) rfl rfl rfl rfl rfl ?_
              refine wl_val (ov_pick_f rfl rfl) rfl rfl rfl ?_
              refine wl_val (ov_move rfl) rfl rfl rfl ?_
              refine wl_gval (ov_move rfl) rfl rfl rfl rfl rfl ?_
              refine wl_gval (ov_len Try.underlying22 rfl) rfl rfl rfl rfl rfl ?_
              refine wl_gval (ov_move rfl) rfl rfl rfl rfl rfl ?_
              refine wl_gval (ov_neq rfl rfl) rfl rfl rfl rfl rfl ?_
              refine wl_spell (d := 77) rfl (bf (by simp)) ?_
              refine wl_val (ov_pick_f rfl rfl) rfl rfl rfl ?_
              refine wl_val (ov_move rfl) rfl rfl rfl ?_
              refine wl_gval (ov_move rfl) rfl rfl rfl rfl rfl ?_
              refine wl_gval (ov_move rfl) rfl rfl rfl rfl rfl ?_
              refine wl_gval (ov_neq rfl rfl) rfl rfl rfl rfl rfl ?_
              refine wl_spell (d := 82) rfl (bf (by omega)) ?_
              refine wl_val (ov_pick_f rfl rfl) rfl rfl rfl ?_
              refine q_nil ?_
              refine k_then ?_
              refine wc_cond_f rfl ?_
              refine q_skip ?_
              refine k_then ?_
              refine wc_seq ?_
              refine wc_seq ?_
              refine wc_regionL ?_
              refine wl_val (ov_move rfl) rfl rfl rfl ?_
              refine wl_val (ov_move rfl) rfl rfl rfl ?_
              refine wl_val (ov_neg rfl (wi64 (by omega) (by omega))) rfl rfl rfl ?_
              refine wl_val (ov_gtr rfl rfl) rfl rfl rfl ?_
              refine q_nil ?_
              refine k_then ?_
              refine wc_cond_d rfl (fun hc5 => ?_) (fun hc5 => ?_)
              · refine wc_seq ?_
                refine wc_regionL ?_
                refine wl_val (ov_move rfl) rfl rfl rfl ?_
                refine wl_val (ov_move rfl) rfl rfl rfl ?_
                refine wl_val (ov_sub rfl rfl (wi64 (by omega) (by omega))) rfl rfl rfl ?_
                refine wl_val (ov_build (cs := [(.int .u8 0), (.slice none 0 0)]) ze25 pl25 rfl rfl) rfl rfl rfl ?_
                refine wl_step (or_call0 cl16 rfl rfl (freads_any _ _ _ _ _ _ _ (enc (p.length + 1) ++ [3] ++ p) (2097152 - less) (by omega) (by omega) (0) _ _ [] 0 5 (OwnB.rd ho32) (RdB.nil _ 0 0) (by simp; omega) (by rw [fread_more (by omega) (by omega) (by omega) (by omega)]) (by rw [fread_more (by omega) (by omega) (by omega) (by omega)]; rfl) (by rw [fread_more (by omega) (by omega) (by omega) (by omega)]; rfl))) rfl rfl rfl ?_
                rintro v w206 ⟨rfl, he92⟩
                replace hE := hE.tr he92
                replace ho28 := Own.ext ho28 he92
                replace hb_g5 := hb_g5.ext he92
                replace ho32 := Own.ext ho32 he92
                have hz_he92 := he92.size
                refine wl_val (ov_move rfl) rfl rfl rfl ?_
                refine wl_gstep (or_call0 cl14 rfl rfl (known05_any _)) rfl rfl rfl rfl rfl ?_
                rintro v w207 ⟨rfl, he94⟩
                replace hE := hE.tr he94
                replace ho28 := Own.ext ho28 he94
                replace hb_g5 := hb_g5.ext he94
                replace ho32 := Own.ext ho32 he94
                have hz_he94 := he94.size
                refine wl_val (ov_pick_t rfl rfl) rfl rfl rfl ?_
                refine wl_val (ov_assign rfl) rfl rfl rfl ?_
                refine q_nil ?_
                refine k_then ?_
                refine q_ret ?_
                refine k_thenR ?_
                refine e_ret rfl rfl ?_
                exact ⟨rfl, hE⟩
              · refine q_skip ?_
                refine k_then ?_
                refine wc_seq ?_
                refine wc_regionL ?_
                refine wl_val (ov_move rfl) rfl rfl rfl ?_
                refine wl_val (ov_move rfl) rfl rfl rfl ?_
                refine wl_val (ov_sub rfl rfl (wi64 (by omega) (by omega))) rfl rfl rfl ?_
                refine wl_val (ov_loadBlk (cs := [(.int .u8 3), (.slice A28 p.length c28)]) ag25_2 rfl hb_g5) rfl rfl rfl ?_
                refine wl_val (ov_move rfl) rfl rfl rfl ?_
                refine wl_step (or_call0 cl16 rfl rfl (freads_any _ _ _ _ _ _ _ (enc (p.length + 1) ++ [3] ++ p) (2097152 - less) (by omega) (by omega) (3) _ _ p (((enc (p.length + 1)).length + (p.length + 1) : Nat) : Int) 0 (OwnB.rd ho32) (OwnB.rd ho28) (by simp; omega) (by rw [fread_wire0 (by omega) (by omega)]) (by rw [fread_wire0 (by omega) (by omega)]) (by rw [fread_wire0 (by omega) (by omega)]; rfl))) rfl rfl rfl ?_
                rintro v w206 ⟨rfl, he101⟩
                replace hE := hE.tr he101
                replace ho28 := Own.ext ho28 he101
                replace hb_g5 := hb_g5.ext he101
                replace ho32 := Own.ext ho32 he101
                have hz_he101 := he101.size
                refine wl_val (ov_move rfl) rfl rfl rfl ?_
                refine wl_gval (ov_move rfl) rfl rfl rfl rfl rfl ?_
                refine wl_gval (ov_move rfl) rfl rfl rfl rfl rfl ?_
                refine wl_gval (ov_sub rfl rfl (wi64 (by omega) (by omega))) rfl rfl rfl rfl rfl ?_
                have hlw : (enc (p.length + 1) ++ [3] ++ p).length = (enc (p.length + 1)).length + (p.length + 1) := by simp
                have hcap106 := RdB.cap (OwnB.rd ho32)
                refine wl_gstep (or_bslice bt22 rfl (OwnB.rd ho32) (bounds_h rfl (by omega) (by omega)) (by omega) (by omega) (by omega) (by omega)) rfl rfl rfl rfl rfl ?_
                rintro v _ ⟨rfl, A106, c106, rfl, hr106, hl106⟩
                have hs106 : ((enc (p.length + 1) ++ [3] ++ p).drop 0).take ((Int.toNat ((((enc (p.length + 1)).length + (p.length + 1) : Nat) : Int) - 1)) - 0) = ((enc (p.length + 1) ++ [3] ++ p).take ((enc (p.length + 1)).length + p.length)) := by rw [List.drop_zero, Nat.sub_zero]; congr 1; omega
                rw [hs106] at hr106 hl106; rw [hs106]; clear hs106
                refine wl_gval (ov_move rfl) rfl rfl rfl rfl rfl ?_
                refine wl_gval (ov_sub rfl rfl (wi64 (by omega) (by omega))) rfl rfl rfl rfl rfl ?_
                refine wl_gval (ov_build (cs := [(.int .u8 0), (.slice none 0 0)]) ze25 pl25 rfl rfl) rfl rfl rfl rfl rfl ?_
                have h6 := fread_cut (x := 3) (p := p) (most := 2097152 - less) (j := (enc (p.length + 1)).length + p.length) (by omega) (by omega) (by omega)
                have h5 : ((enc (p.length + 1) ++ [3] ++ p).take ((enc (p.length + 1)).length + p.length)).length ≤ 140737488355328 := by rw [List.length_take]; omega
                have hc110 := freads_any _ _ _ _ _ _ _ ((enc (p.length + 1) ++ [3] ++ p).take ((enc (p.length + 1)).length + p.length)) (2097152 - less) (by omega) (by omega) (0) _ _ [] 0 4 hr106 (RdB.nil _ 0 0) (h5) (by rw [h6]) (by rw [h6]; rfl) (by rw [h6]; rfl)
                refine wl_gstep (or_call0 cl16 rfl rfl (hc110)) rfl rfl rfl rfl rfl ?_
                rintro v w207 ⟨rfl, he110⟩
                replace hE := hE.tr he110
                replace ho28 := Own.ext ho28 he110
                replace hb_g5 := hb_g5.ext he110
                replace ho32 := Own.ext ho32 he110
                replace hr106 := hr106.ext he110
                have hz_he110 := he110.size
                refine wl_val (ov_pick_t rfl rfl) rfl rfl rfl ?_
                refine wl_val (ov_move rfl) rfl rfl rfl ?_
                refine wl_gstep (or_call0 cl14 rfl rfl (known05_any _)) rfl rfl rfl rfl rfl ?_
                rintro v w208 ⟨rfl, he113⟩
                replace hE := hE.tr he113
                replace ho28 := Own.ext ho28 he113
                replace hb_g5 := hb_g5.ext he113
                replace ho32 := Own.ext ho32 he113
                replace hr106 := hr106.ext he113
                have hz_he113 := he113.size
                refine wl_val (ov_pick_t rfl rfl) rfl rfl rfl ?_
                refine wl_val (ov_assign rfl) rfl rfl rfl ?_
                refine q_nil ?_
                refine k_then ?_
                refine q_ret ?_
                refine e_ret rfl rfl ?_
                exact ⟨rfl, hE⟩

end Go.Proofs.Ytfniipfdpoeapaa
