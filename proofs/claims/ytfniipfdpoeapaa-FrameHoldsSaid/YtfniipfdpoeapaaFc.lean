/-
  The walk of FrameHolds.
-/
import Derived.Test.YtfniipfdpoeapaaFa
namespace Go.Proofs.Ytfniipfdpoeapaa
open Go.RowKit
set_option linter.unusedVariables false
theorem cl14 : callable Try.prog 14 = true := by kernel_rfl

set_option maxHeartbeats 1000000 in
theorem frameHolds_walk (w : World) (lo hi lo2 hi2 : Nat) (x : UInt8) (A : Option Addr) (c : Nat) (p : List UInt8) (B : Option Addr) (c2 : Nat) (m : List UInt8) (hr : RdB w lo hi A c p) (hr2 : RdB w lo2 hi2 B c2 m) :
    Fn Try.prog 6 #[(.agg #[(.int .u8 (↑x.toNat : Int)), (.slice A p.length c)]), (.slice B m.length c2)] w (fun v w' => v = .bool true ∧ Ext w w') := by
  replace hr := hr.top
  replace hr2 := hr2.top
  have hE := ext_refl w
  have hel := enc_len (p.length + 1)
  refine fn_enter (args := [(.agg #[(.int .u8 (↑x.toNat : Int)), (.slice A p.length c)]), (.slice B m.length c2)]) Try.func6 rfl rfl rfl ?_
  show WC _ _ _ _ [(0, (.agg #[(.int .u8 (↑x.toNat : Int)), (.slice A p.length c)])), (1, (.slice B m.length c2))] _
  refine wc_seq ?_
  refine wc_regionL ?_
  refine wl_step (or_box (cs := [(.int .u8 (↑x.toNat : Int)), (.slice A p.length c)]) rfl rfl) rfl rfl rfl ?_
  rintro v w1 ⟨g2, rfl, hb_g2, he2, hl2, hu2⟩
  replace hr := hr.ext he2
  replace hr2 := hr2.ext he2
  replace hE := hE.tr he2
  have hz_he2 := he2.size
  refine wl_val (ov_assign rfl) rfl rfl rfl ?_
  refine q_nil ?_
  refine k_then ?_
  refine wc_seq ?_
  refine wc_seq ?_
  refine wc_regionL ?_
  refine wl_val (ov_field0 (off := 1) fo25_1 rfl) rfl rfl rfl ?_
  refine wl_val (ov_loadAt oc22 rfl hb_g2 rfl) rfl rfl rfl ?_
  refine wl_val (ov_len Try.underlying22 rfl) rfl rfl rfl ?_
  refine wl_val (ov_gtr rfl rfl) rfl rfl rfl ?_
  refine wl_case_d (d := 13) rfl (fun h300 => ?_) (fun h300 => ?_)
  · refine wl_val (ov_move rfl) rfl rfl rfl ?_
    refine wl_gskip rfl rfl rfl rfl rfl rfl ?_
    refine wl_gskip rfl rfl rfl rfl rfl rfl ?_
    refine wl_gskip rfl rfl rfl rfl rfl rfl ?_
    refine wl_val (ov_pick_t rfl rfl) rfl rfl rfl ?_
    refine q_nil ?_
    refine k_then ?_
    refine wc_cond_t rfl ?_
    refine wc_seq ?_
    refine wc_regionL ?_
    refine wl_step (or_call0 cl14 rfl rfl (known05_any _)) rfl rfl rfl ?_
    rintro v w2 ⟨rfl, he19⟩
    replace hr := hr.ext he19
    replace hr2 := hr2.ext he19
    replace hE := hE.tr he19
    replace hb_g2 := hb_g2.ext he19
    have hz_he19 := he19.size
    refine wl_val (ov_assign rfl) rfl rfl rfl ?_
    refine q_nil ?_
    refine k_then ?_
    refine q_ret ?_
    refine k_thenR ?_
    refine e_ret rfl rfl ?_
    exact ⟨rfl, hE⟩
  · refine wl_val (ov_move rfl) rfl rfl rfl ?_
    refine wl_gval (ov_move rfl) rfl rfl rfl rfl rfl ?_
    refine wl_gval (ov_len Try.underlying22 rfl) rfl rfl rfl rfl rfl ?_
    refine wl_gval (ov_gtr rfl rfl) rfl rfl rfl rfl rfl ?_
    refine wl_val (ov_pick_f rfl rfl) rfl rfl rfl ?_
    refine q_nil ?_
    refine k_then ?_
    refine wc_cond_d rfl (fun hc1 => ?_) (fun hc1 => ?_)
    · refine wc_seq ?_
      refine wc_regionL ?_
      refine wl_step (or_call0 cl14 rfl rfl (known05_any _)) rfl rfl rfl ?_
      rintro v w202 ⟨rfl, he19⟩
      replace hr := hr.ext he19
      replace hr2 := hr2.ext he19
      replace hE := hE.tr he19
      replace hb_g2 := hb_g2.ext he19
      have hz_he19 := he19.size
      refine wl_val (ov_assign rfl) rfl rfl rfl ?_
      refine q_nil ?_
      refine k_then ?_
      refine q_ret ?_
      refine k_thenR ?_
      refine e_ret rfl rfl ?_
      exact ⟨rfl, hE⟩
    · refine q_skip ?_
      refine k_then ?_
      refine wc_seq ?_
      refine wc_regionL ?_
      refine wl_val (ov_loadBlk (cs := [(.int .u8 (↑x.toNat : Int)), (.slice A p.length c)]) ag25_2 rfl hb_g2) rfl rfl rfl ?_
      refine wl_step (or_call0 cl19 rfl rfl (fwrite_any _ _ _ (x) _ _ p hr (by omega))) rfl rfl rfl ?_
      rintro v w202 ⟨A22, c22, rfl, ho22, he22⟩
      replace hr := hr.ext he22
      replace hr2 := hr2.ext he22
      replace hE := hE.tr he22
      replace hb_g2 := hb_g2.ext he22
      have hz_he22 := he22.size
      have hq_ho22 := fun g e => Own.lt ho22 (g := g) e
      rw [show fwrite x p = (enc (p.length + 1) ++ [x] ++ p, 0) from fwrite_short (by omega)] at ho22
      refine wl_spell (d := 22) rfl (v' := .tuple #[.slice A22 (enc (p.length + 1) ++ [x] ++ p).length c22, .int .i64 0]) (by rw [show fwrite x p = (enc (p.length + 1) ++ [x] ++ p, 0) from fwrite_short (by omega)]; rfl) ?_
      refine wl_val (ov_move rfl) rfl rfl rfl ?_
      refine wl_val (ov_extract rfl rfl) rfl rfl rfl ?_
      refine wl_val (ov_extract rfl rfl) rfl rfl rfl ?_
      refine wl_val (ov_assign rfl) rfl rfl rfl ?_
      refine wl_val (ov_assign rfl) rfl rfl rfl ?_
      refine q_nil ?_
      refine k_then ?_
      refine wc_seq ?_
      refine wc_regionL ?_
      refine wl_val (ov_loadBlk (cs := [(.int .u8 (↑x.toNat : Int)), (.slice A p.length c)]) ag25_2 rfl hb_g2) rfl rfl rfl ?_
      refine wl_step (or_call0 cl20 rfl rfl (fsize_any _ (x) _ _ p (by omega))) rfl rfl rfl ?_
      rintro v w203 ⟨rfl, he27⟩
      replace hr := hr.ext he27
      replace hr2 := hr2.ext he27
      replace hE := hE.tr he27
      replace hb_g2 := hb_g2.ext he27
      replace ho22 := Own.ext ho22 he27
      have hz_he27 := he27.size
      refine wl_spell (d := 27) rfl (v' := .tuple #[.int .i64 (((enc (p.length + 1)).length + (p.length + 1) : Nat) : Int), .int .i64 0]) (by rw [fsize_N, fsizeN, if_neg (by omega)]; rfl) ?_
      refine wl_val (ov_move rfl) rfl rfl rfl ?_
      refine wl_val (ov_extract rfl rfl) rfl rfl rfl ?_
      refine wl_val (ov_extract rfl rfl) rfl rfl rfl ?_
      refine wl_val (ov_assign rfl) rfl rfl rfl ?_
      refine wl_val (ov_assign rfl) rfl rfl rfl ?_
      refine q_nil ?_
      refine k_then ?_
      refine wc_seq ?_
      refine wc_seq ?_
      refine wc_drawR mixed (Bel w203.heap.size) (bel_ext) (bel_tr) 22 [(30, eqv (.int .i64 0)), (31, eqv (.bool false)), (32, eqv (.bool false)), (33, eqv (.int .i64 0)), (34, eqv (.bool false)), (35, eqv (.bool false)), (36, eqv (.bool false)), (37, eqv (.slice A22 (enc (p.length + 1) ++ [x] ++ p).length c22)), (38, eqv (.int .i64 (↑(enc (p.length + 1) ++ [x] ++ p).length : Int))), (39, eqv (.int .i64 (((enc (p.length + 1)).length + (p.length + 1) : Nat) : Int))), (40, eqv (.bool false)), (41, eqv (.bool false)), (42, eqv (.bool false)), (43, eqv (.slice A22 (enc (p.length + 1) ++ [x] ++ p).length c22)), (44, isOwnB w203.heap.size 5 (enc (p.length + 1) ++ [x] ++ p)), (45, eqv (.slice B m.length c2)), (46, isOwnB w203.heap.size 5 ((enc (p.length + 1) ++ [x] ++ p) ++ m)), (47, eqv (.pointer (some ⟨g2, 1, none⟩))), (48, eqv (.slice A p.length c)), (49, eqv (.int .i64 (↑p.length : Int))), (50, eqv (.agg #[(.int .u8 (↑x.toNat : Int)), (.slice A p.length c)])), (51, eqv (.int .i64 (((enc (p.length + 1)).length + (p.length + 1) : Nat) : Int)))] [[], [0], [1], [2], [2, 3], [2, 4], [5], [6], [6, 7], [6], [6, 8, 9], [6, 10], [11], [12], [12, 13], [12], [12, 14, 15], [12], [12, 17], [12, 18], [12], [12]] [false, false, false, false, false, false, false, false, false, false, false, false, false, false, true, false, true, false, false, false, false, false] [false, false, false, false, false, false, false, false, false, false, false, false, false, false, false, false, true, false, false, false, false, false] [true, true, true, true, true, true, true, true, true, true, true, true, true, true, false, true, true, true, true, true, true, true] (by kernel_rfl) rfl ⟨stb_eqv _, stb_eqv _, stb_eqv _, stb_eqv _, stb_eqv _, stb_eqv _, stb_eqv _, stb_eqv _, stb_eqv _, stb_eqv _, stb_eqv _, stb_eqv _, stb_eqv _, stb_eqv _, stb_isOwnB _ _ _, stb_eqv _, stb_isOwnB _ _ _, stb_eqv _, stb_eqv _, stb_eqv _, stb_eqv _, stb_eqv _, trivial⟩ ⟨?_, ?_, ?_, ?_, ?_, ?_, ?_, ?_, ?_, ?_, ?_, ?_, ?_, ?_, ?_, ?_, ?_, ?_, ?_, ?_, ?_, ?_, trivial⟩ ?_
      · intro wd hxE
        replace hxE := bel_out hxE
        replace hr := hr.ext hxE
        replace hr2 := hr2.ext hxE
        replace hE := hE.tr hxE
        replace hb_g2 := hb_g2.ext hxE
        replace ho22 := Own.ext ho22 hxE
        have hz_hxE := hxE.size
        show OpG _ _ _ _ _ _
        exact og_plain rfl (ox_val (ov_move rfl))
      · intro wd hxE
        replace hxE := bel_out hxE
        replace hr := hr.ext hxE
        replace hr2 := hr2.ext hxE
        replace hE := hE.tr hxE
        replace hb_g2 := hb_g2.ext hxE
        replace ho22 := Own.ext ho22 hxE
        have hz_hxE := hxE.size
        rintro _ rfl
        show OpG _ _ _ _ _ _
        exact og_plain rfl (ox_F (by decide) (ov_neq rfl rfl))
      · intro wd hxE
        replace hxE := bel_out hxE
        replace hr := hr.ext hxE
        replace hr2 := hr2.ext hxE
        replace hE := hE.tr hxE
        replace hb_g2 := hb_g2.ext hxE
        replace ho22 := Own.ext ho22 hxE
        have hz_hxE := hxE.size
        rintro _ rfl
        show OpG _ _ _ _ _ _
        exact og_plain rfl (ox_val (ov_move rfl))
      · intro wd hxE
        replace hxE := bel_out hxE
        replace hr := hr.ext hxE
        replace hr2 := hr2.ext hxE
        replace hE := hE.tr hxE
        replace hb_g2 := hb_g2.ext hxE
        replace ho22 := Own.ext ho22 hxE
        have hz_hxE := hxE.size
        rintro _ rfl
        show OpG _ _ _ _ _ _
        exact og_on rfl rfl rfl (ox_val (ov_move rfl))
      · intro wd hxE
        replace hxE := bel_out hxE
        replace hr := hr.ext hxE
        replace hr2 := hr2.ext hxE
        replace hE := hE.tr hxE
        replace hb_g2 := hb_g2.ext hxE
        replace ho22 := Own.ext ho22 hxE
        have hz_hxE := hxE.size
        rintro _ rfl
        rintro _ rfl
        show OpG _ _ _ _ _ _
        exact og_on rfl rfl rfl (ox_F (by decide) (ov_neq rfl rfl))
      · intro wd hxE
        replace hxE := bel_out hxE
        replace hr := hr.ext hxE
        replace hr2 := hr2.ext hxE
        replace hE := hE.tr hxE
        replace hb_g2 := hb_g2.ext hxE
        replace ho22 := Own.ext ho22 hxE
        have hz_hxE := hxE.size
        rintro _ rfl
        rintro _ rfl
        show OpG _ _ _ _ _ _
        exact og_plain rfl (ox_val (ov_pick_f rfl rfl))
      · intro wd hxE
        replace hxE := bel_out hxE
        replace hr := hr.ext hxE
        replace hr2 := hr2.ext hxE
        replace hE := hE.tr hxE
        replace hb_g2 := hb_g2.ext hxE
        replace ho22 := Own.ext ho22 hxE
        have hz_hxE := hxE.size
        rintro _ rfl
        show OpG _ _ _ _ _ _
        exact og_plain rfl (ox_val (ov_move rfl))
      · intro wd hxE
        replace hxE := bel_out hxE
        replace hr := hr.ext hxE
        replace hr2 := hr2.ext hxE
        replace hE := hE.tr hxE
        replace hb_g2 := hb_g2.ext hxE
        replace ho22 := Own.ext ho22 hxE
        have hz_hxE := hxE.size
        rintro _ rfl
        show OpG _ _ _ _ _ _
        exact og_on rfl rfl rfl (ox_val (ov_move rfl))
      · intro wd hxE
        replace hxE := bel_out hxE
        replace hr := hr.ext hxE
        replace hr2 := hr2.ext hxE
        replace hE := hE.tr hxE
        replace hb_g2 := hb_g2.ext hxE
        replace ho22 := Own.ext ho22 hxE
        have hz_hxE := hxE.size
        rintro _ rfl
        rintro _ rfl
        show OpG _ _ _ _ _ _
        exact og_on rfl rfl rfl (ox_val (ov_len Try.underlying22 rfl))
      · intro wd hxE
        replace hxE := bel_out hxE
        replace hr := hr.ext hxE
        replace hr2 := hr2.ext hxE
        replace hE := hE.tr hxE
        replace hb_g2 := hb_g2.ext hxE
        replace ho22 := Own.ext ho22 hxE
        have hz_hxE := hxE.size
        rintro _ rfl
        show OpG _ _ _ _ _ _
        exact og_on rfl rfl rfl (ox_val (ov_move rfl))
      · intro wd hxE
        replace hxE := bel_out hxE
        replace hr := hr.ext hxE
        replace hr2 := hr2.ext hxE
        replace hE := hE.tr hxE
        replace hb_g2 := hb_g2.ext hxE
        replace ho22 := Own.ext ho22 hxE
        have hz_hxE := hxE.size
        rintro _ rfl
        rintro _ rfl
        rintro _ rfl
        show OpG _ _ _ _ _ _
        exact og_on rfl rfl rfl (ox_F (by simp) (ov_neq rfl rfl))
      · intro wd hxE
        replace hxE := bel_out hxE
        replace hr := hr.ext hxE
        replace hr2 := hr2.ext hxE
        replace hE := hE.tr hxE
        replace hb_g2 := hb_g2.ext hxE
        replace ho22 := Own.ext ho22 hxE
        have hz_hxE := hxE.size
        rintro _ rfl
        rintro _ rfl
        show OpG _ _ _ _ _ _
        exact og_plain rfl (ox_val (ov_pick_f rfl rfl))
      · intro wd hxE
        replace hxE := bel_out hxE
        replace hr := hr.ext hxE
        replace hr2 := hr2.ext hxE
        replace hE := hE.tr hxE
        replace hb_g2 := hb_g2.ext hxE
        replace ho22 := Own.ext ho22 hxE
        have hz_hxE := hxE.size
        rintro _ rfl
        show OpG _ _ _ _ _ _
        exact og_plain rfl (ox_val (ov_move rfl))
      · intro wd hxE
        replace hxE := bel_out hxE
        replace hr := hr.ext hxE
        replace hr2 := hr2.ext hxE
        replace hE := hE.tr hxE
        replace hb_g2 := hb_g2.ext hxE
        replace ho22 := Own.ext ho22 hxE
        have hz_hxE := hxE.size
        rintro _ rfl
        show OpG _ _ _ _ _ _
        exact og_on rfl rfl rfl (ox_val (ov_move rfl))
      · intro wd hxE
        replace hxE := bel_out hxE
        replace hr := hr.ext hxE
        replace hr2 := hr2.ext hxE
        replace hE := hE.tr hxE
        replace hb_g2 := hb_g2.ext hxE
        replace ho22 := Own.ext ho22 hxE
        have hz_hxE := hxE.size
        rintro _ rfl
        rintro _ rfl
        show OpG _ _ _ _ _ _
        refine og_on rfl rfl rfl (OpRun.mono (or_bappend0 bt22 rfl rfl (OwnB.rd ho22) (by simp; omega)) ?_)
        rintro v w204 ⟨A44, c44, rfl, ho44, he44⟩
        replace hr := hr.ext he44
        replace hr2 := hr2.ext he44
        replace hE := hE.tr he44
        replace hb_g2 := hb_g2.ext he44
        replace ho22 := Own.ext ho22 he44
        have hz_he44 := he44.size
        have hq_ho44 := fun g e => Own.lt ho44 (g := g) e
        exact ⟨⟨A44, c44, rfl, Own.mono ho44 (by omega)⟩, he44⟩
      · intro wd hxE
        replace hxE := bel_out hxE
        replace hr := hr.ext hxE
        replace hr2 := hr2.ext hxE
        replace hE := hE.tr hxE
        replace hb_g2 := hb_g2.ext hxE
        replace ho22 := Own.ext ho22 hxE
        have hz_hxE := hxE.size
        rintro _ rfl
        show OpG _ _ _ _ _ _
        exact og_on rfl rfl rfl (ox_val (ov_move rfl))
      · intro wd hxE
        replace hxE := bel_out hxE
        replace hr := hr.ext hxE
        replace hr2 := hr2.ext hxE
        replace hE := hE.tr hxE
        replace hb_g2 := hb_g2.ext hxE
        replace ho22 := Own.ext ho22 hxE
        have hz_hxE := hxE.size
        rintro _ rfl
        rintro _ ⟨A44, c44, rfl, ho44⟩
        rintro _ rfl
        show OpG _ _ _ _ _ _
        refine og_on rfl rfl rfl (OpRun.mono (or_bappend bt22 rfl ho44 rfl hr2 (by simp; omega) (by omega)) ?_)
        rintro v w204 ⟨A46, c46, rfl, ho46, hg46, ha46⟩
        have hq46 := fun g e => Own.lt ho44 (g := g) e
        have hz_hg46 := hg46.size
        replace hr := hr.gr hg46 (fun g e => by have := hq46 g e; omega)
        replace hr2 := hr2.gr hg46 (fun g e => by have := hq46 g e; omega)
        replace hE := hE.gr hg46 (fun g e => by have := hq46 g e; omega)
        replace hb_g2 := hb_g2.gr hg46 (fun e => by have := hq46 _ e; omega)
        have hq_ho46 := fun g e => Own.lt ho46 (g := g) e
        exact ⟨⟨A46, c46, rfl, Own.mono ho46 (by omega)⟩, bel_gr hg46 (fun g e => (hq46 g e).1)⟩
      · intro wd hxE
        replace hxE := bel_out hxE
        replace hr := hr.ext hxE
        replace hr2 := hr2.ext hxE
        replace hE := hE.tr hxE
        replace hb_g2 := hb_g2.ext hxE
        replace ho22 := Own.ext ho22 hxE
        have hz_hxE := hxE.size
        rintro _ rfl
        show OpG _ _ _ _ _ _
        exact og_on rfl rfl rfl (ox_val (ov_field0 (off := 1) fo25_1 rfl))
      · intro wd hxE
        replace hxE := bel_out hxE
        replace hr := hr.ext hxE
        replace hr2 := hr2.ext hxE
        replace hE := hE.tr hxE
        replace hb_g2 := hb_g2.ext hxE
        replace ho22 := Own.ext ho22 hxE
        have hz_hxE := hxE.size
        rintro _ rfl
        rintro _ rfl
        show OpG _ _ _ _ _ _
        exact og_on rfl rfl rfl (ox_val (ov_loadAt oc22 rfl hb_g2 rfl))
      · intro wd hxE
        replace hxE := bel_out hxE
        replace hr := hr.ext hxE
        replace hr2 := hr2.ext hxE
        replace hE := hE.tr hxE
        replace hb_g2 := hb_g2.ext hxE
        replace ho22 := Own.ext ho22 hxE
        have hz_hxE := hxE.size
        rintro _ rfl
        rintro _ rfl
        show OpG _ _ _ _ _ _
        exact og_on rfl rfl rfl (ox_val (ov_len Try.underlying22 rfl))
      · intro wd hxE
        replace hxE := bel_out hxE
        replace hr := hr.ext hxE
        replace hr2 := hr2.ext hxE
        replace hE := hE.tr hxE
        replace hb_g2 := hb_g2.ext hxE
        replace ho22 := Own.ext ho22 hxE
        have hz_hxE := hxE.size
        rintro _ rfl
        show OpG _ _ _ _ _ _
        exact og_on rfl rfl rfl (ox_val (ov_loadBlk (cs := [(.int .u8 (↑x.toNat : Int)), (.slice A p.length c)]) ag25_2 rfl hb_g2))
      · intro wd hxE
        replace hxE := bel_out hxE
        replace hr := hr.ext hxE
        replace hr2 := hr2.ext hxE
        replace hE := hE.tr hxE
        replace hb_g2 := hb_g2.ext hxE
        replace ho22 := Own.ext ho22 hxE
        have hz_hxE := hxE.size
        rintro _ rfl
        show OpG _ _ _ _ _ _
        exact og_on rfl rfl rfl (ox_val (ov_move rfl))
      · intro wf5 hf5
        replace hf5 := bel_out hf5
        replace hr := hr.ext hf5
        replace hr2 := hr2.ext hf5
        replace hE := hE.tr hf5
        replace hb_g2 := hb_g2.ext hf5
        replace ho22 := Own.ext ho22 hf5
        have hz_hf5 := hf5.size
        rintro _ rfl
        rintro _ rfl
        rintro _ rfl
        rintro _ rfl
        rintro _ rfl
        rintro _ rfl
        rintro _ rfl
        rintro _ rfl
        rintro _ rfl
        rintro _ rfl
        rintro _ rfl
        rintro _ rfl
        rintro _ rfl
        rintro _ rfl
        intro v44
        rintro _ rfl
        rintro _ ⟨A46, c46, rfl, ho46⟩
        rintro _ rfl
        rintro _ rfl
        rintro _ rfl
        rintro _ rfl
        rintro _ rfl
        have hq_ho46 := fun g e => Own.lt ho46 (g := g) e
        show WL _ _ _ [_, _, _] _ _ _
        refine wl_gstep (or_call0 cl16 rfl rfl (freads_any _ _ _ _ _ _ _ ((enc (p.length + 1) ++ [x] ++ p) ++ m) (↑p.length : Int) (by omega) (by omega) (x) _ _ p (((enc (p.length + 1)).length + (p.length + 1) : Nat) : Int) 0 (OwnB.rd ho46) hr (by simp; omega) (by rw [fread_wire (by omega) (by omega)]) (by rw [fread_wire (by omega) (by omega)]) (by rw [fread_wire (by omega) (by omega)]; rfl))) rfl rfl rfl rfl rfl ?_
        rintro v w204 ⟨rfl, he52⟩
        replace hr := hr.ext he52
        replace hr2 := hr2.ext he52
        replace hE := hE.tr he52
        replace hb_g2 := hb_g2.ext he52
        replace ho22 := Own.ext ho22 he52
        replace ho46 := Own.ext ho46 he52
        have hz_he52 := he52.size
        refine wl_gval (ov_not (b := true) rfl) rfl rfl rfl rfl rfl ?_
        refine wl_val (ov_pick_f rfl rfl) rfl rfl rfl ?_
        refine q_nil ?_
        refine k_then ?_
        refine wc_cond_f rfl ?_
        refine q_skip ?_
        refine k_then ?_
        refine wc_seq ?_
        refine wc_seq ?_
        refine wc_regionL ?_
        refine wl_val (ov_assign rfl) rfl rfl rfl ?_
        refine q_nil ?_
        refine k_then ?_
        refine wc_block ?_
        refine wc_loop (σ := Nat) (fun s => (enc (p.length + 1)).length + (p.length + 1) - s) (fun s => [(5, .slice A22 (enc (p.length + 1) ++ [x] ++ p).length c22), (7, .int .i64 (((enc (p.length + 1)).length + (p.length + 1) : Nat) : Int)), (9, .int .i64 (s : Int))]) (fun s w' => OwnB w' w1.heap.size 5 A22 c22 (enc (p.length + 1) ++ [x] ++ p) ∧ Ext w w') (0) (⟨ho22, hE⟩) (⟨rfl, rfl, rfl, trivial⟩) ?_
        rintro k wq ⟨ho22, hE⟩
        show WC _ _ _ _ [(5, (.slice A22 (enc (p.length + 1) ++ [x] ++ p).length c22)), (7, (.int .i64 (((enc (p.length + 1)).length + (p.length + 1) : Nat) : Int))), (9, (.int .i64 (↑k : Int)))] _
        refine wc_seq ?_
        refine wc_seq ?_
        refine wc_regionL ?_
        refine wl_val (ov_move rfl) rfl rfl rfl ?_
        refine wl_val (ov_move rfl) rfl rfl rfl ?_
        refine wl_val (ov_lss rfl rfl) rfl rfl rfl ?_
        refine q_nil ?_
        refine k_then ?_
        refine wc_cond_d rfl (fun hc3 => ?_) (fun hc3 => ?_)
        · have hlw : (enc (p.length + 1) ++ [x] ++ p).length = (enc (p.length + 1)).length + (p.length + 1) := by simp
          refine q_skip ?_
          refine k_then ?_
          refine wc_seq ?_
          refine wc_block ?_
          refine wc_seq ?_
          refine wc_regionL ?_
          refine wl_val (ov_move rfl) rfl rfl rfl ?_
          refine wl_val (ov_move rfl) rfl rfl rfl ?_
          have hcap62 := RdB.cap (OwnB.rd ho22)
          refine wl_step (or_bslice bt22 rfl (OwnB.rd ho22) (bounds_h rfl (by omega) (by omega)) (by omega) (by omega) (by omega) (by omega)) rfl rfl rfl ?_
          rintro v _ ⟨rfl, A62, c62, rfl, hr62, hl62⟩
          have hs62 : ((enc (p.length + 1) ++ [x] ++ p).drop 0).take ((Int.toNat (↑k : Int)) - 0) = ((enc (p.length + 1) ++ [x] ++ p).take k) := by simp
          rw [hs62] at hr62 hl62; rw [hs62]; clear hs62
          refine wl_val (ov_build (cs := [(.int .u8 0), (.slice none 0 0)]) ze25 pl25 rfl rfl) rfl rfl rfl ?_
          refine wl_step (or_call0 cl16 rfl rfl (freads_any _ _ _ _ _ _ _ ((enc (p.length + 1) ++ [x] ++ p).take k) 2097152 (by omega) (by omega) (0) _ _ [] 0 4 hr62 (RdB.nil _ 0 0) (by rw [List.length_take]; omega) (by rw [fread_cut (by omega) (by omega) (by omega)]) (by rw [fread_cut (by omega) (by omega) (by omega)]; rfl) (by rw [fread_cut (by omega) (by omega) (by omega)]; rfl))) rfl rfl rfl ?_
          rintro v w205 ⟨rfl, he64⟩
          replace ho22 := Own.ext ho22 he64
          replace hE := hE.tr he64
          replace hr62 := hr62.ext he64
          have hz_he64 := he64.size
          refine wl_val (ov_not (b := true) rfl) rfl rfl rfl ?_
          refine q_nil ?_
          refine k_then ?_
          refine wc_cond_f rfl ?_
          refine q_skip ?_
          refine k_block ?_
          refine k_then ?_
          refine wc_regionL ?_
          refine wl_val (ov_move rfl) rfl rfl rfl ?_
          refine wl_val (ov_add rfl rfl (wi64 (by omega) (by omega))) rfl rfl rfl ?_
          refine wl_val (ov_assign rfl) rfl rfl rfl ?_
          refine q_nil ?_
          refine k_loop (k + 1) (by omega) (⟨rfl, rfl, rfl, trivial⟩) (⟨ho22, hE⟩)
        · refine q_exit ?_
          refine k_thenX ?_
          refine k_thenX ?_
          refine k_blockE ?_
          refine k_then ?_
          refine wc_seq ?_
          refine wc_regionL ?_
          refine wl_step (or_call0 cl14 rfl rfl (known05_any _)) rfl rfl rfl ?_
          rintro v w205 ⟨rfl, he66⟩
          replace ho22 := Own.ext ho22 he66
          replace hE := hE.tr he66
          have hz_he66 := he66.size
          refine wl_val (ov_assign rfl) rfl rfl rfl ?_
          refine q_nil ?_
          refine k_then ?_
          refine q_ret ?_
          refine e_ret rfl rfl ?_
          exact ⟨rfl, hE⟩

end Go.Proofs.Ytfniipfdpoeapaa
