/-
  The walks of FrameReads and FrameWrites.
-/
import Derived.Test.YtfniipfdpoeapaaFa
namespace Go.Proofs.Ytfniipfdpoeapaa
open Go.RowKit
set_option linter.unusedVariables false
theorem cl14 : callable Try.prog 14 = true := by kernel_rfl
theorem cl15 : callable Try.prog 15 = true := by kernel_rfl
theorem cl21 : callable Try.prog 21 = true := by kernel_rfl
theorem cl22 : callable Try.prog 22 = true := by kernel_rfl
theorem sz5 : (Try.prog.info? 5).map (·.size) = some 1 := by kernel_rfl

theorem frameReads_walk (w : World) (lo hi : Nat) (A : Option Addr) (c : Nat) (l : List UInt8) (most : Int) (hm1 : -9223372036854775808 ≤ most) (hm : most ≤ 9223372036854775807) (hr : RdB w lo hi A c l) :
    Fn Try.prog 3 #[(.slice A l.length c), (.int .i64 most)] w (fun v w' => v = .bool true ∧ Ext w w') := by
  replace hr := hr.top
  have hE := ext_refl w
  refine fn_enter (args := [(.slice A l.length c), (.int .i64 most)]) Try.func3 rfl rfl rfl ?_
  show WC _ _ _ _ [(0, (.slice A l.length c)), (1, (.int .i64 most))] _
  refine wc_seq ?_
  refine wc_regionL ?_
  refine wl_val (ov_assign rfl) rfl rfl rfl ?_
  refine q_nil ?_
  refine k_then ?_
  refine wc_seq ?_
  refine wc_seq ?_
  refine wc_regionL ?_
  refine wl_val (ov_move rfl) rfl rfl rfl ?_
  refine wl_val (ov_len Try.underlying22 rfl) rfl rfl rfl ?_
  refine wl_val (ov_gtr rfl rfl) rfl rfl rfl ?_
  refine q_nil ?_
  refine k_then ?_
  refine wc_cond_d rfl (fun hc1 => ?_) (fun hc1 => ?_)
  · refine wc_seq ?_
    refine wc_regionL ?_
    refine wl_step (or_call0 cl14 rfl rfl (known05_any _)) rfl rfl rfl ?_
    rintro v w1 ⟨rfl, he16⟩
    replace hr := hr.ext he16
    replace hE := hE.tr he16
    have hz_he16 := he16.size
    refine wl_val (ov_assign rfl) rfl rfl rfl ?_
    refine q_nil ?_
    refine k_then ?_
    refine q_ret ?_
    refine k_thenR ?_
    refine e_ret rfl rfl ?_
    exact ⟨rfl, hE⟩
  · refine q_skip ?_
    refine k_then ?_
    refine wc_seq ?_
    refine wc_regionL ?_
    refine wl_val (ov_move rfl) rfl rfl rfl ?_
    refine wl_val (ov_move rfl) rfl rfl rfl ?_
    refine wl_step (or_call0 cl15 rfl rfl (rfread_any _ _ _ _ _ l most (by omega) (by omega) hr (by omega))) rfl rfl rfl ?_
    rintro v w201 ⟨A20, c20, rfl, ho20, he20⟩
    replace hr := hr.ext he20
    replace hE := hE.tr he20
    have hz_he20 := he20.size
    have hq_ho20 := fun g e => Own.lt ho20 (g := g) e
    refine wl_val (ov_move rfl) rfl rfl rfl ?_
    refine wl_val (ov_extract rfl rfl) rfl rfl rfl ?_
    refine wl_val (ov_extract rfl rfl) rfl rfl rfl ?_
    refine wl_val (ov_extract rfl rfl) rfl rfl rfl ?_
    refine wl_step (or_alloc (cs := [(.int .u8 0), (.slice none 0 0)]) ze25 rfl) rfl rfl rfl ?_
    rintro v w202 ⟨g5, rfl, hb_g5, he5, hl5, hu5⟩
    replace hr := hr.ext he5
    replace hE := hE.tr he5
    replace ho20 := Own.ext ho20 he5
    have hz_he5 := he5.size
    refine wl_step0 (or_storeBlk (vs := [(.int .u8 (↑(fread l most).1.1.toNat : Int)), (.slice A20 (fread l most).1.2.length c20)]) sz25 rfl rfl (by simp [Value.oneCell']) hb_g5 rfl) rfl rfl ?_
    rintro _ w203 ⟨hN203, hg203⟩
    have hz_hg203 := hg203.size
    replace hr := hr.gr hg203 (fun _ e => by cases e; omega)
    replace hE := hE.gr hg203 (fun _ e => by cases e; omega)
    replace ho20 := Own.gr ho20 hg203 (by first | exact .inl rfl | (right; intro e; first | (have := hq_ho20 _ e; omega) | (have := Own.lt ho20 e; omega) | exact own_blk_ne ho20 hb_g5 (by decide) e))
    replace hb_g5 := hN203
    refine wl_val (ov_assign rfl) rfl rfl rfl ?_
    refine wl_val (ov_assign rfl) rfl rfl rfl ?_
    refine q_nil ?_
    refine k_then ?_
    refine wc_seq ?_
    refine wc_seq ?_
    refine wc_regionL ?_
    refine wl_val (ov_move rfl) rfl rfl rfl ?_
    refine wl_val (ov_move rfl) rfl rfl rfl ?_
    refine wl_val (ov_loadBlk (cs := [(.int .u8 (↑(fread l most).1.1.toNat : Int)), (.slice A20 (fread l most).1.2.length c20)]) ag25_2 rfl hb_g5) rfl rfl rfl ?_
    refine wl_val (ov_move rfl) rfl rfl rfl ?_
    refine wl_val (ov_move rfl) rfl rfl rfl ?_
    refine wl_step (or_call0 cl16 rfl rfl (freads_any _ _ _ _ _ _ _ l most (by omega) (by omega) ((fread l most).1.1) _ _ (fread l most).1.2 (↑(fread l most).2.1 : Int) (↑(fread l most).2.2 : Int) hr (OwnB.rd ho20) (by omega) rfl rfl rfl)) rfl rfl rfl ?_
    rintro v w204 ⟨rfl, he29⟩
    replace hr := hr.ext he29
    replace hE := hE.tr he29
    replace ho20 := Own.ext ho20 he29
    replace hb_g5 := hb_g5.ext he29
    have hz_he29 := he29.size
    refine wl_val (ov_not (b := true) rfl) rfl rfl rfl ?_
    refine q_nil ?_
    refine k_then ?_
    refine wc_cond_f rfl ?_
    refine q_skip ?_
    refine k_then ?_
    refine wc_seq ?_
    refine wc_regionL ?_
    refine wl_val (ov_move rfl) rfl rfl rfl ?_
    refine wl_step (or_bappend0 bt22 rfl rfl hr (by omega)) rfl rfl rfl ?_
    rintro v w205 ⟨A32, c32, rfl, ho32, he32⟩
    replace hr := hr.ext he32
    replace hE := hE.tr he32
    replace ho20 := Own.ext ho20 he32
    replace hb_g5 := hb_g5.ext he32
    have hz_he32 := he32.size
    have hq_ho32 := fun g e => Own.lt ho32 (g := g) e
    refine wl_val (ov_assign rfl) rfl rfl rfl ?_
    refine q_nil ?_
    refine k_then ?_
    refine wc_seq ?_
    refine wc_regionL ?_
    refine wl_val (ov_move rfl) rfl rfl rfl ?_
    refine wl_val (ov_move rfl) rfl rfl rfl ?_
    refine wl_step (or_call0 cl17 rfl rfl (fread_any _ _ _ _ _ l most (by omega) (by omega) (OwnB.rd ho32) (by omega))) rfl rfl rfl ?_
    rintro v w206 ⟨A36, c36, rfl, ho36, he36⟩
    replace hr := hr.ext he36
    replace hE := hE.tr he36
    replace ho20 := Own.ext ho20 he36
    replace hb_g5 := hb_g5.ext he36
    replace ho32 := Own.ext ho32 he36
    have hz_he36 := he36.size
    have hq_ho36 := fun g e => Own.lt ho36 (g := g) e
    refine wl_val (ov_move rfl) rfl rfl rfl ?_
    refine wl_val (ov_extract rfl rfl) rfl rfl rfl ?_
    refine wl_val (ov_extract rfl rfl) rfl rfl rfl ?_
    refine wl_val (ov_extract rfl rfl) rfl rfl rfl ?_
    refine wl_step (or_alloc (cs := [(.int .u8 0), (.slice none 0 0)]) ze25 rfl) rfl rfl rfl ?_
    rintro v w207 ⟨g9, rfl, hb_g9, he9, hl9, hu9⟩
    replace hr := hr.ext he9
    replace hE := hE.tr he9
    replace ho20 := Own.ext ho20 he9
    replace hb_g5 := hb_g5.ext he9
    replace ho32 := Own.ext ho32 he9
    replace ho36 := Own.ext ho36 he9
    have hz_he9 := he9.size
    refine wl_step0 (or_storeBlk (vs := [(.int .u8 (↑(fread l most).1.1.toNat : Int)), (.slice A36 (fread l most).1.2.length c36)]) sz25 rfl rfl (by simp [Value.oneCell']) hb_g9 rfl) rfl rfl ?_
    rintro _ w208 ⟨hN208, hg208⟩
    have hz_hg208 := hg208.size
    replace hr := hr.gr hg208 (fun _ e => by cases e; omega)
    replace hE := hE.gr hg208 (fun _ e => by cases e; omega)
    replace ho20 := Own.gr ho20 hg208 (by first | exact .inl rfl | (right; intro e; first | (have := hq_ho20 _ e; omega) | (have := Own.lt ho20 e; omega) | exact own_blk_ne ho20 hb_g9 (by decide) e))
    replace hb_g5 := hb_g5.gr hg208 (by intro e; cases e; omega)
    replace ho32 := Own.gr ho32 hg208 (by first | exact .inl rfl | (right; intro e; first | (have := hq_ho32 _ e; omega) | (have := Own.lt ho32 e; omega) | exact own_blk_ne ho32 hb_g9 (by decide) e))
    replace ho36 := Own.gr ho36 hg208 (by first | exact .inl rfl | (right; intro e; first | (have := hq_ho36 _ e; omega) | (have := Own.lt ho36 e; omega) | exact own_blk_ne ho36 hb_g9 (by decide) e))
    replace hb_g9 := hN208
    refine wl_val (ov_assign rfl) rfl rfl rfl ?_
    refine wl_val (ov_assign rfl) rfl rfl rfl ?_
    refine q_nil ?_
    refine k_then ?_
    refine wc_seq ?_
    refine wc_seq ?_
    refine wc_regionL ?_
    refine wl_val (ov_move rfl) rfl rfl rfl ?_
    refine wl_val (ov_len Try.underlying22 rfl) rfl rfl rfl ?_
    refine wl_val (ov_move rfl) rfl rfl rfl ?_
    refine q_nil ?_
    refine k_then ?_
    have hcap_8 := RdB.cap (OwnB.rd ho32)
    refine wc_block ?_
    refine wc_loop (σ := Nat × List UInt8) (fun s => l.length - s.1) (fun s => [(8, .slice A32 l.length c32), (42, .int .i64 (s.1 : Int)), (4, (.bool false)), (5, (.pointer (some ⟨g5, 0, none⟩))), (9, (.pointer (some ⟨g9, 0, none⟩))), (41, (.int .i64 (↑l.length : Int)))]) (fun s w' => OwnB w' w204.heap.size 5 A32 c32 s.2 ∧ Gr w208 w' (blk A32) ∧ s.2.length = l.length ∧ s.1 ≤ l.length) (0, l) (⟨ho32, (ext_refl _).row _, rfl, Nat.zero_le _⟩) (⟨rfl, rfl, rfl, rfl, rfl, rfl, trivial⟩) ?_
    rintro ⟨k_8, l_8⟩ w209 ⟨ho_8, hG_8, hL_8, hk_8⟩
    simp only at hL_8 hk_8
    replace ho_8 : OwnB _ _ _ _ _ l_8 := ho_8
    show WC _ _ _ _ [(8, (.slice A32 l.length c32)), (42, (.int .i64 (↑k_8 : Int))), (4, (.bool false)), (5, (.pointer (some ⟨g5, 0, none⟩))), (9, (.pointer (some ⟨g9, 0, none⟩))), (41, (.int .i64 (↑l.length : Int)))] _
    refine wc_seq ?_
    refine wc_regionL ?_
    refine wl_val (ov_lss rfl rfl) rfl rfl rfl ?_
    refine q_nil ?_
    refine k_then ?_
    refine wc_seq ?_
    refine wc_cond_d rfl (fun hc3 => ?_) (fun hc3 => ?_)
    · obtain ⟨g_8, hA_8, hg1_8, hgu_8⟩ := Own.addr ho_8 (by omega)
      subst hA_8
      refine q_skip ?_
      refine k_then ?_
      refine wc_seq ?_
      refine wc_block ?_
      refine wc_seq ?_
      refine wc_regionL ?_
      refine wl_val (ov_move rfl) rfl rfl rfl ?_
      refine wl_val (ov_assign rfl) rfl rfl rfl ?_
      refine q_nil ?_
      refine k_then ?_
      refine wc_regionL ?_
      refine wl_val (ov_move rfl) rfl rfl rfl ?_
      refine wl_val (ov_move rfl) rfl rfl rfl ?_
      refine wl_val (ov_oindex bt22.s rfl rfl rfl (by omega)) rfl rfl rfl ?_
      refine wl_val (ov_load oc5 rfl (OwnB.cellAt ho_8 (by omega))) rfl rfl rfl ?_
      refine wl_val (ov_add rfl rfl (wu8_succ _)) rfl rfl rfl ?_
      refine wl_val (ov_oindex bt22.s rfl rfl rfl (by omega)) rfl rfl rfl ?_
      refine wl_step0 (or_storeOwn sz5 rfl rfl ho_8 (by omega)) rfl rfl ?_
      rintro _ w210 ⟨ho2_8, hg2_8⟩
      have hz2_8 := hg2_8.size
      refine q_nil ?_
      refine k_block ?_
      refine k_then ?_
      refine wc_regionL ?_
      refine wl_val (ov_add rfl rfl (wi64 (by omega) (by omega))) rfl rfl rfl ?_
      refine wl_val (ov_move rfl) rfl rfl rfl ?_
      refine q_nil ?_
      refine k_loop ((k_8 + 1, l_8.set k_8 ((l_8.getD k_8 0) + 1))) (by show l.length - (k_8 + 1) < l.length - k_8; omega) (⟨rfl, rfl, rfl, rfl, rfl, rfl, trivial⟩) (⟨ho2_8, hG_8.gr hg2_8 (fun g e => .inl e), by show (List.set _ _ _).length = _; rw [List.length_set]; exact hL_8, by show k_8 + 1 ≤ _; omega⟩)
    · refine wc_spell (d := 8) rfl (v' := .slice A32 l_8.length c32) (by rw [hL_8]) ?_
      have hz_hG_8 := hG_8.size
      replace hr := hr.gr hG_8 (fun g e => by have := hq_ho32 g e; omega)
      replace hE := hE.gr hG_8 (fun g e => by have := hq_ho32 g e; omega)
      replace ho20 := Own.gr ho20 hG_8 (own_apart fun g e g2 e2 => by have := hq_ho20 g e; have := hq_ho32 g2 e2; omega)
      replace hb_g5 := hb_g5.gr hG_8 (fun e => by have := hq_ho32 _ e; omega)
      replace ho36 := Own.gr ho36 hG_8 (own_apart fun g e g2 e2 => by have := hq_ho36 g e; have := hq_ho32 g2 e2; omega)
      replace hb_g9 := hb_g9.gr hG_8 (fun e => by have := hq_ho32 _ e; omega)
      have hq_ho_8 := fun g e => Own.lt ho_8 (g := g) e
      refine q_exit ?_
      refine k_thenX ?_
      refine k_thenX ?_
      refine k_blockE ?_
      refine k_then ?_
      refine wc_seq ?_
      refine wc_regionL ?_
      refine wl_val (ov_loadBlk (cs := [(.int .u8 (↑(fread l most).1.1.toNat : Int)), (.slice A36 (fread l most).1.2.length c36)]) ag25_2 rfl hb_g9) rfl rfl rfl ?_
      refine wl_val (ov_loadBlk (cs := [(.int .u8 (↑(fread l most).1.1.toNat : Int)), (.slice A20 (fread l most).1.2.length c20)]) ag25_2 rfl hb_g5) rfl rfl rfl ?_
      refine wl_step (or_call0 cl18 rfl rfl (rfequal_any _ _ _ _ _ ((fread l most).1.1) _ _ (fread l most).1.2 ((fread l most).1.1) _ _ (fread l most).1.2 (OwnB.rd ho36) (OwnB.rd ho20))) rfl rfl rfl ?_
      rintro v w210 ⟨rfl, he54⟩
      replace hr := hr.ext he54
      replace hE := hE.tr he54
      replace ho20 := Own.ext ho20 he54
      replace hb_g5 := hb_g5.ext he54
      replace ho36 := Own.ext ho36 he54
      replace hb_g9 := hb_g9.ext he54
      replace ho_8 := Own.ext ho_8 he54
      have hz_he54 := he54.size
      refine wl_spell (d := 54) rfl (bt (rfl)) ?_
      refine wl_val (ov_move rfl) rfl rfl rfl ?_
      refine wl_gstep (or_call0 cl14 rfl rfl (known05_any _)) rfl rfl rfl rfl rfl ?_
      rintro v w211 ⟨rfl, he56⟩
      replace hr := hr.ext he56
      replace hE := hE.tr he56
      replace ho20 := Own.ext ho20 he56
      replace hb_g5 := hb_g5.ext he56
      replace ho36 := Own.ext ho36 he56
      replace hb_g9 := hb_g9.ext he56
      replace ho_8 := Own.ext ho_8 he56
      have hz_he56 := he56.size
      refine wl_val (ov_pick_t rfl rfl) rfl rfl rfl ?_
      refine wl_val (ov_assign rfl) rfl rfl rfl ?_
      refine q_nil ?_
      refine k_then ?_
      refine q_ret ?_
      refine e_ret rfl rfl ?_
      exact ⟨rfl, hE⟩

theorem frameWrites_walk (w : World) (lo hi lo2 hi2 : Nat) (x : UInt8) (A : Option Addr) (c : Nat) (p : List UInt8) (y : UInt8) (B : Option Addr) (c2 : Nat) (q : List UInt8) (hr : RdB w lo hi A c p) (hr2 : RdB w lo2 hi2 B c2 q) :
    Fn Try.prog 7 #[(.agg #[(.int .u8 (↑x.toNat : Int)), (.slice A p.length c)]), (.agg #[(.int .u8 (↑y.toNat : Int)), (.slice B q.length c2)])] w (fun v w' => v = .bool true ∧ Ext w w') := by
  replace hr := hr.top
  replace hr2 := hr2.top
  have hE := ext_refl w
  refine fn_enter (args := [(.agg #[(.int .u8 (↑x.toNat : Int)), (.slice A p.length c)]), (.agg #[(.int .u8 (↑y.toNat : Int)), (.slice B q.length c2)])]) Try.func7 rfl rfl rfl ?_
  show WC _ _ _ _ [(0, (.agg #[(.int .u8 (↑x.toNat : Int)), (.slice A p.length c)])), (1, (.agg #[(.int .u8 (↑y.toNat : Int)), (.slice B q.length c2)]))] _
  refine wc_seq ?_
  refine wc_regionL ?_
  refine wl_step (or_box (cs := [(.int .u8 (↑x.toNat : Int)), (.slice A p.length c)]) rfl rfl) rfl rfl rfl ?_
  rintro v w1 ⟨g2, rfl, hb_g2, he2, hl2, hu2⟩
  replace hr := hr.ext he2
  replace hr2 := hr2.ext he2
  replace hE := hE.tr he2
  have hz_he2 := he2.size
  refine wl_step (or_box (cs := [(.int .u8 (↑y.toNat : Int)), (.slice B q.length c2)]) rfl rfl) rfl rfl rfl ?_
  rintro v w2 ⟨g3, rfl, hb_g3, he3, hl3, hu3⟩
  replace hr := hr.ext he3
  replace hr2 := hr2.ext he3
  replace hE := hE.tr he3
  replace hb_g2 := hb_g2.ext he3
  have hz_he3 := he3.size
  refine wl_val (ov_assign rfl) rfl rfl rfl ?_
  refine q_nil ?_
  refine k_then ?_
  refine wc_seq ?_
  refine wc_seq ?_
  refine wc_regionL ?_
  refine wl_val (ov_field0 (off := 1) fo25_1 rfl) rfl rfl rfl ?_
  refine wl_val (ov_loadAt oc22 rfl hb_g2 rfl) rfl rfl rfl ?_
  refine wl_val (ov_len Try.underlying22 rfl) rfl rfl rfl ?_
  refine wl_val (ov_gtr rfl rfl) rfl rfl rfl ?_
  refine wl_case_d (d := 16) rfl (fun h600 => ?_) (fun h600 => ?_)
  · refine wl_val (ov_move rfl) rfl rfl rfl ?_
    refine wl_gskip rfl rfl rfl rfl rfl rfl ?_
    refine wl_gskip rfl rfl rfl rfl rfl rfl ?_
    refine wl_gskip rfl rfl rfl rfl rfl rfl ?_
    refine wl_gskip rfl rfl rfl rfl rfl rfl ?_
    refine wl_val (ov_pick_t rfl rfl) rfl rfl rfl ?_
    refine q_nil ?_
    refine k_then ?_
    refine wc_cond_t rfl ?_
    refine wc_seq ?_
    refine wc_regionL ?_
    refine wl_step (or_call0 cl14 rfl rfl (known05_any _)) rfl rfl rfl ?_
    rintro v w3 ⟨rfl, he23⟩
    replace hr := hr.ext he23
    replace hr2 := hr2.ext he23
    replace hE := hE.tr he23
    replace hb_g2 := hb_g2.ext he23
    replace hb_g3 := hb_g3.ext he23
    have hz_he23 := he23.size
    refine wl_val (ov_assign rfl) rfl rfl rfl ?_
    refine q_nil ?_
    refine k_then ?_
    refine q_ret ?_
    refine k_thenR ?_
    refine e_ret rfl rfl ?_
    exact ⟨rfl, hE⟩
  · refine wl_val (ov_move rfl) rfl rfl rfl ?_
    refine wl_gval (ov_field0 (off := 1) fo25_1 rfl) rfl rfl rfl rfl rfl ?_
    refine wl_gval (ov_loadAt oc22 rfl hb_g3 rfl) rfl rfl rfl rfl rfl ?_
    refine wl_gval (ov_len Try.underlying22 rfl) rfl rfl rfl rfl rfl ?_
    refine wl_gval (ov_gtr rfl rfl) rfl rfl rfl rfl rfl ?_
    refine wl_val (ov_pick_f rfl rfl) rfl rfl rfl ?_
    refine q_nil ?_
    refine k_then ?_
    refine wc_cond_d rfl (fun hc1 => ?_) (fun hc1 => ?_)
    · refine wc_seq ?_
      refine wc_regionL ?_
      refine wl_step (or_call0 cl14 rfl rfl (known05_any _)) rfl rfl rfl ?_
      rintro v w203 ⟨rfl, he23⟩
      replace hr := hr.ext he23
      replace hr2 := hr2.ext he23
      replace hE := hE.tr he23
      replace hb_g2 := hb_g2.ext he23
      replace hb_g3 := hb_g3.ext he23
      have hz_he23 := he23.size
      refine wl_val (ov_assign rfl) rfl rfl rfl ?_
      refine q_nil ?_
      refine k_then ?_
      refine q_ret ?_
      refine k_thenR ?_
      refine e_ret rfl rfl ?_
      exact ⟨rfl, hE⟩
    · refine q_skip ?_
      refine k_then ?_
      refine wc_seq ?_
      refine wc_draw mixed 7 [(24, eqv (.pointer (some ⟨g2, 0, none⟩))), (25, eqv (.int .u8 (↑x.toNat : Int))), (26, eqv (.pointer (some ⟨g2, 1, none⟩))), (27, eqv (.slice A p.length c)), (28, isOwnB w2.heap.size 5 p), (29, (fun v w => ∃ A28 c28, v = (.agg #[(.int .u8 (↑x.toNat : Int)), (.slice A28 p.length c28)]) ∧ OwnB w w2.heap.size 5 A28 c28 p)), (5, (fun v w => ∃ g5, v = .pointer (some ⟨g5, 0, none⟩) ∧ Blk w g5 25 [(.int .u8 0), (.slice none 0 0)] ∧ w2.heap.size ≤ g5))] [[], [0], [], [2], [3], [1, 4], []] (by kernel_rfl) rfl ⟨stb_eqv _, stb_eqv _, stb_eqv _, stb_eqv _, stb_isOwnB _ _ _, (fun v w w' ⟨A28, c28, hb, ho28⟩ he => ⟨A28, c28, hb, Own.ext ho28 he⟩), (fun v w w' ⟨g, hv, hb, hl⟩ he => ⟨g, hv, hb.ext he, hl⟩), trivial⟩ ⟨?_, ?_, ?_, ?_, ?_, ?_, ?_, trivial⟩ ?_
      · intro wd hxE
        replace hr := hr.ext hxE
        replace hr2 := hr2.ext hxE
        replace hE := hE.tr hxE
        replace hb_g2 := hb_g2.ext hxE
        replace hb_g3 := hb_g3.ext hxE
        have hz_hxE := hxE.size
        show OpG _ _ _ _ _ _
        exact og_plain rfl (ox_val (ov_field0 (off := 0) fo25_0 rfl))
      · intro wd hxE
        replace hr := hr.ext hxE
        replace hr2 := hr2.ext hxE
        replace hE := hE.tr hxE
        replace hb_g2 := hb_g2.ext hxE
        replace hb_g3 := hb_g3.ext hxE
        have hz_hxE := hxE.size
        rintro _ rfl
        show OpG _ _ _ _ _ _
        exact og_plain rfl (ox_val (ov_loadAt oc5 rfl hb_g2 rfl))
      · intro wd hxE
        replace hr := hr.ext hxE
        replace hr2 := hr2.ext hxE
        replace hE := hE.tr hxE
        replace hb_g2 := hb_g2.ext hxE
        replace hb_g3 := hb_g3.ext hxE
        have hz_hxE := hxE.size
        show OpG _ _ _ _ _ _
        exact og_plain rfl (ox_val (ov_field0 (off := 1) fo25_1 rfl))
      · intro wd hxE
        replace hr := hr.ext hxE
        replace hr2 := hr2.ext hxE
        replace hE := hE.tr hxE
        replace hb_g2 := hb_g2.ext hxE
        replace hb_g3 := hb_g3.ext hxE
        have hz_hxE := hxE.size
        rintro _ rfl
        show OpG _ _ _ _ _ _
        exact og_plain rfl (ox_val (ov_loadAt oc22 rfl hb_g2 rfl))
      · intro wd hxE
        replace hr := hr.ext hxE
        replace hr2 := hr2.ext hxE
        replace hE := hE.tr hxE
        replace hb_g2 := hb_g2.ext hxE
        replace hb_g3 := hb_g3.ext hxE
        have hz_hxE := hxE.size
        rintro _ rfl
        show OpG _ _ _ _ _ _
        refine og_plain rfl (OpRun.mono (or_bappend0 bt22 rfl rfl hr (by omega)) ?_)
        rintro v w203 ⟨A28, c28, rfl, ho28, he28⟩
        replace hr := hr.ext he28
        replace hr2 := hr2.ext he28
        replace hE := hE.tr he28
        replace hb_g2 := hb_g2.ext he28
        replace hb_g3 := hb_g3.ext he28
        have hz_he28 := he28.size
        have hq_ho28 := fun g e => Own.lt ho28 (g := g) e
        exact ⟨⟨A28, c28, rfl, Own.mono ho28 (by omega)⟩, he28⟩
      · intro wd hxE
        replace hr := hr.ext hxE
        replace hr2 := hr2.ext hxE
        replace hE := hE.tr hxE
        replace hb_g2 := hb_g2.ext hxE
        replace hb_g3 := hb_g3.ext hxE
        have hz_hxE := hxE.size
        rintro _ rfl
        rintro _ ⟨A28, c28, rfl, ho28⟩
        show OpG _ _ _ _ _ _
        refine og_plain rfl (OpRun.mono (ov_build (cs := [(.int .u8 (↑x.toNat : Int)), (.slice A28 p.length c28)]) ze25 pl25 rfl rfl) ?_)
        rintro v _ ⟨rfl, rfl⟩
        exact ⟨⟨A28, c28, rfl, ho28⟩, ext_refl _⟩
      · intro wd hxE
        replace hr := hr.ext hxE
        replace hr2 := hr2.ext hxE
        replace hE := hE.tr hxE
        replace hb_g2 := hb_g2.ext hxE
        replace hb_g3 := hb_g3.ext hxE
        have hz_hxE := hxE.size
        show OpG _ _ _ _ _ _
        refine og_plain rfl (OpRun.mono (or_alloc (cs := [(.int .u8 0), (.slice none 0 0)]) ze25 rfl) ?_)
        rintro v w203 ⟨g5, rfl, hb_g5, he5, hl5, hu5⟩
        replace hr := hr.ext he5
        replace hr2 := hr2.ext he5
        replace hE := hE.tr he5
        replace hb_g2 := hb_g2.ext he5
        replace hb_g3 := hb_g3.ext he5
        have hz_he5 := he5.size
        exact ⟨⟨g5, rfl, hb_g5, by omega⟩, he5⟩
      · intro wf3 hf3
        replace hr := hr.ext hf3
        replace hr2 := hr2.ext hf3
        replace hE := hE.tr hf3
        replace hb_g2 := hb_g2.ext hf3
        replace hb_g3 := hb_g3.ext hf3
        have hz_hf3 := hf3.size
        rintro _ rfl
        rintro _ rfl
        rintro _ rfl
        rintro _ rfl
        rintro _ ⟨A28, c28, rfl, ho28⟩
        rintro _ ⟨A28, c28, rfl, ho28⟩
        rintro _ ⟨g5, rfl, hb_g5, hl5⟩
        have hq_ho28 := fun g e => Own.lt ho28 (g := g) e
        show WL _ _ _ [_] _ _ _
        refine wl_step0 (or_storeBlk (vs := [(.int .u8 (↑x.toNat : Int)), (.slice A28 p.length c28)]) sz25 rfl rfl (by simp [Value.oneCell']) hb_g5 rfl) rfl rfl ?_
        rintro _ w203 ⟨hN203, hg203⟩
        have hz_hg203 := hg203.size
        replace hr := hr.gr hg203 (fun _ e => by cases e; omega)
        replace hr2 := hr2.gr hg203 (fun _ e => by cases e; omega)
        replace hE := hE.gr hg203 (fun _ e => by cases e; omega)
        replace hb_g2 := hb_g2.gr hg203 (by intro e; cases e; omega)
        replace hb_g3 := hb_g3.gr hg203 (by intro e; cases e; omega)
        replace ho28 := Own.gr ho28 hg203 (by first | exact .inl rfl | (right; intro e; first | (have := hq_ho28 _ e; omega) | (have := Own.lt ho28 e; omega) | exact own_blk_ne ho28 hb_g5 (by decide) e))
        replace hb_g5 := hN203
        refine q_nil ?_
        refine k_then ?_
        refine wc_seq ?_
        refine wc_regionL ?_
        refine wl_val (ov_loadBlk (cs := [(.int .u8 (↑x.toNat : Int)), (.slice A28 p.length c28)]) ag25_2 rfl hb_g5) rfl rfl rfl ?_
        refine wl_step (or_call0 cl19 rfl rfl (fwrite_any _ _ _ (x) _ _ p (OwnB.rd ho28) (by omega))) rfl rfl rfl ?_
        rintro v w204 ⟨A32, c32, rfl, ho32, he32⟩
        replace hr := hr.ext he32
        replace hr2 := hr2.ext he32
        replace hE := hE.tr he32
        replace hb_g2 := hb_g2.ext he32
        replace hb_g3 := hb_g3.ext he32
        replace ho28 := Own.ext ho28 he32
        replace hb_g5 := hb_g5.ext he32
        have hz_he32 := he32.size
        have hq_ho32 := fun g e => Own.lt ho32 (g := g) e
        refine wl_val (ov_move rfl) rfl rfl rfl ?_
        refine wl_val (ov_extract rfl rfl) rfl rfl rfl ?_
        refine wl_val (ov_extract rfl rfl) rfl rfl rfl ?_
        refine wl_val (ov_assign rfl) rfl rfl rfl ?_
        refine wl_val (ov_assign rfl) rfl rfl rfl ?_
        refine q_nil ?_
        refine k_then ?_
        refine wc_seq ?_
        refine wc_regionL ?_
        refine wl_val (ov_loadBlk (cs := [(.int .u8 (↑x.toNat : Int)), (.slice A p.length c)]) ag25_2 rfl hb_g2) rfl rfl rfl ?_
        refine wl_step (or_call0 cl21 rfl rfl (rfwrite_any _ _ _ (x) _ _ p hr (by omega))) rfl rfl rfl ?_
        rintro v w205 ⟨A37, c37, rfl, ho37, he37⟩
        replace hr := hr.ext he37
        replace hr2 := hr2.ext he37
        replace hE := hE.tr he37
        replace hb_g2 := hb_g2.ext he37
        replace hb_g3 := hb_g3.ext he37
        replace ho28 := Own.ext ho28 he37
        replace hb_g5 := hb_g5.ext he37
        replace ho32 := Own.ext ho32 he37
        have hz_he37 := he37.size
        have hq_ho37 := fun g e => Own.lt ho37 (g := g) e
        refine wl_val (ov_move rfl) rfl rfl rfl ?_
        refine wl_val (ov_extract rfl rfl) rfl rfl rfl ?_
        refine wl_val (ov_extract rfl rfl) rfl rfl rfl ?_
        refine wl_val (ov_assign rfl) rfl rfl rfl ?_
        refine wl_val (ov_assign rfl) rfl rfl rfl ?_
        refine q_nil ?_
        refine k_then ?_
        refine wc_seq ?_
        refine wc_regionL ?_
        refine wl_val (ov_loadBlk (cs := [(.int .u8 (↑x.toNat : Int)), (.slice A28 p.length c28)]) ag25_2 rfl hb_g5) rfl rfl rfl ?_
        refine wl_step (or_call0 cl20 rfl rfl (fsize_any _ (x) _ _ p (by omega))) rfl rfl rfl ?_
        rintro v w206 ⟨rfl, he42⟩
        replace hr := hr.ext he42
        replace hr2 := hr2.ext he42
        replace hE := hE.tr he42
        replace hb_g2 := hb_g2.ext he42
        replace hb_g3 := hb_g3.ext he42
        replace ho28 := Own.ext ho28 he42
        replace hb_g5 := hb_g5.ext he42
        replace ho32 := Own.ext ho32 he42
        replace ho37 := Own.ext ho37 he42
        have hz_he42 := he42.size
        refine wl_val (ov_move rfl) rfl rfl rfl ?_
        refine wl_val (ov_extract rfl rfl) rfl rfl rfl ?_
        refine wl_val (ov_extract rfl rfl) rfl rfl rfl ?_
        refine wl_val (ov_assign rfl) rfl rfl rfl ?_
        refine wl_val (ov_assign rfl) rfl rfl rfl ?_
        refine q_nil ?_
        refine k_then ?_
        refine wc_seq ?_
        refine wc_seq ?_
        refine wc_regionL ?_
        refine wl_val (ov_field0 (off := 1) fo25_1 rfl) rfl rfl rfl ?_
        refine wl_val (ov_loadAt oc22 rfl hb_g5 rfl) rfl rfl rfl ?_
        refine wl_val (ov_len Try.underlying22 rfl) rfl rfl rfl ?_
        refine wl_val (ov_move rfl) rfl rfl rfl ?_
        refine q_nil ?_
        refine k_then ?_
        have hcap_5 := RdB.cap (OwnB.rd ho28)
        have hbl_5 := hb_g5.lt
        refine wc_block ?_
        refine wc_loop (σ := Nat × List UInt8) (fun s => p.length - s.1) (fun s => [(48, .int .i64 (s.1 : Int)), (2, (.pointer (some ⟨g2, 0, none⟩))), (3, (.pointer (some ⟨g3, 0, none⟩))), (4, (.bool false)), (5, (.pointer (some ⟨g5, 0, none⟩))), (6, (.slice A32 (fwrite (x) p).1.length c32)), (7, (.int .i64 (↑(fwrite (x) p).2 : Int))), (8, (.slice A37 (fwrite (x) p).1.length c37)), (10, (.int .i64 (↑(fsize p).1 : Int))), (11, (.int .i64 (↑(fsize p).2 : Int))), (47, (.int .i64 (↑p.length : Int)))]) (fun s w' => OwnB w' w2.heap.size 5 A28 c28 s.2 ∧ Gr w206 w' (blk A28) ∧ s.2.length = p.length ∧ s.1 ≤ p.length ∧ Blk w' g5 25 [(.int .u8 (↑x.toNat : Int)), (.slice A28 p.length c28)]) (0, p) (⟨ho28, (ext_refl _).row _, rfl, Nat.zero_le _, hb_g5⟩) (⟨rfl, rfl, rfl, rfl, rfl, rfl, rfl, rfl, rfl, rfl, rfl, trivial⟩) ?_
        rintro ⟨k_5, l_5⟩ w207 ⟨ho_5, hG_5, hL_5, hk_5, hb_g5⟩
        simp only at hL_5 hk_5
        replace ho_5 : OwnB _ _ _ _ _ l_5 := ho_5
        show WC _ _ _ _ [(48, (.int .i64 (↑k_5 : Int))), (2, (.pointer (some ⟨g2, 0, none⟩))), (3, (.pointer (some ⟨g3, 0, none⟩))), (4, (.bool false)), (5, (.pointer (some ⟨g5, 0, none⟩))), (6, (.slice A32 (fwrite (x) p).1.length c32)), (7, (.int .i64 (↑(fwrite (x) p).2 : Int))), (8, (.slice A37 (fwrite (x) p).1.length c37)), (10, (.int .i64 (↑(fsize p).1 : Int))), (11, (.int .i64 (↑(fsize p).2 : Int))), (47, (.int .i64 (↑p.length : Int)))] _
        refine wc_seq ?_
        refine wc_regionL ?_
        refine wl_val (ov_lss rfl rfl) rfl rfl rfl ?_
        refine q_nil ?_
        refine k_then ?_
        refine wc_seq ?_
        refine wc_cond_d rfl (fun hc2 => ?_) (fun hc2 => ?_)
        · obtain ⟨g_5, hA_5, hg1_5, hgu_5⟩ := Own.addr ho_5 (by omega)
          subst hA_5
          refine q_skip ?_
          refine k_then ?_
          refine wc_seq ?_
          refine wc_block ?_
          refine wc_seq ?_
          refine wc_regionL ?_
          refine wl_val (ov_move rfl) rfl rfl rfl ?_
          refine wl_val (ov_assign rfl) rfl rfl rfl ?_
          refine q_nil ?_
          refine k_then ?_
          refine wc_regionL ?_
          refine wl_val (ov_field0 (off := 1) fo25_1 rfl) rfl rfl rfl ?_
          refine wl_val (ov_loadAt oc22 rfl hb_g5 rfl) rfl rfl rfl ?_
          refine wl_val (ov_move rfl) rfl rfl rfl ?_
          refine wl_val (ov_oindex bt22.s rfl rfl rfl (by omega)) rfl rfl rfl ?_
          refine wl_val (ov_load oc5 rfl (OwnB.cellAt ho_5 (by omega))) rfl rfl rfl ?_
          refine wl_val (ov_add rfl rfl (wu8_succ _)) rfl rfl rfl ?_
          refine wl_val (ov_oindex bt22.s rfl rfl rfl (by omega)) rfl rfl rfl ?_
          refine wl_step0 (or_storeOwn sz5 rfl rfl ho_5 (by omega)) rfl rfl ?_
          rintro _ w208 ⟨ho2_5, hg2_5⟩
          have hz2_5 := hg2_5.size
          replace hb_g5 := hb_g5.gr hg2_5 (by first | (intro e; cases e; have := hq_ho28 _ rfl; omega) | exact own_blk_ne ho_5 hb_g5 (by decide))
          refine q_nil ?_
          refine k_block ?_
          refine k_then ?_
          refine wc_regionL ?_
          refine wl_val (ov_add rfl rfl (wi64 (by omega) (by omega))) rfl rfl rfl ?_
          refine wl_val (ov_move rfl) rfl rfl rfl ?_
          refine q_nil ?_
          refine k_loop ((k_5 + 1, l_5.set k_5 ((l_5.getD k_5 0) + 1))) (by show p.length - (k_5 + 1) < p.length - k_5; omega) (⟨rfl, rfl, rfl, rfl, rfl, rfl, rfl, rfl, rfl, rfl, rfl, trivial⟩) (⟨ho2_5, hG_5.gr hg2_5 (fun g e => .inl e), by show (List.set _ _ _).length = _; rw [List.length_set]; exact hL_5, by show k_5 + 1 ≤ _; omega, hb_g5⟩)
        · have hz_hG_5 := hG_5.size
          replace hr := hr.gr hG_5 (fun g e => by have := hq_ho28 g e; omega)
          replace hr2 := hr2.gr hG_5 (fun g e => by have := hq_ho28 g e; omega)
          replace hE := hE.gr hG_5 (fun g e => by have := hq_ho28 g e; omega)
          replace hb_g2 := hb_g2.gr hG_5 (fun e => by have := hq_ho28 _ e; omega)
          replace hb_g3 := hb_g3.gr hG_5 (fun e => by have := hq_ho28 _ e; omega)
          replace ho32 := Own.gr ho32 hG_5 (own_apart fun g e g2 e2 => by have := hq_ho32 g e; have := hq_ho28 g2 e2; omega)
          replace ho37 := Own.gr ho37 hG_5 (own_apart fun g e g2 e2 => by have := hq_ho37 g e; have := hq_ho28 g2 e2; omega)
          refine q_exit ?_
          refine k_thenX ?_
          refine k_thenX ?_
          refine k_blockE ?_
          refine k_then ?_
          refine wc_seq ?_
          refine wc_draw mixed 31 [(59, eqv (.slice A32 (fwrite (x) p).1.length c32)), (60, eqv (.string (strB (fwrite (x) p).1))), (61, eqv (.slice A37 (fwrite (x) p).1.length c37)), (62, eqv (.string (strB (fwrite (x) p).1))), (63, eqv (.bool true)), (64, eqv (.bool true)), (65, eqv (.int .i64 (↑(fwrite (x) p).2 : Int))), (66, eqv (.bool true)), (67, eqv (.bool true)), (68, eqv (.bool true)), (69, eqv (.int .i64 (↑(fsize p).1 : Int))), (70, eqv (.slice A37 (fwrite (x) p).1.length c37)), (71, eqv (.int .i64 (↑(fwrite (x) p).1.length : Int))), (72, eqv (.bool true)), (73, eqv (.bool true)), (74, eqv (.bool true)), (75, eqv (.int .i64 (↑(fsize p).2 : Int))), (76, eqv (.bool true)), (77, eqv (.bool true)), (78, eqv (.bool true)), (79, eqv (.agg #[(.int .u8 (↑x.toNat : Int)), (.slice A p.length c)])), (80, eqv (.agg #[(.int .u8 (↑y.toNat : Int)), (.slice B q.length c2)])), (81, eqv (.bool (decide (((x), p) = ((y), q))))), (82, eqv (.agg #[(.int .u8 (↑x.toNat : Int)), (.slice A p.length c)])), (83, eqv (.agg #[(.int .u8 (↑y.toNat : Int)), (.slice B q.length c2)])), (84, eqv (.bool (decide (((x), p) = ((y), q))))), (85, eqv (.bool true)), (86, eqv (.bool true)), (87, eqv (.bool true)), (88, eqv (.agg #[(.int .u8 (↑x.toNat : Int)), (.slice A p.length c)])), (89, eqv (.agg #[(.int .u8 (↑x.toNat : Int)), (.slice A p.length c)]))] [[], [0], [], [2], [1, 3], [4], [5], [5, 6], [5, 7], [8], [9], [9], [9, 11], [9, 10, 12], [9, 13], [14], [15], [15, 16], [15, 17], [18], [19], [19], [19, 20, 21], [19], [19], [19, 23, 24], [19, 22, 25], [19, 26], [27], [28], [28]] (by kernel_rfl) rfl ⟨stb_eqv _, stb_eqv _, stb_eqv _, stb_eqv _, stb_eqv _, stb_eqv _, stb_eqv _, stb_eqv _, stb_eqv _, stb_eqv _, stb_eqv _, stb_eqv _, stb_eqv _, stb_eqv _, stb_eqv _, stb_eqv _, stb_eqv _, stb_eqv _, stb_eqv _, stb_eqv _, stb_eqv _, stb_eqv _, stb_eqv _, stb_eqv _, stb_eqv _, stb_eqv _, stb_eqv _, stb_eqv _, stb_eqv _, stb_eqv _, stb_eqv _, trivial⟩ ⟨?_, ?_, ?_, ?_, ?_, ?_, ?_, ?_, ?_, ?_, ?_, ?_, ?_, ?_, ?_, ?_, ?_, ?_, ?_, ?_, ?_, ?_, ?_, ?_, ?_, ?_, ?_, ?_, ?_, ?_, ?_, trivial⟩ ?_
          · intro wd hxE
            replace hr := hr.ext hxE
            replace hr2 := hr2.ext hxE
            replace hE := hE.tr hxE
            replace hb_g2 := hb_g2.ext hxE
            replace hb_g3 := hb_g3.ext hxE
            replace hb_g5 := hb_g5.ext hxE
            replace ho32 := Own.ext ho32 hxE
            replace ho37 := Own.ext ho37 hxE
            have hz_hxE := hxE.size
            show OpG _ _ _ _ _ _
            exact og_plain rfl (ox_val (ov_move rfl))
          · intro wd hxE
            replace hr := hr.ext hxE
            replace hr2 := hr2.ext hxE
            replace hE := hE.tr hxE
            replace hb_g2 := hb_g2.ext hxE
            replace hb_g3 := hb_g3.ext hxE
            replace hb_g5 := hb_g5.ext hxE
            replace ho32 := Own.ext ho32 hxE
            replace ho37 := Own.ext ho37 hxE
            have hz_hxE := hxE.size
            rintro _ rfl
            show OpG _ _ _ _ _ _
            exact og_plain rfl (ox_val (ov_bstr bt22 Try.underlying9 rfl (OwnB.rd ho32)))
          · intro wd hxE
            replace hr := hr.ext hxE
            replace hr2 := hr2.ext hxE
            replace hE := hE.tr hxE
            replace hb_g2 := hb_g2.ext hxE
            replace hb_g3 := hb_g3.ext hxE
            replace hb_g5 := hb_g5.ext hxE
            replace ho32 := Own.ext ho32 hxE
            replace ho37 := Own.ext ho37 hxE
            have hz_hxE := hxE.size
            show OpG _ _ _ _ _ _
            exact og_plain rfl (ox_val (ov_move rfl))
          · intro wd hxE
            replace hr := hr.ext hxE
            replace hr2 := hr2.ext hxE
            replace hE := hE.tr hxE
            replace hb_g2 := hb_g2.ext hxE
            replace hb_g3 := hb_g3.ext hxE
            replace hb_g5 := hb_g5.ext hxE
            replace ho32 := Own.ext ho32 hxE
            replace ho37 := Own.ext ho37 hxE
            have hz_hxE := hxE.size
            rintro _ rfl
            show OpG _ _ _ _ _ _
            exact og_plain rfl (ox_val (ov_bstr bt22 Try.underlying9 rfl (OwnB.rd ho37)))
          · intro wd hxE
            replace hr := hr.ext hxE
            replace hr2 := hr2.ext hxE
            replace hE := hE.tr hxE
            replace hb_g2 := hb_g2.ext hxE
            replace hb_g3 := hb_g3.ext hxE
            replace hb_g5 := hb_g5.ext hxE
            replace ho32 := Own.ext ho32 hxE
            replace ho37 := Own.ext ho37 hxE
            have hz_hxE := hxE.size
            rintro _ rfl
            rintro _ rfl
            show OpG _ _ _ _ _ _
            exact og_plain rfl (ox_T (rfl) (ov_seq rfl rfl))
          · intro wd hxE
            replace hr := hr.ext hxE
            replace hr2 := hr2.ext hxE
            replace hE := hE.tr hxE
            replace hb_g2 := hb_g2.ext hxE
            replace hb_g3 := hb_g3.ext hxE
            replace hb_g5 := hb_g5.ext hxE
            replace ho32 := Own.ext ho32 hxE
            replace ho37 := Own.ext ho37 hxE
            have hz_hxE := hxE.size
            rintro _ rfl
            show OpG _ _ _ _ _ _
            exact og_plain rfl (ox_val (ov_move rfl))
          · intro wd hxE
            replace hr := hr.ext hxE
            replace hr2 := hr2.ext hxE
            replace hE := hE.tr hxE
            replace hb_g2 := hb_g2.ext hxE
            replace hb_g3 := hb_g3.ext hxE
            replace hb_g5 := hb_g5.ext hxE
            replace ho32 := Own.ext ho32 hxE
            replace ho37 := Own.ext ho37 hxE
            have hz_hxE := hxE.size
            rintro _ rfl
            show OpG _ _ _ _ _ _
            exact og_on rfl rfl rfl (ox_val (ov_move rfl))
          · intro wd hxE
            replace hr := hr.ext hxE
            replace hr2 := hr2.ext hxE
            replace hE := hE.tr hxE
            replace hb_g2 := hb_g2.ext hxE
            replace hb_g3 := hb_g3.ext hxE
            replace hb_g5 := hb_g5.ext hxE
            replace ho32 := Own.ext ho32 hxE
            replace ho37 := Own.ext ho37 hxE
            have hz_hxE := hxE.size
            rintro _ rfl
            rintro _ rfl
            show OpG _ _ _ _ _ _
            exact og_on rfl rfl rfl (ox_T (by rw [fwrite_short (by omega)]; rfl) (ov_eql rfl rfl))
          · intro wd hxE
            replace hr := hr.ext hxE
            replace hr2 := hr2.ext hxE
            replace hE := hE.tr hxE
            replace hb_g2 := hb_g2.ext hxE
            replace hb_g3 := hb_g3.ext hxE
            replace hb_g5 := hb_g5.ext hxE
            replace ho32 := Own.ext ho32 hxE
            replace ho37 := Own.ext ho37 hxE
            have hz_hxE := hxE.size
            rintro _ rfl
            rintro _ rfl
            show OpG _ _ _ _ _ _
            exact og_plain rfl (ox_val (ov_pick_t rfl rfl))
          · intro wd hxE
            replace hr := hr.ext hxE
            replace hr2 := hr2.ext hxE
            replace hE := hE.tr hxE
            replace hb_g2 := hb_g2.ext hxE
            replace hb_g3 := hb_g3.ext hxE
            replace hb_g5 := hb_g5.ext hxE
            replace ho32 := Own.ext ho32 hxE
            replace ho37 := Own.ext ho37 hxE
            have hz_hxE := hxE.size
            rintro _ rfl
            show OpG _ _ _ _ _ _
            exact og_plain rfl (ox_val (ov_move rfl))
          · intro wd hxE
            replace hr := hr.ext hxE
            replace hr2 := hr2.ext hxE
            replace hE := hE.tr hxE
            replace hb_g2 := hb_g2.ext hxE
            replace hb_g3 := hb_g3.ext hxE
            replace hb_g5 := hb_g5.ext hxE
            replace ho32 := Own.ext ho32 hxE
            replace ho37 := Own.ext ho37 hxE
            have hz_hxE := hxE.size
            rintro _ rfl
            show OpG _ _ _ _ _ _
            exact og_on rfl rfl rfl (ox_val (ov_move rfl))
          · intro wd hxE
            replace hr := hr.ext hxE
            replace hr2 := hr2.ext hxE
            replace hE := hE.tr hxE
            replace hb_g2 := hb_g2.ext hxE
            replace hb_g3 := hb_g3.ext hxE
            replace hb_g5 := hb_g5.ext hxE
            replace ho32 := Own.ext ho32 hxE
            replace ho37 := Own.ext ho37 hxE
            have hz_hxE := hxE.size
            rintro _ rfl
            show OpG _ _ _ _ _ _
            exact og_on rfl rfl rfl (ox_val (ov_move rfl))
          · intro wd hxE
            replace hr := hr.ext hxE
            replace hr2 := hr2.ext hxE
            replace hE := hE.tr hxE
            replace hb_g2 := hb_g2.ext hxE
            replace hb_g3 := hb_g3.ext hxE
            replace hb_g5 := hb_g5.ext hxE
            replace ho32 := Own.ext ho32 hxE
            replace ho37 := Own.ext ho37 hxE
            have hz_hxE := hxE.size
            rintro _ rfl
            rintro _ rfl
            show OpG _ _ _ _ _ _
            exact og_on rfl rfl rfl (ox_val (ov_len Try.underlying22 rfl))
          · intro wd hxE
            replace hr := hr.ext hxE
            replace hr2 := hr2.ext hxE
            replace hE := hE.tr hxE
            replace hb_g2 := hb_g2.ext hxE
            replace hb_g3 := hb_g3.ext hxE
            replace hb_g5 := hb_g5.ext hxE
            replace ho32 := Own.ext ho32 hxE
            replace ho37 := Own.ext ho37 hxE
            have hz_hxE := hxE.size
            rintro _ rfl
            rintro _ rfl
            rintro _ rfl
            show OpG _ _ _ _ _ _
            exact og_on rfl rfl rfl (ox_T (by rw [fsize_fwrite (x)]) (ov_eql rfl rfl))
          · intro wd hxE
            replace hr := hr.ext hxE
            replace hr2 := hr2.ext hxE
            replace hE := hE.tr hxE
            replace hb_g2 := hb_g2.ext hxE
            replace hb_g3 := hb_g3.ext hxE
            replace hb_g5 := hb_g5.ext hxE
            replace ho32 := Own.ext ho32 hxE
            replace ho37 := Own.ext ho37 hxE
            have hz_hxE := hxE.size
            rintro _ rfl
            rintro _ rfl
            show OpG _ _ _ _ _ _
            exact og_plain rfl (ox_val (ov_pick_t rfl rfl))
          · intro wd hxE
            replace hr := hr.ext hxE
            replace hr2 := hr2.ext hxE
            replace hE := hE.tr hxE
            replace hb_g2 := hb_g2.ext hxE
            replace hb_g3 := hb_g3.ext hxE
            replace hb_g5 := hb_g5.ext hxE
            replace ho32 := Own.ext ho32 hxE
            replace ho37 := Own.ext ho37 hxE
            have hz_hxE := hxE.size
            rintro _ rfl
            show OpG _ _ _ _ _ _
            exact og_plain rfl (ox_val (ov_move rfl))
          · intro wd hxE
            replace hr := hr.ext hxE
            replace hr2 := hr2.ext hxE
            replace hE := hE.tr hxE
            replace hb_g2 := hb_g2.ext hxE
            replace hb_g3 := hb_g3.ext hxE
            replace hb_g5 := hb_g5.ext hxE
            replace ho32 := Own.ext ho32 hxE
            replace ho37 := Own.ext ho37 hxE
            have hz_hxE := hxE.size
            rintro _ rfl
            show OpG _ _ _ _ _ _
            exact og_on rfl rfl rfl (ox_val (ov_move rfl))
          · intro wd hxE
            replace hr := hr.ext hxE
            replace hr2 := hr2.ext hxE
            replace hE := hE.tr hxE
            replace hb_g2 := hb_g2.ext hxE
            replace hb_g3 := hb_g3.ext hxE
            replace hb_g5 := hb_g5.ext hxE
            replace ho32 := Own.ext ho32 hxE
            replace ho37 := Own.ext ho37 hxE
            have hz_hxE := hxE.size
            rintro _ rfl
            rintro _ rfl
            show OpG _ _ _ _ _ _
            exact og_on rfl rfl rfl (ox_T (by rw [fsize_fwrite (x), fwrite_short (by omega)]; rfl) (ov_eql rfl rfl))
          · intro wd hxE
            replace hr := hr.ext hxE
            replace hr2 := hr2.ext hxE
            replace hE := hE.tr hxE
            replace hb_g2 := hb_g2.ext hxE
            replace hb_g3 := hb_g3.ext hxE
            replace hb_g5 := hb_g5.ext hxE
            replace ho32 := Own.ext ho32 hxE
            replace ho37 := Own.ext ho37 hxE
            have hz_hxE := hxE.size
            rintro _ rfl
            rintro _ rfl
            show OpG _ _ _ _ _ _
            exact og_plain rfl (ox_val (ov_pick_t rfl rfl))
          · intro wd hxE
            replace hr := hr.ext hxE
            replace hr2 := hr2.ext hxE
            replace hE := hE.tr hxE
            replace hb_g2 := hb_g2.ext hxE
            replace hb_g3 := hb_g3.ext hxE
            replace hb_g5 := hb_g5.ext hxE
            replace ho32 := Own.ext ho32 hxE
            replace ho37 := Own.ext ho37 hxE
            have hz_hxE := hxE.size
            rintro _ rfl
            show OpG _ _ _ _ _ _
            exact og_plain rfl (ox_val (ov_move rfl))
          · intro wd hxE
            replace hr := hr.ext hxE
            replace hr2 := hr2.ext hxE
            replace hE := hE.tr hxE
            replace hb_g2 := hb_g2.ext hxE
            replace hb_g3 := hb_g3.ext hxE
            replace hb_g5 := hb_g5.ext hxE
            replace ho32 := Own.ext ho32 hxE
            replace ho37 := Own.ext ho37 hxE
            have hz_hxE := hxE.size
            rintro _ rfl
            show OpG _ _ _ _ _ _
            exact og_on rfl rfl rfl (ox_val (ov_loadBlk (cs := [(.int .u8 (↑x.toNat : Int)), (.slice A p.length c)]) ag25_2 rfl hb_g2))
          · intro wd hxE
            replace hr := hr.ext hxE
            replace hr2 := hr2.ext hxE
            replace hE := hE.tr hxE
            replace hb_g2 := hb_g2.ext hxE
            replace hb_g3 := hb_g3.ext hxE
            replace hb_g5 := hb_g5.ext hxE
            replace ho32 := Own.ext ho32 hxE
            replace ho37 := Own.ext ho37 hxE
            have hz_hxE := hxE.size
            rintro _ rfl
            show OpG _ _ _ _ _ _
            exact og_on rfl rfl rfl (ox_val (ov_loadBlk (cs := [(.int .u8 (↑y.toNat : Int)), (.slice B q.length c2)]) ag25_2 rfl hb_g3))
          · intro wd hxE
            replace hr := hr.ext hxE
            replace hr2 := hr2.ext hxE
            replace hE := hE.tr hxE
            replace hb_g2 := hb_g2.ext hxE
            replace hb_g3 := hb_g3.ext hxE
            replace hb_g5 := hb_g5.ext hxE
            replace ho32 := Own.ext ho32 hxE
            replace ho37 := Own.ext ho37 hxE
            have hz_hxE := hxE.size
            rintro _ rfl
            rintro _ rfl
            rintro _ rfl
            show OpG _ _ _ _ _ _
            refine og_on rfl rfl rfl (OpRun.mono (or_call0 cl22 rfl rfl (fequal_any _ _ _ _ _ (x) _ _ p (y) _ _ q hr hr2)) ?_)
            rintro v w208 ⟨rfl, he81⟩
            replace hr := hr.ext he81
            replace hr2 := hr2.ext he81
            replace hE := hE.tr he81
            replace hb_g2 := hb_g2.ext he81
            replace hb_g3 := hb_g3.ext he81
            replace hb_g5 := hb_g5.ext he81
            replace ho32 := Own.ext ho32 he81
            replace ho37 := Own.ext ho37 he81
            have hz_he81 := he81.size
            exact ⟨rfl, he81⟩
          · intro wd hxE
            replace hr := hr.ext hxE
            replace hr2 := hr2.ext hxE
            replace hE := hE.tr hxE
            replace hb_g2 := hb_g2.ext hxE
            replace hb_g3 := hb_g3.ext hxE
            replace hb_g5 := hb_g5.ext hxE
            replace ho32 := Own.ext ho32 hxE
            replace ho37 := Own.ext ho37 hxE
            have hz_hxE := hxE.size
            rintro _ rfl
            show OpG _ _ _ _ _ _
            exact og_on rfl rfl rfl (ox_val (ov_loadBlk (cs := [(.int .u8 (↑x.toNat : Int)), (.slice A p.length c)]) ag25_2 rfl hb_g2))
          · intro wd hxE
            replace hr := hr.ext hxE
            replace hr2 := hr2.ext hxE
            replace hE := hE.tr hxE
            replace hb_g2 := hb_g2.ext hxE
            replace hb_g3 := hb_g3.ext hxE
            replace hb_g5 := hb_g5.ext hxE
            replace ho32 := Own.ext ho32 hxE
            replace ho37 := Own.ext ho37 hxE
            have hz_hxE := hxE.size
            rintro _ rfl
            show OpG _ _ _ _ _ _
            exact og_on rfl rfl rfl (ox_val (ov_loadBlk (cs := [(.int .u8 (↑y.toNat : Int)), (.slice B q.length c2)]) ag25_2 rfl hb_g3))
          · intro wd hxE
            replace hr := hr.ext hxE
            replace hr2 := hr2.ext hxE
            replace hE := hE.tr hxE
            replace hb_g2 := hb_g2.ext hxE
            replace hb_g3 := hb_g3.ext hxE
            replace hb_g5 := hb_g5.ext hxE
            replace ho32 := Own.ext ho32 hxE
            replace ho37 := Own.ext ho37 hxE
            have hz_hxE := hxE.size
            rintro _ rfl
            rintro _ rfl
            rintro _ rfl
            show OpG _ _ _ _ _ _
            refine og_on rfl rfl rfl (OpRun.mono (or_call0 cl18 rfl rfl (rfequal_any _ _ _ _ _ (x) _ _ p (y) _ _ q hr hr2)) ?_)
            rintro v w208 ⟨rfl, he84⟩
            replace hr := hr.ext he84
            replace hr2 := hr2.ext he84
            replace hE := hE.tr he84
            replace hb_g2 := hb_g2.ext he84
            replace hb_g3 := hb_g3.ext he84
            replace hb_g5 := hb_g5.ext he84
            replace ho32 := Own.ext ho32 he84
            replace ho37 := Own.ext ho37 he84
            have hz_he84 := he84.size
            exact ⟨rfl, he84⟩
          · intro wd hxE
            replace hr := hr.ext hxE
            replace hr2 := hr2.ext hxE
            replace hE := hE.tr hxE
            replace hb_g2 := hb_g2.ext hxE
            replace hb_g3 := hb_g3.ext hxE
            replace hb_g5 := hb_g5.ext hxE
            replace ho32 := Own.ext ho32 hxE
            replace ho37 := Own.ext ho37 hxE
            have hz_hxE := hxE.size
            rintro _ rfl
            rintro _ rfl
            rintro _ rfl
            show OpG _ _ _ _ _ _
            exact og_on rfl rfl rfl (ox_spell (by simp) (ov_eqb Try.underlying4 rfl rfl))
          · intro wd hxE
            replace hr := hr.ext hxE
            replace hr2 := hr2.ext hxE
            replace hE := hE.tr hxE
            replace hb_g2 := hb_g2.ext hxE
            replace hb_g3 := hb_g3.ext hxE
            replace hb_g5 := hb_g5.ext hxE
            replace ho32 := Own.ext ho32 hxE
            replace ho37 := Own.ext ho37 hxE
            have hz_hxE := hxE.size
            rintro _ rfl
            rintro _ rfl
            show OpG _ _ _ _ _ _
            exact og_plain rfl (ox_val (ov_pick_t rfl rfl))
          · intro wd hxE
            replace hr := hr.ext hxE
            replace hr2 := hr2.ext hxE
            replace hE := hE.tr hxE
            replace hb_g2 := hb_g2.ext hxE
            replace hb_g3 := hb_g3.ext hxE
            replace hb_g5 := hb_g5.ext hxE
            replace ho32 := Own.ext ho32 hxE
            replace ho37 := Own.ext ho37 hxE
            have hz_hxE := hxE.size
            rintro _ rfl
            show OpG _ _ _ _ _ _
            exact og_plain rfl (ox_val (ov_move rfl))
          · intro wd hxE
            replace hr := hr.ext hxE
            replace hr2 := hr2.ext hxE
            replace hE := hE.tr hxE
            replace hb_g2 := hb_g2.ext hxE
            replace hb_g3 := hb_g3.ext hxE
            replace hb_g5 := hb_g5.ext hxE
            replace ho32 := Own.ext ho32 hxE
            replace ho37 := Own.ext ho37 hxE
            have hz_hxE := hxE.size
            rintro _ rfl
            show OpG _ _ _ _ _ _
            exact og_on rfl rfl rfl (ox_val (ov_loadBlk (cs := [(.int .u8 (↑x.toNat : Int)), (.slice A p.length c)]) ag25_2 rfl hb_g2))
          · intro wd hxE
            replace hr := hr.ext hxE
            replace hr2 := hr2.ext hxE
            replace hE := hE.tr hxE
            replace hb_g2 := hb_g2.ext hxE
            replace hb_g3 := hb_g3.ext hxE
            replace hb_g5 := hb_g5.ext hxE
            replace ho32 := Own.ext ho32 hxE
            replace ho37 := Own.ext ho37 hxE
            have hz_hxE := hxE.size
            rintro _ rfl
            show OpG _ _ _ _ _ _
            exact og_on rfl rfl rfl (ox_val (ov_loadBlk (cs := [(.int .u8 (↑x.toNat : Int)), (.slice A p.length c)]) ag25_2 rfl hb_g2))
          · intro wf12 hf12
            replace hr := hr.ext hf12
            replace hr2 := hr2.ext hf12
            replace hE := hE.tr hf12
            replace hb_g2 := hb_g2.ext hf12
            replace hb_g3 := hb_g3.ext hf12
            replace hb_g5 := hb_g5.ext hf12
            replace ho32 := Own.ext ho32 hf12
            replace ho37 := Own.ext ho37 hf12
            have hz_hf12 := hf12.size
            rintro _ rfl
            rintro _ rfl
            rintro _ rfl
            rintro _ rfl
            rintro _ rfl
            rintro _ rfl
            rintro _ rfl
            rintro _ rfl
            rintro _ rfl
            rintro _ rfl
            rintro _ rfl
            rintro _ rfl
            rintro _ rfl
            rintro _ rfl
            rintro _ rfl
            rintro _ rfl
            rintro _ rfl
            rintro _ rfl
            rintro _ rfl
            rintro _ rfl
            rintro _ rfl
            rintro _ rfl
            rintro _ rfl
            rintro _ rfl
            rintro _ rfl
            rintro _ rfl
            rintro _ rfl
            rintro _ rfl
            rintro _ rfl
            rintro _ rfl
            rintro _ rfl
            show WL _ _ _ [_, _, _, _, _, _] _ _ _
            refine wl_gstep (or_call0 cl22 rfl rfl (fequal_any _ _ _ _ _ (x) _ _ p (x) _ _ p hr hr)) rfl rfl rfl rfl rfl ?_
            rintro v w208 ⟨rfl, he90⟩
            replace hr := hr.ext he90
            replace hr2 := hr2.ext he90
            replace hE := hE.tr he90
            replace hb_g2 := hb_g2.ext he90
            replace hb_g3 := hb_g3.ext he90
            replace hb_g5 := hb_g5.ext he90
            replace ho32 := Own.ext ho32 he90
            replace ho37 := Own.ext ho37 he90
            have hz_he90 := he90.size
            refine wl_spell (d := 90) rfl (v' := (.bool true)) (by simp) ?_
            refine wl_val (ov_pick_t rfl rfl) rfl rfl rfl ?_
            refine wl_val (ov_move rfl) rfl rfl rfl ?_
            refine wl_gstep (or_call0 cl14 rfl rfl (known05_any _)) rfl rfl rfl rfl rfl ?_
            rintro v w209 ⟨rfl, he93⟩
            replace hr := hr.ext he93
            replace hr2 := hr2.ext he93
            replace hE := hE.tr he93
            replace hb_g2 := hb_g2.ext he93
            replace hb_g3 := hb_g3.ext he93
            replace hb_g5 := hb_g5.ext he93
            replace ho32 := Own.ext ho32 he93
            replace ho37 := Own.ext ho37 he93
            have hz_he93 := he93.size
            refine wl_val (ov_pick_t rfl rfl) rfl rfl rfl ?_
            refine wl_val (ov_assign rfl) rfl rfl rfl ?_
            refine q_nil ?_
            refine k_then ?_
            refine q_ret ?_
            refine e_ret rfl rfl ?_
            exact ⟨rfl, hE⟩

end Go.Proofs.Ytfniipfdpoeapaa
