/-
  The walk of RequestWrites.
-/
import Derived.Test.YtohnkjjjejnkpaaDoorKg
namespace Go.Proofs.YtohnkjjjejnkpaaDoor
open Go.RowKit
set_option linter.unusedVariables false
set_option maxRecDepth 4000
theorem cl13 : callable Tryd.prog 13 = true := by kernel_rfl
theorem cl16 : callable Tryd.prog 16 = true := by kernel_rfl
theorem cl19 : callable Tryd.prog 19 = true := by kernel_rfl
theorem cl21 : callable Tryd.prog 21 = true := by kernel_rfl
theorem cl9 : callable Tryd.prog 9 = true := by kernel_rfl

theorem requestWrites_a (w : World) (hW : WordsAt w) (a : Cmd) (lo hi : Nat) (K : Option Addr) (ck : Nat) (V : Option Addr) (cv : Nat) (T : Option Addr) (ct : Nat) (hK : RdS w lo hi K ck a.keys) (hV : RdB w lo hi V cv a.value) (hT : RdS w lo hi T ct a.tags) (hoa : CmdOK a) (ha : lightC a = false) :
    Fn Tryd.prog 4 #[(.agg #[(.int .i64 a.op), (.string (strB a.key)), (.slice K a.keys.length ck), (.slice V a.value.length cv), (.slice T a.tags.length ct), (.int .u64 (↑a.life : Int)), (.int .u64 (↑a.ver : Int)), (.string (strB a.tag)), (.string (strB a.pre)), (.string (strB a.child))])] w (fun v w' => v = .bool true ∧ Ext w w')  := by
  replace hK := hK.top
  replace hV := hV.top
  replace hT := hT.top
  have hE := ext_refl w
  refine fn_enter (args := [(.agg #[(.int .i64 a.op), (.string (strB a.key)), (.slice K a.keys.length ck), (.slice V a.value.length cv), (.slice T a.tags.length ct), (.int .u64 (↑a.life : Int)), (.int .u64 (↑a.ver : Int)), (.string (strB a.tag)), (.string (strB a.pre)), (.string (strB a.child))])]) Tryd.func4 rfl rfl rfl ?_
  show WC _ _ _ _ [(0, (.agg #[(.int .i64 a.op), (.string (strB a.key)), (.slice K a.keys.length ck), (.slice V a.value.length cv), (.slice T a.tags.length ct), (.int .u64 (↑a.life : Int)), (.int .u64 (↑a.ver : Int)), (.string (strB a.tag)), (.string (strB a.pre)), (.string (strB a.child))]))] _
  refine wc_seq (wc_regionL ?_)
  refine wl_step (or_box (cs := [(.int .i64 a.op), (.string (strB a.key)), (.slice K a.keys.length ck), (.slice V a.value.length cv), (.slice T a.tags.length ct), (.int .u64 (↑a.life : Int)), (.int .u64 (↑a.ver : Int)), (.string (strB a.tag)), (.string (strB a.pre)), (.string (strB a.child))]) rfl rfl) rfl rfl rfl ?_
  rintro v w1 ⟨g1, rfl, hb_g1, he1, hl1, hu1⟩
  replace hK := hK.ext he1
  replace hV := hV.ext he1
  replace hT := hT.ext he1
  replace hE := hE.tr he1
  have hz_he1 := he1.size
  refine va rfl rfl ?_
  refine q_nil (k_then (wc_seq (wc_seq (wc_regionL ?_))))
  refine wl_val (ov_loadBlk (cs := [(.int .i64 a.op), (.string (strB a.key)), (.slice K a.keys.length ck), (.slice V a.value.length cv), (.slice T a.tags.length ct), (.int .u64 (↑a.life : Int)), (.int .u64 (↑a.ver : Int)), (.string (strB a.tag)), (.string (strB a.pre)), (.string (strB a.child))]) ag36_10 rfl hb_g1) rfl rfl rfl ?_
  refine wl_step (or_call0 cl13 rfl rfl (light_any _ a _ _ K ck V cv T ct hK hV hT hoa)) rfl rfl rfl ?_
  rintro v w2 ⟨rfl, he7⟩
  replace hK := hK.ext he7
  replace hV := hV.ext he7
  replace hT := hT.ext he7
  replace hE := hE.tr he7
  replace hb_g1 := hb_g1.ext he7
  have hz_he7 := he7.size
  refine wl_spell (d := 7) rfl (v' := (.bool false)) (by rw [ha]) ?_
  refine wl_val (ov_not (b := false) rfl) rfl rfl rfl ?_
  refine q_nil (k_then ?_)
  refine wc_cond_t rfl ?_
  refine wc_seq (wc_regionL ?_)
  refine wl_step (or_call0 cl9 rfl rfl (known07_any _ (hW.ext hE))) rfl rfl rfl ?_
  rintro v w3 ⟨rfl, he9⟩
  replace hK := hK.ext he9
  replace hV := hV.ext he9
  replace hT := hT.ext he9
  replace hE := hE.tr he9
  replace hb_g1 := hb_g1.ext he9
  have hz_he9 := he9.size
  refine va rfl rfl ?_
  refine q_nil (k_then (q_ret (k_thenR ?_)))
  refine e_ret rfl rfl ?_
  exact ⟨rfl, hE⟩

theorem requestWrites_b (w : World) (hW : WordsAt w) (a : Cmd) (lo hi : Nat) (K : Option Addr) (ck : Nat) (V : Option Addr) (cv : Nat) (T : Option Addr) (ct : Nat) (hK : RdS w lo hi K ck a.keys) (hV : RdB w lo hi V cv a.value) (hT : RdS w lo hi T ct a.tags) (hoa : CmdOK a) (ha : lightC a = true) (hv : rvalid a = false) :
    Fn Tryd.prog 4 #[(.agg #[(.int .i64 a.op), (.string (strB a.key)), (.slice K a.keys.length ck), (.slice V a.value.length cv), (.slice T a.tags.length ct), (.int .u64 (↑a.life : Int)), (.int .u64 (↑a.ver : Int)), (.string (strB a.tag)), (.string (strB a.pre)), (.string (strB a.child))])] w (fun v w' => v = .bool true ∧ Ext w w')  := by
  replace hK := hK.top
  replace hV := hV.top
  replace hT := hT.top
  have hE := ext_refl w
  obtain ⟨hsa, hta, hka, hva⟩ := light_sz ha
  have hwr : wrC a = ((0, []), 2) := by rw [wrC_eq hoa.life hoa.ver, if_neg (by rw [hv]; decide)]
  refine fn_enter (args := [(.agg #[(.int .i64 a.op), (.string (strB a.key)), (.slice K a.keys.length ck), (.slice V a.value.length cv), (.slice T a.tags.length ct), (.int .u64 (↑a.life : Int)), (.int .u64 (↑a.ver : Int)), (.string (strB a.tag)), (.string (strB a.pre)), (.string (strB a.child))])]) Tryd.func4 rfl rfl rfl ?_
  show WC _ _ _ _ [(0, (.agg #[(.int .i64 a.op), (.string (strB a.key)), (.slice K a.keys.length ck), (.slice V a.value.length cv), (.slice T a.tags.length ct), (.int .u64 (↑a.life : Int)), (.int .u64 (↑a.ver : Int)), (.string (strB a.tag)), (.string (strB a.pre)), (.string (strB a.child))]))] _
  refine wc_seq (wc_regionL ?_)
  refine wl_step (or_box (cs := [(.int .i64 a.op), (.string (strB a.key)), (.slice K a.keys.length ck), (.slice V a.value.length cv), (.slice T a.tags.length ct), (.int .u64 (↑a.life : Int)), (.int .u64 (↑a.ver : Int)), (.string (strB a.tag)), (.string (strB a.pre)), (.string (strB a.child))]) rfl rfl) rfl rfl rfl ?_
  rintro v w1 ⟨g1, rfl, hb_g1, he1, hl1, hu1⟩
  replace hK := hK.ext he1
  replace hV := hV.ext he1
  replace hT := hT.ext he1
  replace hE := hE.tr he1
  have hz_he1 := he1.size
  refine va rfl rfl ?_
  refine q_nil (k_then (wc_seq (wc_seq (wc_regionL ?_))))
  refine wl_val (ov_loadBlk (cs := [(.int .i64 a.op), (.string (strB a.key)), (.slice K a.keys.length ck), (.slice V a.value.length cv), (.slice T a.tags.length ct), (.int .u64 (↑a.life : Int)), (.int .u64 (↑a.ver : Int)), (.string (strB a.tag)), (.string (strB a.pre)), (.string (strB a.child))]) ag36_10 rfl hb_g1) rfl rfl rfl ?_
  refine wl_step (or_call0 cl13 rfl rfl (light_any _ a _ _ K ck V cv T ct hK hV hT hoa)) rfl rfl rfl ?_
  rintro v w2 ⟨rfl, he7⟩
  replace hK := hK.ext he7
  replace hV := hV.ext he7
  replace hT := hT.ext he7
  replace hE := hE.tr he7
  replace hb_g1 := hb_g1.ext he7
  have hz_he7 := he7.size
  refine wl_spell (d := 7) rfl (v' := (.bool true)) (by rw [ha]) ?_
  refine wl_val (ov_not (b := true) rfl) rfl rfl rfl ?_
  refine q_nil (k_then ?_)
  refine wc_cond_f rfl ?_
  refine q_skip (k_then (wc_seq (wc_seq (wc_regionL ?_))))
  refine wl_val (ov_loadBlk (cs := [(.int .i64 a.op), (.string (strB a.key)), (.slice K a.keys.length ck), (.slice V a.value.length cv), (.slice T a.tags.length ct), (.int .u64 (↑a.life : Int)), (.int .u64 (↑a.ver : Int)), (.string (strB a.tag)), (.string (strB a.pre)), (.string (strB a.child))]) ag36_10 rfl hb_g1) rfl rfl rfl ?_
  refine wl_step (or_call0 cl14 rfl rfl (rvalid_any _ a _ _ K ck V cv T ct hK hV hT)) rfl rfl rfl ?_
  rintro v w3 ⟨rfl, he11⟩
  replace hK := hK.ext he11
  replace hV := hV.ext he11
  replace hT := hT.ext he11
  replace hE := hE.tr he11
  replace hb_g1 := hb_g1.ext he11
  have hz_he11 := he11.size
  refine wl_spell (d := 11) rfl (v' := (.bool false)) (by rw [hv]) ?_
  refine wl_val (ov_not (b := false) rfl) rfl rfl rfl ?_
  refine q_nil (k_then ?_)
  refine wc_cond_t rfl ?_
  refine wc_seq (wc_regionL ?_)
  refine wl_val (ov_loadBlk (cs := [(.int .i64 a.op), (.string (strB a.key)), (.slice K a.keys.length ck), (.slice V a.value.length cv), (.slice T a.tags.length ct), (.int .u64 (↑a.life : Int)), (.int .u64 (↑a.ver : Int)), (.string (strB a.tag)), (.string (strB a.pre)), (.string (strB a.child))]) ag36_10 rfl hb_g1) rfl rfl rfl ?_
  refine wl_val (ov_build (cs := [(.int .u8 0), (.slice none 0 0)]) ze40 pl40 rfl rfl) rfl rfl rfl ?_
  refine wl_step (or_call0 cl15 rfl rfl (lwrites_any _ a _ _ K ck V cv T ct hK hV hT _ _ (0) _ _ [] (RdB.nil _ 0 0) 2 _ (by rfl) hoa.life hoa.ver hsa hwr)) rfl rfl rfl ?_
  rintro v w4 ⟨rfl, he15⟩
  replace hK := hK.ext he15
  replace hV := hV.ext he15
  replace hT := hT.ext he15
  replace hE := hE.tr he15
  replace hb_g1 := hb_g1.ext he15
  have hz_he15 := he15.size
  refine vm rfl rfl ?_
  refine wl_gstep (or_call0 cl9 rfl rfl (known07_any _ (hW.ext hE))) rfl rfl rfl rfl rfl ?_
  rintro v w5 ⟨rfl, he17⟩
  replace hK := hK.ext he17
  replace hV := hV.ext he17
  replace hT := hT.ext he17
  replace hE := hE.tr he17
  replace hb_g1 := hb_g1.ext he17
  have hz_he17 := he17.size
  refine wl_val (ov_pick_t rfl rfl) rfl rfl rfl ?_
  refine va rfl rfl ?_
  refine q_nil (k_then (q_ret (k_thenR ?_)))
  refine e_ret rfl rfl ?_
  exact ⟨rfl, hE⟩

theorem requestWrites_c (w : World) (hW : WordsAt w) (a : Cmd) (lo hi : Nat) (K : Option Addr) (ck : Nat) (V : Option Addr) (cv : Nat) (T : Option Addr) (ct : Nat) (hK : RdS w lo hi K ck a.keys) (hV : RdB w lo hi V cv a.value) (hT : RdS w lo hi T ct a.tags) (hoa : CmdOK a) (ha : lightC a = true) (hv : rvalid a = true) :
    Fn Tryd.prog 4 #[(.agg #[(.int .i64 a.op), (.string (strB a.key)), (.slice K a.keys.length ck), (.slice V a.value.length cv), (.slice T a.tags.length ct), (.int .u64 (↑a.life : Int)), (.int .u64 (↑a.ver : Int)), (.string (strB a.tag)), (.string (strB a.pre)), (.string (strB a.child))])] w (fun v w' => v = .bool true ∧ Ext w w')  := by
  replace hK := hK.top
  replace hV := hV.top
  replace hT := hT.top
  have hE := ext_refl w
  obtain ⟨hsa, hta, hka, hva⟩ := light_sz ha
  have hwr : wrC a = ((codeOf a, outC a), 0) := by rw [wrC_eq hoa.life hoa.ver, if_pos hv]
  obtain ⟨⟨hv1, hv2⟩, _⟩ := rvalid_iff.1 hv
  refine fn_enter (args := [(.agg #[(.int .i64 a.op), (.string (strB a.key)), (.slice K a.keys.length ck), (.slice V a.value.length cv), (.slice T a.tags.length ct), (.int .u64 (↑a.life : Int)), (.int .u64 (↑a.ver : Int)), (.string (strB a.tag)), (.string (strB a.pre)), (.string (strB a.child))])]) Tryd.func4 rfl rfl rfl ?_
  show WC _ _ _ _ [(0, (.agg #[(.int .i64 a.op), (.string (strB a.key)), (.slice K a.keys.length ck), (.slice V a.value.length cv), (.slice T a.tags.length ct), (.int .u64 (↑a.life : Int)), (.int .u64 (↑a.ver : Int)), (.string (strB a.tag)), (.string (strB a.pre)), (.string (strB a.child))]))] _
  refine wc_seq (wc_regionL ?_)
  refine wl_step (or_box (cs := [(.int .i64 a.op), (.string (strB a.key)), (.slice K a.keys.length ck), (.slice V a.value.length cv), (.slice T a.tags.length ct), (.int .u64 (↑a.life : Int)), (.int .u64 (↑a.ver : Int)), (.string (strB a.tag)), (.string (strB a.pre)), (.string (strB a.child))]) rfl rfl) rfl rfl rfl ?_
  rintro v w1 ⟨g1, rfl, hb_g1, he1, hl1, hu1⟩
  replace hK := hK.ext he1
  replace hV := hV.ext he1
  replace hT := hT.ext he1
  replace hE := hE.tr he1
  have hz_he1 := he1.size
  refine va rfl rfl ?_
  refine q_nil (k_then (wc_seq (wc_seq (wc_regionL ?_))))
  refine wl_val (ov_loadBlk (cs := [(.int .i64 a.op), (.string (strB a.key)), (.slice K a.keys.length ck), (.slice V a.value.length cv), (.slice T a.tags.length ct), (.int .u64 (↑a.life : Int)), (.int .u64 (↑a.ver : Int)), (.string (strB a.tag)), (.string (strB a.pre)), (.string (strB a.child))]) ag36_10 rfl hb_g1) rfl rfl rfl ?_
  refine wl_step (or_call0 cl13 rfl rfl (light_any _ a _ _ K ck V cv T ct hK hV hT hoa)) rfl rfl rfl ?_
  rintro v w2 ⟨rfl, he7⟩
  replace hK := hK.ext he7
  replace hV := hV.ext he7
  replace hT := hT.ext he7
  replace hE := hE.tr he7
  replace hb_g1 := hb_g1.ext he7
  have hz_he7 := he7.size
  refine wl_spell (d := 7) rfl (v' := (.bool true)) (by rw [ha]) ?_
  refine wl_val (ov_not (b := true) rfl) rfl rfl rfl ?_
  refine q_nil (k_then ?_)
  refine wc_cond_f rfl ?_
  refine q_skip (k_then (wc_seq (wc_seq (wc_regionL ?_))))
  refine wl_val (ov_loadBlk (cs := [(.int .i64 a.op), (.string (strB a.key)), (.slice K a.keys.length ck), (.slice V a.value.length cv), (.slice T a.tags.length ct), (.int .u64 (↑a.life : Int)), (.int .u64 (↑a.ver : Int)), (.string (strB a.tag)), (.string (strB a.pre)), (.string (strB a.child))]) ag36_10 rfl hb_g1) rfl rfl rfl ?_
  refine wl_step (or_call0 cl14 rfl rfl (rvalid_any _ a _ _ K ck V cv T ct hK hV hT)) rfl rfl rfl ?_
  rintro v w3 ⟨rfl, he11⟩
  replace hK := hK.ext he11
  replace hV := hV.ext he11
  replace hT := hT.ext he11
  replace hE := hE.tr he11
  replace hb_g1 := hb_g1.ext he11
  have hz_he11 := he11.size
  refine wl_spell (d := 11) rfl (v' := (.bool true)) (by rw [hv]) ?_
  refine wl_val (ov_not (b := true) rfl) rfl rfl rfl ?_
  refine q_nil (k_then ?_)
  refine wc_cond_f rfl ?_
  refine q_skip (k_then (wc_seq (wc_regionL ?_)))
  refine wl_val (ov_loadBlk (cs := [(.int .i64 a.op), (.string (strB a.key)), (.slice K a.keys.length ck), (.slice V a.value.length cv), (.slice T a.tags.length ct), (.int .u64 (↑a.life : Int)), (.int .u64 (↑a.ver : Int)), (.string (strB a.tag)), (.string (strB a.pre)), (.string (strB a.child))]) ag36_10 rfl hb_g1) rfl rfl rfl ?_
  refine wl_step (or_call0 cl16 rfl rfl (copies_any _ a _ _ K ck V cv T ct hK hV hT (by omega) (by omega) (by omega))) rfl rfl rfl ?_
  rintro v w4 ⟨K20, ck20, V20, cv20, T20, ct20, rfl, hoK20, hoV20, hoT20, hsep20, he20⟩
  replace hK := hK.ext he20
  replace hV := hV.ext he20
  replace hT := hT.ext he20
  replace hE := hE.tr he20
  replace hb_g1 := hb_g1.ext he20
  have hz_he20 := he20.size
  have hq_hoK20 := fun g e => Own.lt hoK20 (g := g) e
  have hq_hoV20 := fun g e => Own.lt hoV20 (g := g) e
  have hq_hoT20 := fun g e => Own.lt hoT20 (g := g) e
  obtain ⟨hi20, hhi20⟩ : ∃ n, n = w4.heap.size := ⟨_, rfl⟩
  refine wl_step (or_alloc (cs := [(.int .i64 0), (.string (strB [])), (.slice none 0 0), (.slice none 0 0), (.slice none 0 0), (.int .u64 0), (.int .u64 0), (.string (strB [])), (.string (strB [])), (.string (strB []))]) ze36 rfl) rfl rfl rfl ?_
  rintro v w5 ⟨g3, rfl, hb_g3, he3, hl3, hu3⟩
  replace hK := hK.ext he3
  replace hV := hV.ext he3
  replace hT := hT.ext he3
  replace hE := hE.tr he3
  replace hb_g1 := hb_g1.ext he3
  replace hoK20 := Own.ext hoK20 he3
  replace hoV20 := Own.ext hoV20 he3
  replace hoT20 := Own.ext hoT20 he3
  have hz_he3 := he3.size
  refine wl_step0 (or_storeBlk (vs := [(.int .i64 a.op), (.string (strB a.key)), (.slice K20 a.keys.length ck20), (.slice V20 a.value.length cv20), (.slice T20 a.tags.length ct20), (.int .u64 (↑a.life : Int)), (.int .u64 (↑a.ver : Int)), (.string (strB a.tag)), (.string (strB a.pre)), (.string (strB a.child))]) sz36 rfl rfl (by simp [Value.oneCell']) hb_g3 rfl) rfl rfl ?_
  rintro _ w6 ⟨hN6, hg6⟩
  have hz_hg6 := hg6.size
  replace hK := hK.gr hg6 (fun _ e => by cases e; omega)
  replace hV := hV.gr hg6 (fun _ e => by cases e; omega)
  replace hT := hT.gr hg6 (fun _ e => by cases e; omega)
  replace hE := hE.gr hg6 (fun _ e => by cases e; omega)
  replace hb_g1 := hb_g1.gr hg6 (by intro e; cases e; omega)
  replace hoK20 := Own.gr hoK20 hg6 (by first | exact .inl rfl | (right; intro e; first | (have := hq_hoK20 _ e; omega) | (have := Own.lt hoK20 e; omega) | exact own_blk_ne hoK20 hb_g3 (by decide) e))
  replace hoV20 := Own.gr hoV20 hg6 (by first | exact .inl rfl | (right; intro e; first | (have := hq_hoV20 _ e; omega) | (have := Own.lt hoV20 e; omega) | exact own_blk_ne hoV20 hb_g3 (by decide) e))
  replace hoT20 := Own.gr hoT20 hg6 (by first | exact .inl rfl | (right; intro e; first | (have := hq_hoT20 _ e; omega) | (have := Own.lt hoT20 e; omega) | exact own_blk_ne hoT20 hb_g3 (by decide) e))
  replace hb_g3 := hN6
  refine q_nil (k_then (wc_seq (wc_regionL ?_)))
  refine wl_val (ov_loadBlk (cs := [(.int .i64 a.op), (.string (strB a.key)), (.slice K20 a.keys.length ck20), (.slice V20 a.value.length cv20), (.slice T20 a.tags.length ct20), (.int .u64 (↑a.life : Int)), (.int .u64 (↑a.ver : Int)), (.string (strB a.tag)), (.string (strB a.pre)), (.string (strB a.child))]) ag36_10 rfl hb_g3) rfl rfl rfl ?_
  refine wl_step (or_call0 cl17 rfl rfl (wwrite_any _ a 0 _ K20 ck20 V20 cv20 T20 ct20 ((Rd.top (Own.rd hoK20)).mono (Nat.zero_le _) (Nat.le_refl _)) ((Rd.top (OwnB.rd hoV20)).mono (Nat.zero_le _) (Nat.le_refl _)) ((Rd.top (Own.rd hoT20)).mono (Nat.zero_le _) (Nat.le_refl _)) hoa.life hoa.ver hsa)) rfl rfl rfl ?_
  rintro v w7 ⟨A23, c23, rfl, ho23, he23⟩
  replace hK := hK.ext he23
  replace hV := hV.ext he23
  replace hT := hT.ext he23
  replace hE := hE.tr he23
  replace hb_g1 := hb_g1.ext he23
  replace hoK20 := Own.ext hoK20 he23
  replace hoV20 := Own.ext hoV20 he23
  replace hoT20 := Own.ext hoT20 he23
  replace hb_g3 := hb_g3.ext he23
  have hz_he23 := he23.size
  have hq_ho23 := fun g e => Own.lt ho23 (g := g) e
  refine vm rfl rfl ?_
  iterate 2 refine vx rfl rfl rfl ?_
  refine wl_step (or_alloc (cs := [(.int .u8 0), (.slice none 0 0)]) ze40 rfl) rfl rfl rfl ?_
  rintro v w8 ⟨g4, rfl, hb_g4, he4, hl4, hu4⟩
  replace hK := hK.ext he4
  replace hV := hV.ext he4
  replace hT := hT.ext he4
  replace hE := hE.tr he4
  replace hb_g1 := hb_g1.ext he4
  replace hoK20 := Own.ext hoK20 he4
  replace hoV20 := Own.ext hoV20 he4
  replace hoT20 := Own.ext hoT20 he4
  replace hb_g3 := hb_g3.ext he4
  replace ho23 := Own.ext ho23 he4
  have hz_he4 := he4.size
  refine wl_step0 (or_storeBlk (vs := [(.int .u8 (↑(wrC a).1.1.toNat : Int)), (.slice A23 (wrC a).1.2.length c23)]) sz40 rfl rfl (by simp [Value.oneCell']) hb_g4 rfl) rfl rfl ?_
  rintro _ w9 ⟨hN9, hg9⟩
  have hz_hg9 := hg9.size
  replace hK := hK.gr hg9 (fun _ e => by cases e; omega)
  replace hV := hV.gr hg9 (fun _ e => by cases e; omega)
  replace hT := hT.gr hg9 (fun _ e => by cases e; omega)
  replace hE := hE.gr hg9 (fun _ e => by cases e; omega)
  replace hb_g1 := hb_g1.gr hg9 (by intro e; cases e; omega)
  replace hoK20 := Own.gr hoK20 hg9 (by first | exact .inl rfl | (right; intro e; first | (have := hq_hoK20 _ e; omega) | (have := Own.lt hoK20 e; omega) | exact own_blk_ne hoK20 hb_g4 (by decide) e))
  replace hoV20 := Own.gr hoV20 hg9 (by first | exact .inl rfl | (right; intro e; first | (have := hq_hoV20 _ e; omega) | (have := Own.lt hoV20 e; omega) | exact own_blk_ne hoV20 hb_g4 (by decide) e))
  replace hoT20 := Own.gr hoT20 hg9 (by first | exact .inl rfl | (right; intro e; first | (have := hq_hoT20 _ e; omega) | (have := Own.lt hoT20 e; omega) | exact own_blk_ne hoT20 hb_g4 (by decide) e))
  replace hb_g3 := hb_g3.gr hg9 (by intro e; cases e; omega)
  replace ho23 := Own.gr ho23 hg9 (by first | exact .inl rfl | (right; intro e; first | (have := hq_ho23 _ e; omega) | (have := Own.lt ho23 e; omega) | exact own_blk_ne ho23 hb_g4 (by decide) e))
  replace hb_g4 := hN9
  refine va rfl rfl ?_
  refine q_nil (k_then (wc_seq (wc_seq (wc_regionL ?_))))
  refine wl_val (ov_loadBlk (cs := [(.int .i64 a.op), (.string (strB a.key)), (.slice K20 a.keys.length ck20), (.slice V20 a.value.length cv20), (.slice T20 a.tags.length ct20), (.int .u64 (↑a.life : Int)), (.int .u64 (↑a.ver : Int)), (.string (strB a.tag)), (.string (strB a.pre)), (.string (strB a.child))]) ag36_10 rfl hb_g3) rfl rfl rfl ?_
  refine wl_val (ov_loadBlk (cs := [(.int .i64 a.op), (.string (strB a.key)), (.slice K a.keys.length ck), (.slice V a.value.length cv), (.slice T a.tags.length ct), (.int .u64 (↑a.life : Int)), (.int .u64 (↑a.ver : Int)), (.string (strB a.tag)), (.string (strB a.pre)), (.string (strB a.child))]) ag36_10 rfl hb_g1) rfl rfl rfl ?_
  refine wl_step (or_call0 cl18 rfl rfl (requal_any _ a 0 _ K20 ck20 V20 cv20 T20 ct20 ((Rd.top (Own.rd hoK20)).mono (Nat.zero_le _) (Nat.le_refl _)) ((Rd.top (OwnB.rd hoV20)).mono (Nat.zero_le _) (Nat.le_refl _)) ((Rd.top (Own.rd hoT20)).mono (Nat.zero_le _) (Nat.le_refl _)) a _ _ K ck V cv T ct hK hV hT)) rfl rfl rfl ?_
  rintro v w10 ⟨rfl, he28⟩
  replace hK := hK.ext he28
  replace hV := hV.ext he28
  replace hT := hT.ext he28
  replace hE := hE.tr he28
  replace hb_g1 := hb_g1.ext he28
  replace hoK20 := Own.ext hoK20 he28
  replace hoV20 := Own.ext hoV20 he28
  replace hoT20 := Own.ext hoT20 he28
  replace hb_g3 := hb_g3.ext he28
  replace ho23 := Own.ext ho23 he28
  replace hb_g4 := hb_g4.ext he28
  have hz_he28 := he28.size
  refine wl_spell (d := 28) rfl (bt (rfl)) ?_
  refine wl_val (ov_not (b := true) rfl) rfl rfl rfl ?_
  refine q_nil (k_then ?_)
  refine wc_cond_f rfl ?_
  refine q_skip (k_then (wc_seq (wc_regionL ?_)))
  refine wl_val (ov_loadBlk (cs := [(.int .i64 a.op), (.string (strB a.key)), (.slice K20 a.keys.length ck20), (.slice V20 a.value.length cv20), (.slice T20 a.tags.length ct20), (.int .u64 (↑a.life : Int)), (.int .u64 (↑a.ver : Int)), (.string (strB a.tag)), (.string (strB a.pre)), (.string (strB a.child))]) ag36_10 rfl hb_g3) rfl rfl rfl ?_
  refine wl_step (or_call0 cl19 rfl rfl (spoil_any _ a _ hi20 K20 ck20 V20 cv20 T20 ct20 hoK20 hoV20 hoT20 hsep20 (fun g e => by have := hq_hoK20 g e; omega) (fun g e => by have := hq_hoV20 g e; omega) (fun g e => by have := hq_hoT20 g e; omega) (by omega) hka hta hva)) rfl rfl rfl ?_
  rintro v w11 ⟨rfl, hRg⟩
  replace hK := hRg.rd hK (by omega)
  replace hV := hRg.rd hV (by omega)
  replace hT := hRg.rd hT (by omega)
  replace hE := hRg.e0 hE (by omega)
  replace hb_g1 := hRg.bk hb_g1 (by omega)
  replace hb_g3 := hRg.bk hb_g3 (by omega)
  have hr23 := hRg.rd (OwnB.rd ho23) (by omega)
  replace hb_g4 := hRg.bk hb_g4 (by omega)
  have hz_Rg := hRg.size
  refine q_nil (k_then (wc_seq ?_))
  refine wc_draw mixed 3 [(32, eqv (.agg #[(.int .u8 (↑(wrC a).1.1.toNat : Int)), (.slice A23 (wrC a).1.2.length c23)])), (33, eqv (.agg #[(.int .i64 a.op), (.string (strB a.key)), (.slice K a.keys.length ck), (.slice V a.value.length cv), (.slice T a.tags.length ct), (.int .u64 (↑a.life : Int)), (.int .u64 (↑a.ver : Int)), (.string (strB a.tag)), (.string (strB a.pre)), (.string (strB a.child))])), (34, (fun v w => ∃ A34 c34, v = (.agg #[(.int .u8 (↑(codeOf a).toNat : Int)), (.slice A34 (outC a).length c34)]) ∧ OwnB w w11.heap.size 5 A34 c34 (outC a)))] [[], [], [1]] _ [] [] (fun _ _ h => h) trivial (by kernel_rfl) rfl ⟨⟨stb_eqv _, fun _ he => by cases he⟩, ⟨stb_eqv _, fun _ he => by cases he⟩, ⟨(fun v w w' ⟨A, c, hv, ho⟩ he => ⟨A, c, hv, Own.ext ho he⟩), fun _ he => by cases he⟩, trivial⟩ ⟨?_, ?_, ?_, trivial⟩ ?_
  · intro wd hxE
    replace hK := hK.ext hxE
    replace hV := hV.ext hxE
    replace hT := hT.ext hxE
    replace hE := hE.tr hxE
    replace hb_g1 := hb_g1.ext hxE
    replace hb_g3 := hb_g3.ext hxE
    replace hb_g4 := hb_g4.ext hxE
    replace hr23 := hr23.ext hxE
    have hz_hxE := hxE.size
    show OpG _ _ _ _ _ _
    exact og_plain rfl (ox_val (ov_loadBlk (cs := [(.int .u8 (↑(wrC a).1.1.toNat : Int)), (.slice A23 (wrC a).1.2.length c23)]) ag40_2 rfl hb_g4))
  · intro wd hxE
    replace hK := hK.ext hxE
    replace hV := hV.ext hxE
    replace hT := hT.ext hxE
    replace hE := hE.tr hxE
    replace hb_g1 := hb_g1.ext hxE
    replace hb_g3 := hb_g3.ext hxE
    replace hb_g4 := hb_g4.ext hxE
    replace hr23 := hr23.ext hxE
    have hz_hxE := hxE.size
    show OpG _ _ _ _ _ _
    exact og_plain rfl (ox_val (ov_loadBlk (cs := [(.int .i64 a.op), (.string (strB a.key)), (.slice K a.keys.length ck), (.slice V a.value.length cv), (.slice T a.tags.length ct), (.int .u64 (↑a.life : Int)), (.int .u64 (↑a.ver : Int)), (.string (strB a.tag)), (.string (strB a.pre)), (.string (strB a.child))]) ag36_10 rfl hb_g1))
  · intro wd hxE
    replace hK := hK.ext hxE
    replace hV := hV.ext hxE
    replace hT := hT.ext hxE
    replace hE := hE.tr hxE
    replace hb_g1 := hb_g1.ext hxE
    replace hb_g3 := hb_g3.ext hxE
    replace hb_g4 := hb_g4.ext hxE
    replace hr23 := hr23.ext hxE
    have hz_hxE := hxE.size
    rintro _ rfl
    show OpG _ _ _ _ _ _
    refine og_plain rfl (OpRun.mono (or_call0 cl21 rfl rfl (rwrite07_any _ a _ _ K ck V cv T ct hK hV hT hoa.life hoa.ver hsa hv1 hv2)) ?_)
    rintro v w12 ⟨A34, c34, rfl, ho34, he34⟩
    replace hK := hK.ext he34
    replace hV := hV.ext he34
    replace hT := hT.ext he34
    replace hE := hE.tr he34
    replace hb_g1 := hb_g1.ext he34
    replace hb_g3 := hb_g3.ext he34
    replace hb_g4 := hb_g4.ext he34
    replace hr23 := hr23.ext he34
    have hz_he34 := he34.size
    have hq_ho34 := fun g e => Own.lt ho34 (g := g) e
    exact ⟨⟨A34, c34, rfl, Own.mono ho34 (by omega)⟩, he34⟩
  · intro wf10 hf10
    replace hK := hK.ext hf10
    replace hV := hV.ext hf10
    replace hT := hT.ext hf10
    replace hE := hE.tr hf10
    replace hb_g1 := hb_g1.ext hf10
    replace hb_g3 := hb_g3.ext hf10
    replace hb_g4 := hb_g4.ext hf10
    replace hr23 := hr23.ext hf10
    have hz_hf10 := hf10.size
    rintro _ rfl
    rintro _ rfl
    rintro _ ⟨A34, c34, rfl, ho34⟩
    have hq_ho34 := fun g e => Own.lt ho34 (g := g) e
    show WL _ _ _ [_, _, _, _, _, _, _, _, _] _ _ _
    refine wl_step (or_call0 cl20 rfl rfl (rfequal_any _ _ _ _ _ ((wrC a).1.1) _ _ (wrC a).1.2 ((codeOf a)) _ _ (outC a) hr23 (OwnB.rd ho34))) rfl rfl rfl ?_
    rintro v w12 ⟨rfl, he35⟩
    replace hK := hK.ext he35
    replace hV := hV.ext he35
    replace hT := hT.ext he35
    replace hE := hE.tr he35
    replace hb_g1 := hb_g1.ext he35
    replace hb_g3 := hb_g3.ext he35
    replace hb_g4 := hb_g4.ext he35
    replace hr23 := hr23.ext he35
    replace ho34 := Own.ext ho34 he35
    have hz_he35 := he35.size
    refine wl_spell (d := 35) rfl (bt (by rw [hwr])) ?_
    refine vm rfl rfl ?_
    refine wl_gval (ov_move rfl) rfl rfl rfl rfl rfl ?_
    refine wl_gval (ov_eql rfl rfl) rfl rfl rfl rfl rfl ?_
    refine wl_spell (d := 38) rfl (bt (by rw [hwr]; rfl)) ?_
    refine wl_val (ov_pick_t rfl rfl) rfl rfl rfl ?_
    refine vm rfl rfl ?_
    refine wl_gstep (or_call0 cl9 rfl rfl (known07_any _ (hW.ext hE))) rfl rfl rfl rfl rfl ?_
    rintro v w13 ⟨rfl, he41⟩
    replace hK := hK.ext he41
    replace hV := hV.ext he41
    replace hT := hT.ext he41
    replace hE := hE.tr he41
    replace hb_g1 := hb_g1.ext he41
    replace hb_g3 := hb_g3.ext he41
    replace hb_g4 := hb_g4.ext he41
    replace hr23 := hr23.ext he41
    replace ho34 := Own.ext ho34 he41
    have hz_he41 := he41.size
    refine wl_val (ov_pick_t rfl rfl) rfl rfl rfl ?_
    refine va rfl rfl ?_
    refine q_nil (k_then (q_ret ?_))
    refine e_ret rfl rfl ?_
    exact ⟨rfl, hE⟩

theorem requestWrites_walk (w : World) (hW : WordsAt w) (a : Cmd) (lo hi : Nat) (K : Option Addr) (ck : Nat) (V : Option Addr) (cv : Nat) (T : Option Addr) (ct : Nat) (hK : RdS w lo hi K ck a.keys) (hV : RdB w lo hi V cv a.value) (hT : RdS w lo hi T ct a.tags) (hoa : CmdOK a) :
    Fn Tryd.prog 4 #[.agg (cmdc a K ck V cv T ct).toArray] w (fun v w' => v = .bool true ∧ Ext w w') := by
  cases ha : lightC a
  · exact requestWrites_a w hW a lo hi K ck V cv T ct hK hV hT hoa ha
  · cases hv : rvalid a
    · exact requestWrites_b w hW a lo hi K ck V cv T ct hK hV hT hoa ha hv
    · exact requestWrites_c w hW a lo hi K ck V cv T ct hK hV hT hoa ha hv

end Go.Proofs.YtohnkjjjejnkpaaDoor
