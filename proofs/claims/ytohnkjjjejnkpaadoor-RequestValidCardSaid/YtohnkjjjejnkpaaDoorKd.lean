/-
  The walk of RequestValid.
-/
import Derived.Test.YtohnkjjjejnkpaaDoorKc
namespace Go.Proofs.YtohnkjjjejnkpaaDoor
open Go.RowKit
set_option linter.unusedVariables false
set_option maxRecDepth 4000
theorem cl13 : callable Tryd.prog 13 = true := by kernel_rfl
theorem cl16 : callable Tryd.prog 16 = true := by kernel_rfl
theorem cl25 : callable Tryd.prog 25 = true := by kernel_rfl
theorem cl9 : callable Tryd.prog 9 = true := by kernel_rfl

theorem requestValid_a (w : World) (hW : WordsAt w) (a : Cmd) (lo hi : Nat) (K : Option Addr) (ck : Nat) (V : Option Addr) (cv : Nat) (T : Option Addr) (ct : Nat) (hK : RdS w lo hi K ck a.keys) (hV : RdB w lo hi V cv a.value) (hT : RdS w lo hi T ct a.tags) (b : Cmd) (lo2 hi2 : Nat) (K2 : Option Addr) (ck2 : Nat) (V2 : Option Addr) (cv2 : Nat) (T2 : Option Addr) (ct2 : Nat) (hK2 : RdS w lo2 hi2 K2 ck2 b.keys) (hV2 : RdB w lo2 hi2 V2 cv2 b.value) (hT2 : RdS w lo2 hi2 T2 ct2 b.tags) (hoa : CmdOK a) (hob : CmdOK b) (ha : lightC a = false) :
    Fn Tryd.prog 6 #[(.agg #[(.int .i64 a.op), (.string (strB a.key)), (.slice K a.keys.length ck), (.slice V a.value.length cv), (.slice T a.tags.length ct), (.int .u64 (↑a.life : Int)), (.int .u64 (↑a.ver : Int)), (.string (strB a.tag)), (.string (strB a.pre)), (.string (strB a.child))]), (.agg #[(.int .i64 b.op), (.string (strB b.key)), (.slice K2 b.keys.length ck2), (.slice V2 b.value.length cv2), (.slice T2 b.tags.length ct2), (.int .u64 (↑b.life : Int)), (.int .u64 (↑b.ver : Int)), (.string (strB b.tag)), (.string (strB b.pre)), (.string (strB b.child))])] w (fun v w' => v = .bool true ∧ Ext w w')  := by
  replace hK := hK.top
  replace hV := hV.top
  replace hT := hT.top
  replace hK2 := hK2.top
  replace hV2 := hV2.top
  replace hT2 := hT2.top
  have hE := ext_refl w
  refine fn_enter (args := [(.agg #[(.int .i64 a.op), (.string (strB a.key)), (.slice K a.keys.length ck), (.slice V a.value.length cv), (.slice T a.tags.length ct), (.int .u64 (↑a.life : Int)), (.int .u64 (↑a.ver : Int)), (.string (strB a.tag)), (.string (strB a.pre)), (.string (strB a.child))]), (.agg #[(.int .i64 b.op), (.string (strB b.key)), (.slice K2 b.keys.length ck2), (.slice V2 b.value.length cv2), (.slice T2 b.tags.length ct2), (.int .u64 (↑b.life : Int)), (.int .u64 (↑b.ver : Int)), (.string (strB b.tag)), (.string (strB b.pre)), (.string (strB b.child))])]) Tryd.func6 rfl rfl rfl ?_
  show WC _ _ _ _ [(0, (.agg #[(.int .i64 a.op), (.string (strB a.key)), (.slice K a.keys.length ck), (.slice V a.value.length cv), (.slice T a.tags.length ct), (.int .u64 (↑a.life : Int)), (.int .u64 (↑a.ver : Int)), (.string (strB a.tag)), (.string (strB a.pre)), (.string (strB a.child))])), (1, (.agg #[(.int .i64 b.op), (.string (strB b.key)), (.slice K2 b.keys.length ck2), (.slice V2 b.value.length cv2), (.slice T2 b.tags.length ct2), (.int .u64 (↑b.life : Int)), (.int .u64 (↑b.ver : Int)), (.string (strB b.tag)), (.string (strB b.pre)), (.string (strB b.child))]))] _
  refine wc_seq (wc_regionL ?_)
  refine wl_step (or_box (cs := [(.int .i64 a.op), (.string (strB a.key)), (.slice K a.keys.length ck), (.slice V a.value.length cv), (.slice T a.tags.length ct), (.int .u64 (↑a.life : Int)), (.int .u64 (↑a.ver : Int)), (.string (strB a.tag)), (.string (strB a.pre)), (.string (strB a.child))]) rfl rfl) rfl rfl rfl ?_
  rintro v w1 ⟨g2, rfl, hb_g2, he2, hl2, hu2⟩
  replace hK := hK.ext he2
  replace hV := hV.ext he2
  replace hT := hT.ext he2
  replace hK2 := hK2.ext he2
  replace hV2 := hV2.ext he2
  replace hT2 := hT2.ext he2
  replace hE := hE.tr he2
  have hz_he2 := he2.size
  refine wl_step (or_box (cs := [(.int .i64 b.op), (.string (strB b.key)), (.slice K2 b.keys.length ck2), (.slice V2 b.value.length cv2), (.slice T2 b.tags.length ct2), (.int .u64 (↑b.life : Int)), (.int .u64 (↑b.ver : Int)), (.string (strB b.tag)), (.string (strB b.pre)), (.string (strB b.child))]) rfl rfl) rfl rfl rfl ?_
  rintro v w2 ⟨g3, rfl, hb_g3, he3, hl3, hu3⟩
  replace hK := hK.ext he3
  replace hV := hV.ext he3
  replace hT := hT.ext he3
  replace hK2 := hK2.ext he3
  replace hV2 := hV2.ext he3
  replace hT2 := hT2.ext he3
  replace hE := hE.tr he3
  replace hb_g2 := hb_g2.ext he3
  have hz_he3 := he3.size
  refine va rfl rfl ?_
  refine q_nil (k_then (wc_seq (wc_seq (wc_regionL ?_))))
  refine wl_val (ov_loadBlk (cs := [(.int .i64 a.op), (.string (strB a.key)), (.slice K a.keys.length ck), (.slice V a.value.length cv), (.slice T a.tags.length ct), (.int .u64 (↑a.life : Int)), (.int .u64 (↑a.ver : Int)), (.string (strB a.tag)), (.string (strB a.pre)), (.string (strB a.child))]) ag36_10 rfl hb_g2) rfl rfl rfl ?_
  refine wl_step (or_call0 cl13 rfl rfl (light_any _ a _ _ K ck V cv T ct hK hV hT hoa)) rfl rfl rfl ?_
  rintro v w3 ⟨rfl, he6⟩
  replace hK := hK.ext he6
  replace hV := hV.ext he6
  replace hT := hT.ext he6
  replace hK2 := hK2.ext he6
  replace hV2 := hV2.ext he6
  replace hT2 := hT2.ext he6
  replace hE := hE.tr he6
  replace hb_g2 := hb_g2.ext he6
  replace hb_g3 := hb_g3.ext he6
  have hz_he6 := he6.size
  refine wl_spell (d := 6) rfl (v' := (.bool false)) (by rw [ha]) ?_
  refine wl_val (ov_not (b := false) rfl) rfl rfl rfl ?_
  refine vm rfl rfl ?_
  iterate 3 refine wl_gskip rfl rfl rfl rfl rfl rfl ?_
  refine wl_val (ov_pick_t rfl rfl) rfl rfl rfl ?_
  refine q_nil (k_then ?_)
  refine wc_cond_t rfl ?_
  refine wc_seq (wc_regionL ?_)
  refine wl_step (or_call0 cl9 rfl rfl (known07_any _ (hW.ext hE))) rfl rfl rfl ?_
  rintro v w4 ⟨rfl, he13⟩
  replace hK := hK.ext he13
  replace hV := hV.ext he13
  replace hT := hT.ext he13
  replace hK2 := hK2.ext he13
  replace hV2 := hV2.ext he13
  replace hT2 := hT2.ext he13
  replace hE := hE.tr he13
  replace hb_g2 := hb_g2.ext he13
  replace hb_g3 := hb_g3.ext he13
  have hz_he13 := he13.size
  refine va rfl rfl ?_
  refine q_nil (k_then (q_ret (k_thenR ?_)))
  refine e_ret rfl rfl ?_
  exact ⟨rfl, hE⟩

theorem requestValid_b (w : World) (hW : WordsAt w) (a : Cmd) (lo hi : Nat) (K : Option Addr) (ck : Nat) (V : Option Addr) (cv : Nat) (T : Option Addr) (ct : Nat) (hK : RdS w lo hi K ck a.keys) (hV : RdB w lo hi V cv a.value) (hT : RdS w lo hi T ct a.tags) (b : Cmd) (lo2 hi2 : Nat) (K2 : Option Addr) (ck2 : Nat) (V2 : Option Addr) (cv2 : Nat) (T2 : Option Addr) (ct2 : Nat) (hK2 : RdS w lo2 hi2 K2 ck2 b.keys) (hV2 : RdB w lo2 hi2 V2 cv2 b.value) (hT2 : RdS w lo2 hi2 T2 ct2 b.tags) (hoa : CmdOK a) (hob : CmdOK b) (ha : lightC a = true) (hb : lightC b = false) :
    Fn Tryd.prog 6 #[(.agg #[(.int .i64 a.op), (.string (strB a.key)), (.slice K a.keys.length ck), (.slice V a.value.length cv), (.slice T a.tags.length ct), (.int .u64 (↑a.life : Int)), (.int .u64 (↑a.ver : Int)), (.string (strB a.tag)), (.string (strB a.pre)), (.string (strB a.child))]), (.agg #[(.int .i64 b.op), (.string (strB b.key)), (.slice K2 b.keys.length ck2), (.slice V2 b.value.length cv2), (.slice T2 b.tags.length ct2), (.int .u64 (↑b.life : Int)), (.int .u64 (↑b.ver : Int)), (.string (strB b.tag)), (.string (strB b.pre)), (.string (strB b.child))])] w (fun v w' => v = .bool true ∧ Ext w w')  := by
  replace hK := hK.top
  replace hV := hV.top
  replace hT := hT.top
  replace hK2 := hK2.top
  replace hV2 := hV2.top
  replace hT2 := hT2.top
  have hE := ext_refl w
  refine fn_enter (args := [(.agg #[(.int .i64 a.op), (.string (strB a.key)), (.slice K a.keys.length ck), (.slice V a.value.length cv), (.slice T a.tags.length ct), (.int .u64 (↑a.life : Int)), (.int .u64 (↑a.ver : Int)), (.string (strB a.tag)), (.string (strB a.pre)), (.string (strB a.child))]), (.agg #[(.int .i64 b.op), (.string (strB b.key)), (.slice K2 b.keys.length ck2), (.slice V2 b.value.length cv2), (.slice T2 b.tags.length ct2), (.int .u64 (↑b.life : Int)), (.int .u64 (↑b.ver : Int)), (.string (strB b.tag)), (.string (strB b.pre)), (.string (strB b.child))])]) Tryd.func6 rfl rfl rfl ?_
  show WC _ _ _ _ [(0, (.agg #[(.int .i64 a.op), (.string (strB a.key)), (.slice K a.keys.length ck), (.slice V a.value.length cv), (.slice T a.tags.length ct), (.int .u64 (↑a.life : Int)), (.int .u64 (↑a.ver : Int)), (.string (strB a.tag)), (.string (strB a.pre)), (.string (strB a.child))])), (1, (.agg #[(.int .i64 b.op), (.string (strB b.key)), (.slice K2 b.keys.length ck2), (.slice V2 b.value.length cv2), (.slice T2 b.tags.length ct2), (.int .u64 (↑b.life : Int)), (.int .u64 (↑b.ver : Int)), (.string (strB b.tag)), (.string (strB b.pre)), (.string (strB b.child))]))] _
  refine wc_seq (wc_regionL ?_)
  refine wl_step (or_box (cs := [(.int .i64 a.op), (.string (strB a.key)), (.slice K a.keys.length ck), (.slice V a.value.length cv), (.slice T a.tags.length ct), (.int .u64 (↑a.life : Int)), (.int .u64 (↑a.ver : Int)), (.string (strB a.tag)), (.string (strB a.pre)), (.string (strB a.child))]) rfl rfl) rfl rfl rfl ?_
  rintro v w1 ⟨g2, rfl, hb_g2, he2, hl2, hu2⟩
  replace hK := hK.ext he2
  replace hV := hV.ext he2
  replace hT := hT.ext he2
  replace hK2 := hK2.ext he2
  replace hV2 := hV2.ext he2
  replace hT2 := hT2.ext he2
  replace hE := hE.tr he2
  have hz_he2 := he2.size
  refine wl_step (or_box (cs := [(.int .i64 b.op), (.string (strB b.key)), (.slice K2 b.keys.length ck2), (.slice V2 b.value.length cv2), (.slice T2 b.tags.length ct2), (.int .u64 (↑b.life : Int)), (.int .u64 (↑b.ver : Int)), (.string (strB b.tag)), (.string (strB b.pre)), (.string (strB b.child))]) rfl rfl) rfl rfl rfl ?_
  rintro v w2 ⟨g3, rfl, hb_g3, he3, hl3, hu3⟩
  replace hK := hK.ext he3
  replace hV := hV.ext he3
  replace hT := hT.ext he3
  replace hK2 := hK2.ext he3
  replace hV2 := hV2.ext he3
  replace hT2 := hT2.ext he3
  replace hE := hE.tr he3
  replace hb_g2 := hb_g2.ext he3
  have hz_he3 := he3.size
  refine va rfl rfl ?_
  refine q_nil (k_then (wc_seq (wc_seq (wc_regionL ?_))))
  refine wl_val (ov_loadBlk (cs := [(.int .i64 a.op), (.string (strB a.key)), (.slice K a.keys.length ck), (.slice V a.value.length cv), (.slice T a.tags.length ct), (.int .u64 (↑a.life : Int)), (.int .u64 (↑a.ver : Int)), (.string (strB a.tag)), (.string (strB a.pre)), (.string (strB a.child))]) ag36_10 rfl hb_g2) rfl rfl rfl ?_
  refine wl_step (or_call0 cl13 rfl rfl (light_any _ a _ _ K ck V cv T ct hK hV hT hoa)) rfl rfl rfl ?_
  rintro v w3 ⟨rfl, he6⟩
  replace hK := hK.ext he6
  replace hV := hV.ext he6
  replace hT := hT.ext he6
  replace hK2 := hK2.ext he6
  replace hV2 := hV2.ext he6
  replace hT2 := hT2.ext he6
  replace hE := hE.tr he6
  replace hb_g2 := hb_g2.ext he6
  replace hb_g3 := hb_g3.ext he6
  have hz_he6 := he6.size
  refine wl_spell (d := 6) rfl (v' := (.bool true)) (by rw [ha]) ?_
  refine wl_val (ov_not (b := true) rfl) rfl rfl rfl ?_
  refine vm rfl rfl ?_
  refine wl_gval (ov_loadBlk (cs := [(.int .i64 b.op), (.string (strB b.key)), (.slice K2 b.keys.length ck2), (.slice V2 b.value.length cv2), (.slice T2 b.tags.length ct2), (.int .u64 (↑b.life : Int)), (.int .u64 (↑b.ver : Int)), (.string (strB b.tag)), (.string (strB b.pre)), (.string (strB b.child))]) ag36_10 rfl hb_g3) rfl rfl rfl rfl rfl ?_
  refine wl_gstep (or_call0 cl13 rfl rfl (light_any _ b _ _ K2 ck2 V2 cv2 T2 ct2 hK2 hV2 hT2 hob)) rfl rfl rfl rfl rfl ?_
  rintro v w4 ⟨rfl, he10⟩
  replace hK := hK.ext he10
  replace hV := hV.ext he10
  replace hT := hT.ext he10
  replace hK2 := hK2.ext he10
  replace hV2 := hV2.ext he10
  replace hT2 := hT2.ext he10
  replace hE := hE.tr he10
  replace hb_g2 := hb_g2.ext he10
  replace hb_g3 := hb_g3.ext he10
  have hz_he10 := he10.size
  refine wl_spell (d := 10) rfl (v' := (.bool false)) (by rw [hb]) ?_
  refine wl_gval (ov_not (b := false) rfl) rfl rfl rfl rfl rfl ?_
  refine wl_val (ov_pick_f rfl rfl) rfl rfl rfl ?_
  refine q_nil (k_then ?_)
  refine wc_cond_t rfl ?_
  refine wc_seq (wc_regionL ?_)
  refine wl_step (or_call0 cl9 rfl rfl (known07_any _ (hW.ext hE))) rfl rfl rfl ?_
  rintro v w5 ⟨rfl, he13⟩
  replace hK := hK.ext he13
  replace hV := hV.ext he13
  replace hT := hT.ext he13
  replace hK2 := hK2.ext he13
  replace hV2 := hV2.ext he13
  replace hT2 := hT2.ext he13
  replace hE := hE.tr he13
  replace hb_g2 := hb_g2.ext he13
  replace hb_g3 := hb_g3.ext he13
  have hz_he13 := he13.size
  refine va rfl rfl ?_
  refine q_nil (k_then (q_ret (k_thenR ?_)))
  refine e_ret rfl rfl ?_
  exact ⟨rfl, hE⟩

theorem requestValid_c (w : World) (hW : WordsAt w) (a : Cmd) (lo hi : Nat) (K : Option Addr) (ck : Nat) (V : Option Addr) (cv : Nat) (T : Option Addr) (ct : Nat) (hK : RdS w lo hi K ck a.keys) (hV : RdB w lo hi V cv a.value) (hT : RdS w lo hi T ct a.tags) (b : Cmd) (lo2 hi2 : Nat) (K2 : Option Addr) (ck2 : Nat) (V2 : Option Addr) (cv2 : Nat) (T2 : Option Addr) (ct2 : Nat) (hK2 : RdS w lo2 hi2 K2 ck2 b.keys) (hV2 : RdB w lo2 hi2 V2 cv2 b.value) (hT2 : RdS w lo2 hi2 T2 ct2 b.tags) (hoa : CmdOK a) (hob : CmdOK b) (ha : lightC a = true) (hb : lightC b = true) :
    Fn Tryd.prog 6 #[(.agg #[(.int .i64 a.op), (.string (strB a.key)), (.slice K a.keys.length ck), (.slice V a.value.length cv), (.slice T a.tags.length ct), (.int .u64 (↑a.life : Int)), (.int .u64 (↑a.ver : Int)), (.string (strB a.tag)), (.string (strB a.pre)), (.string (strB a.child))]), (.agg #[(.int .i64 b.op), (.string (strB b.key)), (.slice K2 b.keys.length ck2), (.slice V2 b.value.length cv2), (.slice T2 b.tags.length ct2), (.int .u64 (↑b.life : Int)), (.int .u64 (↑b.ver : Int)), (.string (strB b.tag)), (.string (strB b.pre)), (.string (strB b.child))])] w (fun v w' => v = .bool true ∧ Ext w w')  := by
  replace hK := hK.top
  replace hV := hV.top
  replace hT := hT.top
  replace hK2 := hK2.top
  replace hV2 := hV2.top
  replace hT2 := hT2.top
  have hE := ext_refl w
  obtain ⟨hsa, hta, hka, hva⟩ := light_sz ha
  refine fn_enter (args := [(.agg #[(.int .i64 a.op), (.string (strB a.key)), (.slice K a.keys.length ck), (.slice V a.value.length cv), (.slice T a.tags.length ct), (.int .u64 (↑a.life : Int)), (.int .u64 (↑a.ver : Int)), (.string (strB a.tag)), (.string (strB a.pre)), (.string (strB a.child))]), (.agg #[(.int .i64 b.op), (.string (strB b.key)), (.slice K2 b.keys.length ck2), (.slice V2 b.value.length cv2), (.slice T2 b.tags.length ct2), (.int .u64 (↑b.life : Int)), (.int .u64 (↑b.ver : Int)), (.string (strB b.tag)), (.string (strB b.pre)), (.string (strB b.child))])]) Tryd.func6 rfl rfl rfl ?_
  show WC _ _ _ _ [(0, (.agg #[(.int .i64 a.op), (.string (strB a.key)), (.slice K a.keys.length ck), (.slice V a.value.length cv), (.slice T a.tags.length ct), (.int .u64 (↑a.life : Int)), (.int .u64 (↑a.ver : Int)), (.string (strB a.tag)), (.string (strB a.pre)), (.string (strB a.child))])), (1, (.agg #[(.int .i64 b.op), (.string (strB b.key)), (.slice K2 b.keys.length ck2), (.slice V2 b.value.length cv2), (.slice T2 b.tags.length ct2), (.int .u64 (↑b.life : Int)), (.int .u64 (↑b.ver : Int)), (.string (strB b.tag)), (.string (strB b.pre)), (.string (strB b.child))]))] _
  refine wc_seq (wc_regionL ?_)
  refine wl_step (or_box (cs := [(.int .i64 a.op), (.string (strB a.key)), (.slice K a.keys.length ck), (.slice V a.value.length cv), (.slice T a.tags.length ct), (.int .u64 (↑a.life : Int)), (.int .u64 (↑a.ver : Int)), (.string (strB a.tag)), (.string (strB a.pre)), (.string (strB a.child))]) rfl rfl) rfl rfl rfl ?_
  rintro v w1 ⟨g2, rfl, hb_g2, he2, hl2, hu2⟩
  replace hK := hK.ext he2
  replace hV := hV.ext he2
  replace hT := hT.ext he2
  replace hK2 := hK2.ext he2
  replace hV2 := hV2.ext he2
  replace hT2 := hT2.ext he2
  replace hE := hE.tr he2
  have hz_he2 := he2.size
  refine wl_step (or_box (cs := [(.int .i64 b.op), (.string (strB b.key)), (.slice K2 b.keys.length ck2), (.slice V2 b.value.length cv2), (.slice T2 b.tags.length ct2), (.int .u64 (↑b.life : Int)), (.int .u64 (↑b.ver : Int)), (.string (strB b.tag)), (.string (strB b.pre)), (.string (strB b.child))]) rfl rfl) rfl rfl rfl ?_
  rintro v w2 ⟨g3, rfl, hb_g3, he3, hl3, hu3⟩
  replace hK := hK.ext he3
  replace hV := hV.ext he3
  replace hT := hT.ext he3
  replace hK2 := hK2.ext he3
  replace hV2 := hV2.ext he3
  replace hT2 := hT2.ext he3
  replace hE := hE.tr he3
  replace hb_g2 := hb_g2.ext he3
  have hz_he3 := he3.size
  refine va rfl rfl ?_
  refine q_nil (k_then (wc_seq (wc_seq (wc_regionL ?_))))
  refine wl_val (ov_loadBlk (cs := [(.int .i64 a.op), (.string (strB a.key)), (.slice K a.keys.length ck), (.slice V a.value.length cv), (.slice T a.tags.length ct), (.int .u64 (↑a.life : Int)), (.int .u64 (↑a.ver : Int)), (.string (strB a.tag)), (.string (strB a.pre)), (.string (strB a.child))]) ag36_10 rfl hb_g2) rfl rfl rfl ?_
  refine wl_step (or_call0 cl13 rfl rfl (light_any _ a _ _ K ck V cv T ct hK hV hT hoa)) rfl rfl rfl ?_
  rintro v w3 ⟨rfl, he6⟩
  replace hK := hK.ext he6
  replace hV := hV.ext he6
  replace hT := hT.ext he6
  replace hK2 := hK2.ext he6
  replace hV2 := hV2.ext he6
  replace hT2 := hT2.ext he6
  replace hE := hE.tr he6
  replace hb_g2 := hb_g2.ext he6
  replace hb_g3 := hb_g3.ext he6
  have hz_he6 := he6.size
  refine wl_spell (d := 6) rfl (v' := (.bool true)) (by rw [ha]) ?_
  refine wl_val (ov_not (b := true) rfl) rfl rfl rfl ?_
  refine vm rfl rfl ?_
  refine wl_gval (ov_loadBlk (cs := [(.int .i64 b.op), (.string (strB b.key)), (.slice K2 b.keys.length ck2), (.slice V2 b.value.length cv2), (.slice T2 b.tags.length ct2), (.int .u64 (↑b.life : Int)), (.int .u64 (↑b.ver : Int)), (.string (strB b.tag)), (.string (strB b.pre)), (.string (strB b.child))]) ag36_10 rfl hb_g3) rfl rfl rfl rfl rfl ?_
  refine wl_gstep (or_call0 cl13 rfl rfl (light_any _ b _ _ K2 ck2 V2 cv2 T2 ct2 hK2 hV2 hT2 hob)) rfl rfl rfl rfl rfl ?_
  rintro v w4 ⟨rfl, he10⟩
  replace hK := hK.ext he10
  replace hV := hV.ext he10
  replace hT := hT.ext he10
  replace hK2 := hK2.ext he10
  replace hV2 := hV2.ext he10
  replace hT2 := hT2.ext he10
  replace hE := hE.tr he10
  replace hb_g2 := hb_g2.ext he10
  replace hb_g3 := hb_g3.ext he10
  have hz_he10 := he10.size
  refine wl_spell (d := 10) rfl (v' := (.bool true)) (by rw [hb]) ?_
  refine wl_gval (ov_not (b := true) rfl) rfl rfl rfl rfl rfl ?_
  refine wl_val (ov_pick_f rfl rfl) rfl rfl rfl ?_
  refine q_nil (k_then ?_)
  refine wc_cond_f rfl ?_
  refine q_skip (k_then (wc_seq ?_))
  refine wc_draw mixed 18 [(14, eqv (.agg #[(.int .i64 a.op), (.string (strB a.key)), (.slice K a.keys.length ck), (.slice V a.value.length cv), (.slice T a.tags.length ct), (.int .u64 (↑a.life : Int)), (.int .u64 (↑a.ver : Int)), (.string (strB a.tag)), (.string (strB a.pre)), (.string (strB a.child))])), (15, eqv (.bool (rvalid a))), (16, eqv (.agg #[(.int .i64 a.op), (.string (strB a.key)), (.slice K a.keys.length ck), (.slice V a.value.length cv), (.slice T a.tags.length ct), (.int .u64 (↑a.life : Int)), (.int .u64 (↑a.ver : Int)), (.string (strB a.tag)), (.string (strB a.pre)), (.string (strB a.child))])), (17, eqv (.bool (rvalid a))), (18, eqv (.bool true)), (19, eqv (.bool true)), (20, eqv (.agg #[(.int .i64 a.op), (.string (strB a.key)), (.slice K a.keys.length ck), (.slice V a.value.length cv), (.slice T a.tags.length ct), (.int .u64 (↑a.life : Int)), (.int .u64 (↑a.ver : Int)), (.string (strB a.tag)), (.string (strB a.pre)), (.string (strB a.child))])), (21, eqv (.agg #[(.int .i64 b.op), (.string (strB b.key)), (.slice K2 b.keys.length ck2), (.slice V2 b.value.length cv2), (.slice T2 b.tags.length ct2), (.int .u64 (↑b.life : Int)), (.int .u64 (↑b.ver : Int)), (.string (strB b.tag)), (.string (strB b.pre)), (.string (strB b.child))])), (22, eqv (.bool (decide (a = b)))), (23, eqv (.agg #[(.int .i64 a.op), (.string (strB a.key)), (.slice K a.keys.length ck), (.slice V a.value.length cv), (.slice T a.tags.length ct), (.int .u64 (↑a.life : Int)), (.int .u64 (↑a.ver : Int)), (.string (strB a.tag)), (.string (strB a.pre)), (.string (strB a.child))])), (24, eqv (.agg #[(.int .i64 b.op), (.string (strB b.key)), (.slice K2 b.keys.length ck2), (.slice V2 b.value.length cv2), (.slice T2 b.tags.length ct2), (.int .u64 (↑b.life : Int)), (.int .u64 (↑b.ver : Int)), (.string (strB b.tag)), (.string (strB b.pre)), (.string (strB b.child))])), (25, eqv (.bool (decide (a = b)))), (26, eqv (.bool true)), (27, eqv (.bool true)), (28, eqv (.bool true)), (29, eqv (.agg #[(.int .i64 a.op), (.string (strB a.key)), (.slice K a.keys.length ck), (.slice V a.value.length cv), (.slice T a.tags.length ct), (.int .u64 (↑a.life : Int)), (.int .u64 (↑a.ver : Int)), (.string (strB a.tag)), (.string (strB a.pre)), (.string (strB a.child))])), (30, eqv (.agg #[(.int .i64 a.op), (.string (strB a.key)), (.slice K a.keys.length ck), (.slice V a.value.length cv), (.slice T a.tags.length ct), (.int .u64 (↑a.life : Int)), (.int .u64 (↑a.ver : Int)), (.string (strB a.tag)), (.string (strB a.pre)), (.string (strB a.child))])), (31, (fun v wz => ∃ K1 k1 V1 v1 T1 t1, v = .agg (cmdc a K1 k1 V1 v1 T1 t1).toArray ∧ RdS wz 0 wz.heap.size K1 k1 a.keys ∧ RdB wz 0 wz.heap.size V1 v1 a.value ∧ RdS wz 0 wz.heap.size T1 t1 a.tags))] [[], [0], [], [2], [1, 3], [4], [5], [5], [5, 6, 7], [5], [5], [5, 9, 10], [5, 8, 11], [5, 12], [13], [14], [14], [14, 16]] _ [] [] (fun _ _ h => h) trivial (by kernel_rfl) rfl ⟨⟨stb_eqv _, fun _ he => by cases he⟩, ⟨stb_eqv _, fun _ he => by cases he⟩, ⟨stb_eqv _, fun _ he => by cases he⟩, ⟨stb_eqv _, fun _ he => by cases he⟩, ⟨stb_eqv _, fun _ he => by cases he⟩, ⟨stb_eqv _, fun _ he => by cases he⟩, ⟨stb_eqv _, fun _ he => by cases he⟩, ⟨stb_eqv _, fun _ he => by cases he⟩, ⟨stb_eqv _, fun _ he => by cases he⟩, ⟨stb_eqv _, fun _ he => by cases he⟩, ⟨stb_eqv _, fun _ he => by cases he⟩, ⟨stb_eqv _, fun _ he => by cases he⟩, ⟨stb_eqv _, fun _ he => by cases he⟩, ⟨stb_eqv _, fun _ he => by cases he⟩, ⟨stb_eqv _, fun _ he => by cases he⟩, ⟨stb_eqv _, fun _ he => by cases he⟩, ⟨stb_eqv _, fun _ he => by cases he⟩, ⟨(fun v w1 w2 ⟨K1, k1, V1, v1, T1, t1, hv, x, y, z⟩ he => ⟨K1, k1, V1, v1, T1, t1, hv, (x.ext he).mono (Nat.le_refl _) he.size, (y.ext he).mono (Nat.le_refl _) he.size, (z.ext he).mono (Nat.le_refl _) he.size⟩), fun _ he => by cases he⟩, trivial⟩ ⟨?_, ?_, ?_, ?_, ?_, ?_, ?_, ?_, ?_, ?_, ?_, ?_, ?_, ?_, ?_, ?_, ?_, ?_, trivial⟩ ?_
  · intro wd hxE
    replace hK := hK.ext hxE
    replace hV := hV.ext hxE
    replace hT := hT.ext hxE
    replace hK2 := hK2.ext hxE
    replace hV2 := hV2.ext hxE
    replace hT2 := hT2.ext hxE
    replace hE := hE.tr hxE
    replace hb_g2 := hb_g2.ext hxE
    replace hb_g3 := hb_g3.ext hxE
    have hz_hxE := hxE.size
    show OpG _ _ _ _ _ _
    exact og_plain rfl (ox_val (ov_loadBlk (cs := [(.int .i64 a.op), (.string (strB a.key)), (.slice K a.keys.length ck), (.slice V a.value.length cv), (.slice T a.tags.length ct), (.int .u64 (↑a.life : Int)), (.int .u64 (↑a.ver : Int)), (.string (strB a.tag)), (.string (strB a.pre)), (.string (strB a.child))]) ag36_10 rfl hb_g2))
  · intro wd hxE
    replace hK := hK.ext hxE
    replace hV := hV.ext hxE
    replace hT := hT.ext hxE
    replace hK2 := hK2.ext hxE
    replace hV2 := hV2.ext hxE
    replace hT2 := hT2.ext hxE
    replace hE := hE.tr hxE
    replace hb_g2 := hb_g2.ext hxE
    replace hb_g3 := hb_g3.ext hxE
    have hz_hxE := hxE.size
    rintro _ rfl
    show OpG _ _ _ _ _ _
    refine og_plain rfl (OpRun.mono (or_call0 cl25 rfl rfl (wvalid_ref _ a _ _ K ck V cv T ct hK hV hT hoa.life hoa.ver hsa)) ?_)
    rintro v w5 ⟨rfl, he15⟩
    replace hK := hK.ext he15
    replace hV := hV.ext he15
    replace hT := hT.ext he15
    replace hK2 := hK2.ext he15
    replace hV2 := hV2.ext he15
    replace hT2 := hT2.ext he15
    replace hE := hE.tr he15
    replace hb_g2 := hb_g2.ext he15
    replace hb_g3 := hb_g3.ext he15
    have hz_he15 := he15.size
    exact ⟨rfl, he15⟩
  · intro wd hxE
    replace hK := hK.ext hxE
    replace hV := hV.ext hxE
    replace hT := hT.ext hxE
    replace hK2 := hK2.ext hxE
    replace hV2 := hV2.ext hxE
    replace hT2 := hT2.ext hxE
    replace hE := hE.tr hxE
    replace hb_g2 := hb_g2.ext hxE
    replace hb_g3 := hb_g3.ext hxE
    have hz_hxE := hxE.size
    show OpG _ _ _ _ _ _
    exact og_plain rfl (ox_val (ov_loadBlk (cs := [(.int .i64 a.op), (.string (strB a.key)), (.slice K a.keys.length ck), (.slice V a.value.length cv), (.slice T a.tags.length ct), (.int .u64 (↑a.life : Int)), (.int .u64 (↑a.ver : Int)), (.string (strB a.tag)), (.string (strB a.pre)), (.string (strB a.child))]) ag36_10 rfl hb_g2))
  · intro wd hxE
    replace hK := hK.ext hxE
    replace hV := hV.ext hxE
    replace hT := hT.ext hxE
    replace hK2 := hK2.ext hxE
    replace hV2 := hV2.ext hxE
    replace hT2 := hT2.ext hxE
    replace hE := hE.tr hxE
    replace hb_g2 := hb_g2.ext hxE
    replace hb_g3 := hb_g3.ext hxE
    have hz_hxE := hxE.size
    rintro _ rfl
    show OpG _ _ _ _ _ _
    refine og_plain rfl (OpRun.mono (or_call0 cl14 rfl rfl (rvalid_any _ a _ _ K ck V cv T ct hK hV hT)) ?_)
    rintro v w5 ⟨rfl, he17⟩
    replace hK := hK.ext he17
    replace hV := hV.ext he17
    replace hT := hT.ext he17
    replace hK2 := hK2.ext he17
    replace hV2 := hV2.ext he17
    replace hT2 := hT2.ext he17
    replace hE := hE.tr he17
    replace hb_g2 := hb_g2.ext he17
    replace hb_g3 := hb_g3.ext he17
    have hz_he17 := he17.size
    exact ⟨rfl, he17⟩
  · intro wd hxE
    replace hK := hK.ext hxE
    replace hV := hV.ext hxE
    replace hT := hT.ext hxE
    replace hK2 := hK2.ext hxE
    replace hV2 := hV2.ext hxE
    replace hT2 := hT2.ext hxE
    replace hE := hE.tr hxE
    replace hb_g2 := hb_g2.ext hxE
    replace hb_g3 := hb_g3.ext hxE
    have hz_hxE := hxE.size
    rintro _ rfl
    rintro _ rfl
    show OpG _ _ _ _ _ _
    exact og_plain rfl (ox_spell (c := (.bool ((rvalid a) == (rvalid a)))) (by simp) (ov_eqb Tryd.underlying4 rfl rfl))
  · intro wd hxE
    replace hK := hK.ext hxE
    replace hV := hV.ext hxE
    replace hT := hT.ext hxE
    replace hK2 := hK2.ext hxE
    replace hV2 := hV2.ext hxE
    replace hT2 := hT2.ext hxE
    replace hE := hE.tr hxE
    replace hb_g2 := hb_g2.ext hxE
    replace hb_g3 := hb_g3.ext hxE
    have hz_hxE := hxE.size
    rintro _ rfl
    show OpG _ _ _ _ _ _
    exact og_plain rfl (ox_val (ov_move rfl))
  · intro wd hxE
    replace hK := hK.ext hxE
    replace hV := hV.ext hxE
    replace hT := hT.ext hxE
    replace hK2 := hK2.ext hxE
    replace hV2 := hV2.ext hxE
    replace hT2 := hT2.ext hxE
    replace hE := hE.tr hxE
    replace hb_g2 := hb_g2.ext hxE
    replace hb_g3 := hb_g3.ext hxE
    have hz_hxE := hxE.size
    rintro _ rfl
    show OpG _ _ _ _ _ _
    exact og_on rfl rfl rfl (ox_val (ov_loadBlk (cs := [(.int .i64 a.op), (.string (strB a.key)), (.slice K a.keys.length ck), (.slice V a.value.length cv), (.slice T a.tags.length ct), (.int .u64 (↑a.life : Int)), (.int .u64 (↑a.ver : Int)), (.string (strB a.tag)), (.string (strB a.pre)), (.string (strB a.child))]) ag36_10 rfl hb_g2))
  · intro wd hxE
    replace hK := hK.ext hxE
    replace hV := hV.ext hxE
    replace hT := hT.ext hxE
    replace hK2 := hK2.ext hxE
    replace hV2 := hV2.ext hxE
    replace hT2 := hT2.ext hxE
    replace hE := hE.tr hxE
    replace hb_g2 := hb_g2.ext hxE
    replace hb_g3 := hb_g3.ext hxE
    have hz_hxE := hxE.size
    rintro _ rfl
    show OpG _ _ _ _ _ _
    exact og_on rfl rfl rfl (ox_val (ov_loadBlk (cs := [(.int .i64 b.op), (.string (strB b.key)), (.slice K2 b.keys.length ck2), (.slice V2 b.value.length cv2), (.slice T2 b.tags.length ct2), (.int .u64 (↑b.life : Int)), (.int .u64 (↑b.ver : Int)), (.string (strB b.tag)), (.string (strB b.pre)), (.string (strB b.child))]) ag36_10 rfl hb_g3))
  · intro wd hxE
    replace hK := hK.ext hxE
    replace hV := hV.ext hxE
    replace hT := hT.ext hxE
    replace hK2 := hK2.ext hxE
    replace hV2 := hV2.ext hxE
    replace hT2 := hT2.ext hxE
    replace hE := hE.tr hxE
    replace hb_g2 := hb_g2.ext hxE
    replace hb_g3 := hb_g3.ext hxE
    have hz_hxE := hxE.size
    rintro _ rfl
    rintro _ rfl
    rintro _ rfl
    show OpG _ _ _ _ _ _
    refine og_on rfl rfl rfl (OpRun.mono (or_call0 cl26 rfl rfl (equal_any _ a _ _ K ck V cv T ct hK hV hT b _ _ K2 ck2 V2 cv2 T2 ct2 hK2 hV2 hT2)) ?_)
    rintro v w5 ⟨rfl, he22⟩
    replace hK := hK.ext he22
    replace hV := hV.ext he22
    replace hT := hT.ext he22
    replace hK2 := hK2.ext he22
    replace hV2 := hV2.ext he22
    replace hT2 := hT2.ext he22
    replace hE := hE.tr he22
    replace hb_g2 := hb_g2.ext he22
    replace hb_g3 := hb_g3.ext he22
    have hz_he22 := he22.size
    exact ⟨rfl, he22⟩
  · intro wd hxE
    replace hK := hK.ext hxE
    replace hV := hV.ext hxE
    replace hT := hT.ext hxE
    replace hK2 := hK2.ext hxE
    replace hV2 := hV2.ext hxE
    replace hT2 := hT2.ext hxE
    replace hE := hE.tr hxE
    replace hb_g2 := hb_g2.ext hxE
    replace hb_g3 := hb_g3.ext hxE
    have hz_hxE := hxE.size
    rintro _ rfl
    show OpG _ _ _ _ _ _
    exact og_on rfl rfl rfl (ox_val (ov_loadBlk (cs := [(.int .i64 a.op), (.string (strB a.key)), (.slice K a.keys.length ck), (.slice V a.value.length cv), (.slice T a.tags.length ct), (.int .u64 (↑a.life : Int)), (.int .u64 (↑a.ver : Int)), (.string (strB a.tag)), (.string (strB a.pre)), (.string (strB a.child))]) ag36_10 rfl hb_g2))
  · intro wd hxE
    replace hK := hK.ext hxE
    replace hV := hV.ext hxE
    replace hT := hT.ext hxE
    replace hK2 := hK2.ext hxE
    replace hV2 := hV2.ext hxE
    replace hT2 := hT2.ext hxE
    replace hE := hE.tr hxE
    replace hb_g2 := hb_g2.ext hxE
    replace hb_g3 := hb_g3.ext hxE
    have hz_hxE := hxE.size
    rintro _ rfl
    show OpG _ _ _ _ _ _
    exact og_on rfl rfl rfl (ox_val (ov_loadBlk (cs := [(.int .i64 b.op), (.string (strB b.key)), (.slice K2 b.keys.length ck2), (.slice V2 b.value.length cv2), (.slice T2 b.tags.length ct2), (.int .u64 (↑b.life : Int)), (.int .u64 (↑b.ver : Int)), (.string (strB b.tag)), (.string (strB b.pre)), (.string (strB b.child))]) ag36_10 rfl hb_g3))
  · intro wd hxE
    replace hK := hK.ext hxE
    replace hV := hV.ext hxE
    replace hT := hT.ext hxE
    replace hK2 := hK2.ext hxE
    replace hV2 := hV2.ext hxE
    replace hT2 := hT2.ext hxE
    replace hE := hE.tr hxE
    replace hb_g2 := hb_g2.ext hxE
    replace hb_g3 := hb_g3.ext hxE
    have hz_hxE := hxE.size
    rintro _ rfl
    rintro _ rfl
    rintro _ rfl
    show OpG _ _ _ _ _ _
    refine og_on rfl rfl rfl (OpRun.mono (or_call0 cl18 rfl rfl (requal_any _ a _ _ K ck V cv T ct hK hV hT b _ _ K2 ck2 V2 cv2 T2 ct2 hK2 hV2 hT2)) ?_)
    rintro v w5 ⟨rfl, he25⟩
    replace hK := hK.ext he25
    replace hV := hV.ext he25
    replace hT := hT.ext he25
    replace hK2 := hK2.ext he25
    replace hV2 := hV2.ext he25
    replace hT2 := hT2.ext he25
    replace hE := hE.tr he25
    replace hb_g2 := hb_g2.ext he25
    replace hb_g3 := hb_g3.ext he25
    have hz_he25 := he25.size
    exact ⟨rfl, he25⟩
  · intro wd hxE
    replace hK := hK.ext hxE
    replace hV := hV.ext hxE
    replace hT := hT.ext hxE
    replace hK2 := hK2.ext hxE
    replace hV2 := hV2.ext hxE
    replace hT2 := hT2.ext hxE
    replace hE := hE.tr hxE
    replace hb_g2 := hb_g2.ext hxE
    replace hb_g3 := hb_g3.ext hxE
    have hz_hxE := hxE.size
    rintro _ rfl
    rintro _ rfl
    rintro _ rfl
    show OpG _ _ _ _ _ _
    exact og_on rfl rfl rfl (ox_spell (c := (.bool ((decide (a = b)) == (decide (a = b))))) (by simp) (ov_eqb Tryd.underlying4 rfl rfl))
  · intro wd hxE
    replace hK := hK.ext hxE
    replace hV := hV.ext hxE
    replace hT := hT.ext hxE
    replace hK2 := hK2.ext hxE
    replace hV2 := hV2.ext hxE
    replace hT2 := hT2.ext hxE
    replace hE := hE.tr hxE
    replace hb_g2 := hb_g2.ext hxE
    replace hb_g3 := hb_g3.ext hxE
    have hz_hxE := hxE.size
    rintro _ rfl
    rintro _ rfl
    show OpG _ _ _ _ _ _
    exact og_plain rfl (ox_val (ov_pick_t rfl rfl))
  · intro wd hxE
    replace hK := hK.ext hxE
    replace hV := hV.ext hxE
    replace hT := hT.ext hxE
    replace hK2 := hK2.ext hxE
    replace hV2 := hV2.ext hxE
    replace hT2 := hT2.ext hxE
    replace hE := hE.tr hxE
    replace hb_g2 := hb_g2.ext hxE
    replace hb_g3 := hb_g3.ext hxE
    have hz_hxE := hxE.size
    rintro _ rfl
    show OpG _ _ _ _ _ _
    exact og_plain rfl (ox_val (ov_move rfl))
  · intro wd hxE
    replace hK := hK.ext hxE
    replace hV := hV.ext hxE
    replace hT := hT.ext hxE
    replace hK2 := hK2.ext hxE
    replace hV2 := hV2.ext hxE
    replace hT2 := hT2.ext hxE
    replace hE := hE.tr hxE
    replace hb_g2 := hb_g2.ext hxE
    replace hb_g3 := hb_g3.ext hxE
    have hz_hxE := hxE.size
    rintro _ rfl
    show OpG _ _ _ _ _ _
    exact og_on rfl rfl rfl (ox_val (ov_loadBlk (cs := [(.int .i64 a.op), (.string (strB a.key)), (.slice K a.keys.length ck), (.slice V a.value.length cv), (.slice T a.tags.length ct), (.int .u64 (↑a.life : Int)), (.int .u64 (↑a.ver : Int)), (.string (strB a.tag)), (.string (strB a.pre)), (.string (strB a.child))]) ag36_10 rfl hb_g2))
  · intro wd hxE
    replace hK := hK.ext hxE
    replace hV := hV.ext hxE
    replace hT := hT.ext hxE
    replace hK2 := hK2.ext hxE
    replace hV2 := hV2.ext hxE
    replace hT2 := hT2.ext hxE
    replace hE := hE.tr hxE
    replace hb_g2 := hb_g2.ext hxE
    replace hb_g3 := hb_g3.ext hxE
    have hz_hxE := hxE.size
    rintro _ rfl
    show OpG _ _ _ _ _ _
    exact og_on rfl rfl rfl (ox_val (ov_loadBlk (cs := [(.int .i64 a.op), (.string (strB a.key)), (.slice K a.keys.length ck), (.slice V a.value.length cv), (.slice T a.tags.length ct), (.int .u64 (↑a.life : Int)), (.int .u64 (↑a.ver : Int)), (.string (strB a.tag)), (.string (strB a.pre)), (.string (strB a.child))]) ag36_10 rfl hb_g2))
  · intro wd hxE
    replace hK := hK.ext hxE
    replace hV := hV.ext hxE
    replace hT := hT.ext hxE
    replace hK2 := hK2.ext hxE
    replace hV2 := hV2.ext hxE
    replace hT2 := hT2.ext hxE
    replace hE := hE.tr hxE
    replace hb_g2 := hb_g2.ext hxE
    replace hb_g3 := hb_g3.ext hxE
    have hz_hxE := hxE.size
    rintro _ rfl
    rintro _ rfl
    show OpG _ _ _ _ _ _
    refine og_on rfl rfl rfl (OpRun.mono (or_call0 cl16 rfl rfl (copies_any _ a _ _ K ck V cv T ct hK hV hT (by omega) (by omega) (by omega))) ?_)
    rintro v w5 ⟨K31, ck31, V31, cv31, T31, ct31, rfl, hoK31, hoV31, hoT31, hsep31, he31⟩
    replace hK := hK.ext he31
    replace hV := hV.ext he31
    replace hT := hT.ext he31
    replace hK2 := hK2.ext he31
    replace hV2 := hV2.ext he31
    replace hT2 := hT2.ext he31
    replace hE := hE.tr he31
    replace hb_g2 := hb_g2.ext he31
    replace hb_g3 := hb_g3.ext he31
    have hz_he31 := he31.size
    have hq_hoK31 := fun g e => Own.lt hoK31 (g := g) e
    have hq_hoV31 := fun g e => Own.lt hoV31 (g := g) e
    have hq_hoT31 := fun g e => Own.lt hoT31 (g := g) e
    exact ⟨⟨K31, ck31, V31, cv31, T31, ct31, rfl, (Own.rd hoK31).mono (Nat.zero_le _) (Nat.le_refl _), (Own.rd hoV31).mono (Nat.zero_le _) (Nat.le_refl _), (Own.rd hoT31).mono (Nat.zero_le _) (Nat.le_refl _)⟩, he31⟩
  · intro wf3 hf3
    replace hK := hK.ext hf3
    replace hV := hV.ext hf3
    replace hT := hT.ext hf3
    replace hK2 := hK2.ext hf3
    replace hV2 := hV2.ext hf3
    replace hT2 := hT2.ext hf3
    replace hE := hE.tr hf3
    replace hb_g2 := hb_g2.ext hf3
    replace hb_g3 := hb_g3.ext hf3
    have hz_hf3 := hf3.size
    rintro _ rfl
    rintro _ rfl
    rintro _ rfl
    rintro _ rfl
    rintro _ rfl
    rintro _ rfl
    rintro _ rfl
    rintro _ rfl
    rintro _ rfl
    rintro _ rfl
    rintro _ rfl
    rintro _ rfl
    rintro _ rfl
    rintro _ rfl
    rintro _ rfl
    rintro _ rfl
    rintro _ rfl
    rintro _ ⟨Kc, kc, Vc, vc, Tc, tc, rfl, hKc, hVc, hTc⟩
    show WL _ _ _ [_, _, _, _, _, _] _ _ _
    refine wl_gstep (or_call0 cl26 rfl rfl (equal_any _ a _ _ K ck V cv T ct hK hV hT a _ _ Kc kc Vc vc Tc tc hKc hVc hTc)) rfl rfl rfl rfl rfl ?_
    rintro v w5 ⟨rfl, he32⟩
    replace hK := hK.ext he32
    replace hV := hV.ext he32
    replace hT := hT.ext he32
    replace hK2 := hK2.ext he32
    replace hV2 := hV2.ext he32
    replace hT2 := hT2.ext he32
    replace hE := hE.tr he32
    replace hb_g2 := hb_g2.ext he32
    replace hb_g3 := hb_g3.ext he32
    replace hKc := hKc.ext he32
    replace hVc := hVc.ext he32
    replace hTc := hTc.ext he32
    have hz_he32 := he32.size
    refine wl_spell (d := 32) rfl (bt (rfl)) ?_
    refine wl_val (ov_pick_t rfl rfl) rfl rfl rfl ?_
    refine vm rfl rfl ?_
    refine wl_gstep (or_call0 cl9 rfl rfl (known07_any _ (hW.ext hE))) rfl rfl rfl rfl rfl ?_
    rintro v w6 ⟨rfl, he35⟩
    replace hK := hK.ext he35
    replace hV := hV.ext he35
    replace hT := hT.ext he35
    replace hK2 := hK2.ext he35
    replace hV2 := hV2.ext he35
    replace hT2 := hT2.ext he35
    replace hE := hE.tr he35
    replace hb_g2 := hb_g2.ext he35
    replace hb_g3 := hb_g3.ext he35
    replace hKc := hKc.ext he35
    replace hVc := hVc.ext he35
    replace hTc := hTc.ext he35
    have hz_he35 := he35.size
    refine wl_val (ov_pick_t rfl rfl) rfl rfl rfl ?_
    refine va rfl rfl ?_
    refine q_nil (k_then (q_ret ?_))
    refine e_ret rfl rfl ?_
    exact ⟨rfl, hE⟩

theorem requestValid_walk (w : World) (hW : WordsAt w) (a : Cmd) (lo hi : Nat) (K : Option Addr) (ck : Nat) (V : Option Addr) (cv : Nat) (T : Option Addr) (ct : Nat) (hK : RdS w lo hi K ck a.keys) (hV : RdB w lo hi V cv a.value) (hT : RdS w lo hi T ct a.tags) (b : Cmd) (lo2 hi2 : Nat) (K2 : Option Addr) (ck2 : Nat) (V2 : Option Addr) (cv2 : Nat) (T2 : Option Addr) (ct2 : Nat) (hK2 : RdS w lo2 hi2 K2 ck2 b.keys) (hV2 : RdB w lo2 hi2 V2 cv2 b.value) (hT2 : RdS w lo2 hi2 T2 ct2 b.tags) (hoa : CmdOK a) (hob : CmdOK b) :
    Fn Tryd.prog 6 #[.agg (cmdc a K ck V cv T ct).toArray, .agg (cmdc b K2 ck2 V2 cv2 T2 ct2).toArray] w (fun v w' => v = .bool true ∧ Ext w w') := by
  cases ha : lightC a
  · exact requestValid_a w hW a lo hi K ck V cv T ct hK hV hT b lo2 hi2 K2 ck2 V2 cv2 T2 ct2 hK2 hV2 hT2 hoa hob ha
  · cases hb : lightC b
    · exact requestValid_b w hW a lo hi K ck V cv T ct hK hV hT b lo2 hi2 K2 ck2 V2 cv2 T2 ct2 hK2 hV2 hT2 hoa hob ha hb
    · exact requestValid_c w hW a lo hi K ck V cv T ct hK hV hT b lo2 hi2 K2 ck2 V2 cv2 T2 ct2 hK2 hV2 hT2 hoa hob ha hb

end Go.Proofs.YtohnkjjjejnkpaaDoor
