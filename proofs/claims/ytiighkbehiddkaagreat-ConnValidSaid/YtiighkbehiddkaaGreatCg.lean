/-
 How a connection looks; the configurations.
-/
import Derived.Test.YtiighkbehiddkaaGreatCf
namespace Go.Proofs.YtiighkbehiddkaaGreat
open Go.RowKit
set_option linter.unusedVariables false
set_option maxRecDepth 4000
theorem ag45_23 : aggTy Tryz.prog 45 23 = true := by kernel_rfl
theorem cl23 : callable Tryz.prog 23 = true := by kernel_rfl
theorem fo45_1 : fieldOff Tryz.prog 45 1 = some 3 := by kernel_rfl
theorem fo45_2 : fieldOff Tryz.prog 45 2 = some 4 := by kernel_rfl
theorem fo45_3 : fieldOff Tryz.prog 45 3 = some 5 := by kernel_rfl
theorem fo45_5 : fieldOff Tryz.prog 45 5 = some 7 := by kernel_rfl
theorem fo45_6 : fieldOff Tryz.prog 45 6 = some 17 := by kernel_rfl
theorem pl45 : placesOf Tryz.prog 45 = some [(0, 3), (3, 1), (4, 1), (5, 1), (6, 1), (7, 10), (17, 6)] := by kernel_rfl
theorem sz45 : (Tryz.prog.info? 45).map (·.size) = some 23 := by kernel_rfl
theorem ze45 : zeroOf Tryz.prog 45 = some (.agg #[(.int .i64 0), (.int .i64 0), (.int .i64 0), (.slice none 0 0), (.slice none 0 0), (.int .i64 0), (.bool false), (.int .i64 0), (.string (strB [])), (.slice none 0 0), (.slice none 0 0), (.slice none 0 0), (.int .u64 0), (.int .u64 0), (.string (strB [])), (.string (strB [])), (.string (strB [])), (.int .i64 0), (.int .i64 0), (.slice none 0 0), (.int .u64 0), (.int .i64 0), (.slice none 0 0)]) := by kernel_rfl
theorem looks28_2 (w : World) (g : Nat) (S : List Nat) (a b : Nat) (s : Cn) (hc : Cnn w g S a b s) (ki ko kp : Int) (rin : List UInt8) (Ai : Option Addr) (ai : Nat) (rout : List UInt8) (Ao : Option Addr) (ao : Nat) (ph : Nat) (en : Bool) (rcm : Cmd) (lo2 hi2 : Nat) (K2 : Option Addr) (ck2 : Nat) (V2 : Option Addr) (cv2 : Nat) (T2 : Option Addr) (ct2 : Nat) (hK2 : RdS w lo2 hi2 K2 ck2 rcm.keys) (hV2 : RdB w lo2 hi2 V2 cv2 rcm.value) (hT2 : RdS w lo2 hi2 T2 ct2 rcm.tags) (rr : Rsp) (xs3 : List IT) (hv3 : vals xs3 = rr.items) (lo3 hi3 : Nat) (X3 : Option Addr) (cx3 : Nat) (N3 : Option Addr) (cn3 : Nat) (hx3 : RdI w lo3 hi3 X3 cx3 xs3) (hn3 : RdN w lo3 hi3 N3 cn3 rr.nums) (e1 : dheld s.cl s.held = rin.length) (e2 : s.out.length = rout.length) (e3 : s.ph = ph) (e4 : s.ph = 2 → s.cmd = rcm) (e5 : s.ph = 3 → s.ans = rr) (h : ph = 2) :
  Fn Tryz.prog 14 #[(.pointer (some ⟨g, 0, none⟩)), (.agg #[(.int .i64 ki), (.int .i64 ko), (.int .i64 kp), (.slice Ai rin.length ai), (.slice Ao rout.length ao), (.int .i64 (↑ph : Int)), (.bool en), (.int .i64 rcm.op), (.string (strB rcm.key)), (.slice K2 rcm.keys.length ck2), (.slice V2 rcm.value.length cv2), (.slice T2 rcm.tags.length ct2), (.int .u64 (↑rcm.life : Int)), (.int .u64 (↑rcm.ver : Int)), (.string (strB rcm.tag)), (.string (strB rcm.pre)), (.string (strB rcm.child)), (.int .i64 rr.op), (.int .i64 rr.err), (.slice X3 rr.items.length cx3), (.int .u64 (↑rr.ver : Int)), (.int .i64 rr.count), (.slice N3 rr.nums.length cn3)])] w (fun v w' => v = .bool true ∧ Ext w w')  := by
 have hE := ext_refl w
 replace hK2 := hK2.top
 replace hV2 := hV2.top
 replace hT2 := hT2.top
 have hB_hc : (∀ x ∈ S, x < w.heap.size) ∧ b ≤ w.heap.size := ⟨fun x hx => (hc.bnd.1 x hx).1, hc.bnd.2⟩
 have hi2 : cnIn s 2 = 0 := if_pos (by omega)
 have hcm : cnCmd s = rcm := (if_pos (by omega)).trans (e4 (by omega))
 have hi3 : cnIn s 3 = 8 := if_neg (by omega)
 have hr0 : cnRsp s = rspO 0 0 := if_neg (by omega)
 refine fn_enter (args := [(.pointer (some ⟨g, 0, none⟩)), (.agg #[(.int .i64 ki), (.int .i64 ko), (.int .i64 kp), (.slice Ai rin.length ai), (.slice Ao rout.length ao), (.int .i64 (↑ph : Int)), (.bool en), (.int .i64 rcm.op), (.string (strB rcm.key)), (.slice K2 rcm.keys.length ck2), (.slice V2 rcm.value.length cv2), (.slice T2 rcm.tags.length ct2), (.int .u64 (↑rcm.life : Int)), (.int .u64 (↑rcm.ver : Int)), (.string (strB rcm.tag)), (.string (strB rcm.pre)), (.string (strB rcm.child)), (.int .i64 rr.op), (.int .i64 rr.err), (.slice X3 rr.items.length cx3), (.int .u64 (↑rr.ver : Int)), (.int .i64 rr.count), (.slice N3 rr.nums.length cn3)])]) Tryz.func14 rfl rfl rfl ?_
 show WC _ _ _ _ [(0, (.pointer (some ⟨g, 0, none⟩))), (1, (.agg #[(.int .i64 ki), (.int .i64 ko), (.int .i64 kp), (.slice Ai rin.length ai), (.slice Ao rout.length ao), (.int .i64 (↑ph : Int)), (.bool en), (.int .i64 rcm.op), (.string (strB rcm.key)), (.slice K2 rcm.keys.length ck2), (.slice V2 rcm.value.length cv2), (.slice T2 rcm.tags.length ct2), (.int .u64 (↑rcm.life : Int)), (.int .u64 (↑rcm.ver : Int)), (.string (strB rcm.tag)), (.string (strB rcm.pre)), (.string (strB rcm.child)), (.int .i64 rr.op), (.int .i64 rr.err), (.slice X3 rr.items.length cx3), (.int .u64 (↑rr.ver : Int)), (.int .i64 rr.count), (.slice N3 rr.nums.length cn3)]))] _
 refine wc_seq (wc_regionL ?_)
 refine wl_step (or_box (cs := [(.int .i64 ki), (.int .i64 ko), (.int .i64 kp), (.slice Ai rin.length ai), (.slice Ao rout.length ao), (.int .i64 (↑ph : Int)), (.bool en), (.int .i64 rcm.op), (.string (strB rcm.key)), (.slice K2 rcm.keys.length ck2), (.slice V2 rcm.value.length cv2), (.slice T2 rcm.tags.length ct2), (.int .u64 (↑rcm.life : Int)), (.int .u64 (↑rcm.ver : Int)), (.string (strB rcm.tag)), (.string (strB rcm.pre)), (.string (strB rcm.child)), (.int .i64 rr.op), (.int .i64 rr.err), (.slice X3 rr.items.length cx3), (.int .u64 (↑rr.ver : Int)), (.int .i64 rr.count), (.slice N3 rr.nums.length cn3)]) rfl rfl) rfl rfl rfl ?_
 rintro v w1 ⟨g3, rfl, hb_g3, he3, hl3, hu3⟩
 replace hc := hc.ext he3
 replace hK2 := hK2.ext he3
 replace hV2 := hV2.ext he3
 replace hT2 := hT2.ext he3
 replace hE := hE.tr he3
 have hz_he3 := he3.size
 refine va rfl rfl ?_
 refine q_nil (k_then (wc_seq (wc_regionL ?_)))
 refine vm rfl rfl ?_
 refine wl_step (or_call0 cl21 rfl rfl (lcsizes _ _ S a b s hc)) rfl rfl rfl ?_
 rintro v w2 ⟨rfl, he13⟩
 replace hc := hc.ext he13
 replace hK2 := hK2.ext he13
 replace hV2 := hV2.ext he13
 replace hT2 := hT2.ext he13
 replace hE := hE.tr he13
 replace hb_g3 := hb_g3.ext he13
 have hz_he13 := he13.size
 refine vm rfl rfl ?_
 iterate 2 refine vx rfl rfl rfl ?_
 iterate 2 refine va rfl rfl ?_
 refine q_nil (k_then (wc_seq (wc_seq ?_)))
 refine wc_draw mixed 17 [(16, eqv (.int .i64 (↑(dheld s.cl s.held) : Int))), (17, eqv (.pointer (some ⟨g3, 3, none⟩))), (18, eqv (.slice Ai rin.length ai)), (19, eqv (.int .i64 (↑rin.length : Int))), (20, eqv (.bool false)), (21, eqv (.bool false)), (22, eqv (.int .i64 (↑s.out.length : Int))), (23, eqv (.pointer (some ⟨g3, 4, none⟩))), (24, eqv (.slice Ao rout.length ao)), (25, eqv (.int .i64 (↑rout.length : Int))), (26, eqv (.bool false)), (27, eqv (.bool false)), (28, eqv (.bool false)), (29, eqv (.pointer (some ⟨g, 0, none⟩))), (30, eqv (.int .i64 (↑s.ph : Int))), (31, eqv (.pointer (some ⟨g3, 5, none⟩))), (32, eqv (.int .i64 (↑ph : Int)))] [[], [], [1], [2], [0, 3], [4], [5], [5], [5, 7], [5, 8], [5, 6, 9], [5, 10], [11], [12], [12, 13], [12], [12, 15]] _ [] [] (fun _ _ h => h) trivial (by kernel_rfl) rfl ⟨⟨stb_eqv _, fun _ he => by cases he⟩, ⟨stb_eqv _, fun _ he => by cases he⟩, ⟨stb_eqv _, fun _ he => by cases he⟩, ⟨stb_eqv _, fun _ he => by cases he⟩, ⟨stb_eqv _, fun _ he => by cases he⟩, ⟨stb_eqv _, fun _ he => by cases he⟩, ⟨stb_eqv _, fun _ he => by cases he⟩, ⟨stb_eqv _, fun _ he => by cases he⟩, ⟨stb_eqv _, fun _ he => by cases he⟩, ⟨stb_eqv _, fun _ he => by cases he⟩, ⟨stb_eqv _, fun _ he => by cases he⟩, ⟨stb_eqv _, fun _ he => by cases he⟩, ⟨stb_eqv _, fun _ he => by cases he⟩, ⟨stb_eqv _, fun _ he => by cases he⟩, ⟨stb_eqv _, fun _ he => by cases he⟩, ⟨stb_eqv _, fun _ he => by cases he⟩, ⟨stb_eqv _, fun _ he => by cases he⟩, trivial⟩ ⟨?_, ?_, ?_, ?_, ?_, ?_, ?_, ?_, ?_, ?_, ?_, ?_, ?_, ?_, ?_, ?_, ?_, trivial⟩ ?_
 ·intro wd hxE
  have hz_hxE := hxE.size
  show OpG _ _ _ _ _ _
  exact og_plain rfl (ox_val (ov_move rfl))
 ·intro wd hxE
  have hz_hxE := hxE.size
  show OpG _ _ _ _ _ _
  exact og_plain rfl (ox_val (ov_field0 (off := 3) fo45_1 rfl))
 ·intro wd hxE
  replace hb_g3 := hb_g3.ext hxE
  have hz_hxE := hxE.size
  rintro _ rfl
  show OpG _ _ _ _ _ _
  exact og_plain rfl (ox_val (ov_loadAt oc32 rfl hb_g3 rfl))
 ·intro wd hxE
  have hz_hxE := hxE.size
  rintro _ rfl
  show OpG _ _ _ _ _ _
  exact og_plain rfl (ox_val (ov_len Tryz.underlying32 rfl))
 ·intro wd hxE
  have hz_hxE := hxE.size
  rintro _ rfl
  rintro _ rfl
  show OpG _ _ _ _ _ _
  exact og_plain rfl (ox_F (by omega) (ov_neq rfl rfl))
 ·intro wd hxE
  have hz_hxE := hxE.size
  rintro _ rfl
  show OpG _ _ _ _ _ _
  exact og_plain rfl (ox_val (ov_move rfl))
 ·intro wd hxE
  have hz_hxE := hxE.size
  rintro _ rfl
  show OpG _ _ _ _ _ _
  exact og_on rfl rfl rfl (ox_val (ov_move rfl))
 ·intro wd hxE
  have hz_hxE := hxE.size
  rintro _ rfl
  show OpG _ _ _ _ _ _
  exact og_on rfl rfl rfl (ox_val (ov_field0 (off := 4) fo45_2 rfl))
 ·intro wd hxE
  replace hb_g3 := hb_g3.ext hxE
  have hz_hxE := hxE.size
  rintro _ rfl
  rintro _ rfl
  show OpG _ _ _ _ _ _
  exact og_on rfl rfl rfl (ox_val (ov_loadAt oc32 rfl hb_g3 rfl))
 ·intro wd hxE
  have hz_hxE := hxE.size
  rintro _ rfl
  rintro _ rfl
  show OpG _ _ _ _ _ _
  exact og_on rfl rfl rfl (ox_val (ov_len Tryz.underlying32 rfl))
 ·intro wd hxE
  have hz_hxE := hxE.size
  rintro _ rfl
  rintro _ rfl
  rintro _ rfl
  show OpG _ _ _ _ _ _
  exact og_on rfl rfl rfl (ox_F (by omega) (ov_neq rfl rfl))
 ·intro wd hxE
  have hz_hxE := hxE.size
  rintro _ rfl
  rintro _ rfl
  show OpG _ _ _ _ _ _
  exact og_plain rfl (ox_val (ov_pick_f rfl rfl))
 ·intro wd hxE
  have hz_hxE := hxE.size
  rintro _ rfl
  show OpG _ _ _ _ _ _
  exact og_plain rfl (ox_val (ov_move rfl))
 ·intro wd hxE
  have hz_hxE := hxE.size
  rintro _ rfl
  show OpG _ _ _ _ _ _
  exact og_on rfl rfl rfl (ox_val (ov_move rfl))
 ·intro wd hxE
  replace hc := hc.ext hxE
  have hz_hxE := hxE.size
  rintro _ rfl
  rintro _ rfl
  show OpG _ _ _ _ _ _
  refine og_on rfl rfl rfl (OpRun.mono (or_call0 cl25 rfl rfl (lcphase _ _ S a b s hc)) ?_)
  rintro v w3 ⟨rfl, he30⟩
  have hz_he30 := he30.size
  exact ⟨rfl, he30⟩
 ·intro wd hxE
  have hz_hxE := hxE.size
  rintro _ rfl
  show OpG _ _ _ _ _ _
  exact og_on rfl rfl rfl (ox_val (ov_field0 (off := 5) fo45_3 rfl))
 ·intro wd hxE
  replace hb_g3 := hb_g3.ext hxE
  have hz_hxE := hxE.size
  rintro _ rfl
  rintro _ rfl
  show OpG _ _ _ _ _ _
  exact og_on rfl rfl rfl (ox_val (ov_loadAt oc33 rfl hb_g3 rfl))
 ·intro wf2 hf2
  replace hc := hc.ext hf2
  replace hK2 := hK2.ext hf2
  replace hV2 := hV2.ext hf2
  replace hT2 := hT2.ext hf2
  replace hE := hE.tr hf2
  replace hb_g3 := hb_g3.ext hf2
  have hz_hf2 := hf2.size
  rintro _ rfl
  rintro _ rfl
  rintro _ rfl
  rintro _ rfl
  rintro _ rfl
  rintro _ rfl
  rintro _ rfl
  rintro _ rfl
  rintro _ rfl
  rintro _ rfl
  rintro _ rfl
  rintro _ rfl
  rintro _ rfl
  rintro _ rfl
  rintro _ rfl
  rintro _ rfl
  rintro _ rfl
  show WL _ _ _ [_, _] _ _ _
  refine wl_gval (ov_neq rfl rfl) rfl rfl rfl rfl rfl ?_
  refine wl_spell (d := 33) rfl (bf (by omega)) ?_
  refine wl_val (ov_pick_f rfl rfl) rfl rfl rfl ?_
  refine q_nil (k_then ?_)
  refine wc_cond_f rfl ?_
  refine q_skip (k_then (wc_seq (wc_regionL ?_)))
  refine vm rfl rfl ?_
  refine wl_step (or_call0 cl18 rfl rfl (lccmd _ _ S a b s hc)) rfl rfl rfl ?_
  rintro v w3 ⟨K37, ck37, V37, cv37, T37, ct37, rfl, hK37, hV37, hT37, he37⟩
  replace hc := hc.ext he37
  replace hK2 := hK2.ext he37
  replace hV2 := hV2.ext he37
  replace hT2 := hT2.ext he37
  replace hE := hE.tr he37
  replace hb_g3 := hb_g3.ext he37
  have hz_he37 := he37.size
  refine vm rfl rfl ?_
  iterate 2 refine vx rfl rfl rfl ?_
  refine wl_step (or_alloc (cs := [(.int .i64 0), (.string (strB [])), (.slice none 0 0), (.slice none 0 0), (.slice none 0 0), (.int .u64 0), (.int .u64 0), (.string (strB [])), (.string (strB [])), (.string (strB []))]) ze39 rfl) rfl rfl rfl ?_
  rintro v w4 ⟨g7, rfl, hb_g7, he7, hl7, hu7⟩
  replace hc := hc.ext he7
  replace hK2 := hK2.ext he7
  replace hV2 := hV2.ext he7
  replace hT2 := hT2.ext he7
  replace hE := hE.tr he7
  replace hb_g3 := hb_g3.ext he7
  replace hK37 := hK37.ext he7
  replace hV37 := hV37.ext he7
  replace hT37 := hT37.ext he7
  have hz_he7 := he7.size
  refine wl_step0 (or_storeBlk (vs := [(.int .i64 (cnCmd s).op), (.string (strB (cnCmd s).key)), (.slice K37 (cnCmd s).keys.length ck37), (.slice V37 (cnCmd s).value.length cv37), (.slice T37 (cnCmd s).tags.length ct37), (.int .u64 (↑(cnCmd s).life : Int)), (.int .u64 (↑(cnCmd s).ver : Int)), (.string (strB (cnCmd s).tag)), (.string (strB (cnCmd s).pre)), (.string (strB (cnCmd s).child))]) sz39 rfl rfl (by simp [Value.oneCell']) hb_g7 rfl) rfl rfl ?_
  rintro _ w5 ⟨hN5, hg5⟩
  have hz_hg5 := hg5.size
  replace hc := hc.grf hg5 hB_hc (by omega)
  replace hK2 := hK2.gr hg5 (fun _ e => by cases e; omega)
  replace hV2 := hV2.gr hg5 (fun _ e => by cases e; omega)
  replace hT2 := hT2.gr hg5 (fun _ e => by cases e; omega)
  replace hE := hE.gr hg5 (fun _ e => by cases e; omega)
  replace hb_g3 := hb_g3.gr hg5 (by intro e; cases e; omega)
  replace hK37 := hK37.gr hg5 (fun _ e => by cases e; omega)
  replace hV37 := hV37.gr hg5 (fun _ e => by cases e; omega)
  replace hT37 := hT37.gr hg5 (fun _ e => by cases e; omega)
  replace hb_g7 := hN5
  refine va rfl rfl ?_
  refine q_nil (k_then (wc_seq (wc_seq (wc_regionL ?_))))
  refine wl_val (ov_field0 (off := 5) fo45_3 rfl) rfl rfl rfl ?_
  refine wl_val (ov_loadAt oc33 rfl hb_g3 rfl) rfl rfl rfl ?_
  refine ve rfl rfl rfl ?_
  refine wl_spell (d := 42) rfl (bt (by omega)) ?_
  refine vm rfl rfl ?_
  refine wl_gval (ov_move rfl) rfl rfl rfl rfl rfl ?_
  refine wl_gval (ov_neq rfl rfl) rfl rfl rfl rfl rfl ?_
  refine wl_spell (d := 45) rfl (bf (by rw [hi2]; exact fun q => q rfl)) ?_
  refine wl_gval (ov_move rfl) rfl rfl rfl rfl rfl ?_
  refine wl_gval (ov_loadBlk (cs := [(.int .i64 (cnCmd s).op), (.string (strB (cnCmd s).key)), (.slice K37 (cnCmd s).keys.length ck37), (.slice V37 (cnCmd s).value.length cv37), (.slice T37 (cnCmd s).tags.length ct37), (.int .u64 (↑(cnCmd s).life : Int)), (.int .u64 (↑(cnCmd s).ver : Int)), (.string (strB (cnCmd s).tag)), (.string (strB (cnCmd s).pre)), (.string (strB (cnCmd s).child))]) ag39_10 rfl hb_g7) rfl rfl rfl rfl rfl ?_
  refine wl_gval (ov_field0 (off := 7) fo45_5 rfl) rfl rfl rfl rfl rfl ?_
  refine wl_gval (ov_loadPart (vs := [(.int .i64 rcm.op), (.string (strB rcm.key)), (.slice K2 rcm.keys.length ck2), (.slice V2 rcm.value.length cv2), (.slice T2 rcm.tags.length ct2), (.int .u64 (↑rcm.life : Int)), (.int .u64 (↑rcm.ver : Int)), (.string (strB rcm.tag)), (.string (strB rcm.pre)), (.string (strB rcm.child))]) ag39_10 rfl hb_g3 rfl) rfl rfl rfl rfl rfl ?_
  refine wl_gstep (or_call0 cl22 rfl rfl (requal_any _ (cnCmd s) _ _ K37 ck37 V37 cv37 T37 ct37 hK37 hV37 hT37 rcm _ _ K2 ck2 V2 cv2 T2 ct2 hK2 hV2 hT2)) rfl rfl rfl rfl rfl ?_
  rintro v w6 ⟨rfl, he50⟩
  replace hc := hc.ext he50
  replace hE := hE.tr he50
  replace hb_g3 := hb_g3.ext he50
  have hz_he50 := he50.size
  refine wl_spell (d := 50) rfl (bt (hcm)) ?_
  refine wl_gval (ov_not (b := true) rfl) rfl rfl rfl rfl rfl ?_
  refine wl_gval (ov_pick_f rfl rfl) rfl rfl rfl rfl rfl ?_
  refine wl_val (ov_pick_t rfl rfl) rfl rfl rfl ?_
  refine vm rfl rfl ?_
  refine wl_gval (ov_field0 (off := 5) fo45_3 rfl) rfl rfl rfl rfl rfl ?_
  refine wl_gval (ov_loadAt oc33 rfl hb_g3 rfl) rfl rfl rfl rfl rfl ?_
  refine wl_gval (ov_neq rfl rfl) rfl rfl rfl rfl rfl ?_
  refine wl_spell (d := 57) rfl (bf (by omega)) ?_
  refine wl_gval (ov_move rfl) rfl rfl rfl rfl rfl ?_
  iterate 3 refine wl_gskip rfl rfl rfl rfl rfl rfl ?_
  iterate 4 refine wl_gskipU rfl rfl rfl rfl rfl ?_
  refine wl_gskip rfl rfl rfl rfl rfl rfl ?_
  refine wl_gval (ov_pick_f rfl rfl) rfl rfl rfl rfl rfl ?_
  refine wl_val (ov_pick_f rfl rfl) rfl rfl rfl ?_
  refine q_nil (k_then ?_)
  refine wc_cond_f rfl ?_
  refine q_skip (k_then (wc_seq (wc_regionL ?_)))
  refine vm rfl rfl ?_
  refine wl_step (or_call0 cl19 rfl rfl (lcrsp _ _ S a b s hc)) rfl rfl rfl ?_
  rintro v w7 ⟨X71, cx71, N71, cn71, xs71, rfl, hv71, hx71, hn71, he71⟩
  replace hE := hE.tr he71
  replace hb_g3 := hb_g3.ext he71
  have hz_he71 := he71.size
  refine vm rfl rfl ?_
  iterate 2 refine vx rfl rfl rfl ?_
  refine wl_step (or_alloc (cs := [(.int .i64 0), (.int .i64 0), (.slice none 0 0), (.int .u64 0), (.int .i64 0), (.slice none 0 0)]) ze43 rfl) rfl rfl rfl ?_
  rintro v w8 ⟨g9, rfl, hb_g9, he9, hl9, hu9⟩
  replace hE := hE.tr he9
  replace hb_g3 := hb_g3.ext he9
  replace hx71 := RdI.ext hx71 he9
  replace hn71 := hn71.ext he9
  have hz_he9 := he9.size
  refine wl_step0 (or_storeBlk (vs := [(.int .i64 (cnRsp s).op), (.int .i64 (cnRsp s).err), (.slice X71 (cnRsp s).items.length cx71), (.int .u64 (↑(cnRsp s).ver : Int)), (.int .i64 (cnRsp s).count), (.slice N71 (cnRsp s).nums.length cn71)]) sz43 rfl rfl (by simp [Value.oneCell']) hb_g9 rfl) rfl rfl ?_
  rintro _ w9 ⟨hN9, hg9⟩
  have hz_hg9 := hg9.size
  replace hE := hE.gr hg9 (fun _ e => by cases e; omega)
  replace hb_g3 := hb_g3.gr hg9 (by intro e; cases e; omega)
  replace hx71 := RdI.gr hx71 hg9 (fun _ e => by cases e; omega)
  replace hn71 := hn71.gr hg9 (fun _ e => by cases e; omega)
  replace hb_g9 := hN9
  refine va rfl rfl ?_
  refine q_nil (k_then (wc_seq (wc_seq (wc_regionL ?_))))
  refine wl_val (ov_field0 (off := 5) fo45_3 rfl) rfl rfl rfl ?_
  refine wl_val (ov_loadAt oc33 rfl hb_g3 rfl) rfl rfl rfl ?_
  refine ve rfl rfl rfl ?_
  refine wl_spell (d := 76) rfl (bf (by omega)) ?_
  refine q_nil (k_then ?_)
  refine wc_cond_f rfl ?_
  refine q_skip (k_then (wc_seq (wc_regionL ?_)))
  refine vm rfl rfl ?_
  refine ve rfl rfl rfl ?_
  refine wl_spell (d := 86) rfl (bt (by rw [hi3]; rfl)) ?_
  refine vm rfl rfl ?_
  refine wl_gval (ov_loadBlk (cs := [(.int .i64 (cnRsp s).op), (.int .i64 (cnRsp s).err), (.slice X71 (cnRsp s).items.length cx71), (.int .u64 (↑(cnRsp s).ver : Int)), (.int .i64 (cnRsp s).count), (.slice N71 (cnRsp s).nums.length cn71)]) ag43_6 rfl hb_g9) rfl rfl rfl rfl rfl ?_
  refine wl_gval (ov_build (cs := [(.int .i64 0), (.int .i64 0), (.slice none 0 0), (.int .u64 0), (.int .i64 0), (.slice none 0 0)]) ze43 pl43 rfl rfl) rfl rfl rfl rfl rfl ?_
  refine wl_gstep (or_call0 cl23 rfl rfl (req8_any _ (cnRsp s) xs71 hv71 _ _ X71 cx71 N71 cn71 hx71 hn71 (rspO 0 0) [] rfl 0 0 none 0 none 0 (RdI.nil _ 0 0) (Rd.nil _ _ _ _ _ _ (Nat.zero_le _)))) rfl rfl rfl rfl rfl ?_
  rintro v w10 ⟨rfl, he90⟩
  replace hE := hE.tr he90
  have hz_he90 := he90.size
  refine wl_spell (d := 90) rfl (bt (hr0)) ?_
  refine wl_val (ov_pick_t rfl rfl) rfl rfl rfl ?_
  refine va rfl rfl ?_
  refine q_nil (k_then (q_ret ?_))
  refine e_ret rfl rfl ?_
  exact ⟨rfl, hE⟩
theorem looks28_3 (w : World) (g : Nat) (S : List Nat) (a b : Nat) (s : Cn) (hc : Cnn w g S a b s) (ki ko kp : Int) (rin : List UInt8) (Ai : Option Addr) (ai : Nat) (rout : List UInt8) (Ao : Option Addr) (ao : Nat) (ph : Nat) (en : Bool) (rcm : Cmd) (lo2 hi2 : Nat) (K2 : Option Addr) (ck2 : Nat) (V2 : Option Addr) (cv2 : Nat) (T2 : Option Addr) (ct2 : Nat) (hK2 : RdS w lo2 hi2 K2 ck2 rcm.keys) (hV2 : RdB w lo2 hi2 V2 cv2 rcm.value) (hT2 : RdS w lo2 hi2 T2 ct2 rcm.tags) (rr : Rsp) (xs3 : List IT) (hv3 : vals xs3 = rr.items) (lo3 hi3 : Nat) (X3 : Option Addr) (cx3 : Nat) (N3 : Option Addr) (cn3 : Nat) (hx3 : RdI w lo3 hi3 X3 cx3 xs3) (hn3 : RdN w lo3 hi3 N3 cn3 rr.nums) (e1 : dheld s.cl s.held = rin.length) (e2 : s.out.length = rout.length) (e3 : s.ph = ph) (e4 : s.ph = 2 → s.cmd = rcm) (e5 : s.ph = 3 → s.ans = rr) (h : ph = 3) :
  Fn Tryz.prog 14 #[(.pointer (some ⟨g, 0, none⟩)), (.agg #[(.int .i64 ki), (.int .i64 ko), (.int .i64 kp), (.slice Ai rin.length ai), (.slice Ao rout.length ao), (.int .i64 (↑ph : Int)), (.bool en), (.int .i64 rcm.op), (.string (strB rcm.key)), (.slice K2 rcm.keys.length ck2), (.slice V2 rcm.value.length cv2), (.slice T2 rcm.tags.length ct2), (.int .u64 (↑rcm.life : Int)), (.int .u64 (↑rcm.ver : Int)), (.string (strB rcm.tag)), (.string (strB rcm.pre)), (.string (strB rcm.child)), (.int .i64 rr.op), (.int .i64 rr.err), (.slice X3 rr.items.length cx3), (.int .u64 (↑rr.ver : Int)), (.int .i64 rr.count), (.slice N3 rr.nums.length cn3)])] w (fun v w' => v = .bool true ∧ Ext w w')  := by
 have hE := ext_refl w
 replace hx3 := hx3.top
 replace hn3 := Rd.top hn3
 have hB_hc : (∀ x ∈ S, x < w.heap.size) ∧ b ≤ w.heap.size := ⟨fun x hx => (hc.bnd.1 x hx).1, hc.bnd.2⟩
 have hi2 : cnIn s 2 = 8 := if_neg (by omega)
 have hcm : cnCmd s = cmd0 0 := if_neg (by omega)
 have hi3 : cnIn s 3 = 0 := if_pos (by omega)
 have hr0 : cnRsp s = rr := (if_pos (by omega)).trans (e5 (by omega))
 refine fn_enter (args := [(.pointer (some ⟨g, 0, none⟩)), (.agg #[(.int .i64 ki), (.int .i64 ko), (.int .i64 kp), (.slice Ai rin.length ai), (.slice Ao rout.length ao), (.int .i64 (↑ph : Int)), (.bool en), (.int .i64 rcm.op), (.string (strB rcm.key)), (.slice K2 rcm.keys.length ck2), (.slice V2 rcm.value.length cv2), (.slice T2 rcm.tags.length ct2), (.int .u64 (↑rcm.life : Int)), (.int .u64 (↑rcm.ver : Int)), (.string (strB rcm.tag)), (.string (strB rcm.pre)), (.string (strB rcm.child)), (.int .i64 rr.op), (.int .i64 rr.err), (.slice X3 rr.items.length cx3), (.int .u64 (↑rr.ver : Int)), (.int .i64 rr.count), (.slice N3 rr.nums.length cn3)])]) Tryz.func14 rfl rfl rfl ?_
 show WC _ _ _ _ [(0, (.pointer (some ⟨g, 0, none⟩))), (1, (.agg #[(.int .i64 ki), (.int .i64 ko), (.int .i64 kp), (.slice Ai rin.length ai), (.slice Ao rout.length ao), (.int .i64 (↑ph : Int)), (.bool en), (.int .i64 rcm.op), (.string (strB rcm.key)), (.slice K2 rcm.keys.length ck2), (.slice V2 rcm.value.length cv2), (.slice T2 rcm.tags.length ct2), (.int .u64 (↑rcm.life : Int)), (.int .u64 (↑rcm.ver : Int)), (.string (strB rcm.tag)), (.string (strB rcm.pre)), (.string (strB rcm.child)), (.int .i64 rr.op), (.int .i64 rr.err), (.slice X3 rr.items.length cx3), (.int .u64 (↑rr.ver : Int)), (.int .i64 rr.count), (.slice N3 rr.nums.length cn3)]))] _
 refine wc_seq (wc_regionL ?_)
 refine wl_step (or_box (cs := [(.int .i64 ki), (.int .i64 ko), (.int .i64 kp), (.slice Ai rin.length ai), (.slice Ao rout.length ao), (.int .i64 (↑ph : Int)), (.bool en), (.int .i64 rcm.op), (.string (strB rcm.key)), (.slice K2 rcm.keys.length ck2), (.slice V2 rcm.value.length cv2), (.slice T2 rcm.tags.length ct2), (.int .u64 (↑rcm.life : Int)), (.int .u64 (↑rcm.ver : Int)), (.string (strB rcm.tag)), (.string (strB rcm.pre)), (.string (strB rcm.child)), (.int .i64 rr.op), (.int .i64 rr.err), (.slice X3 rr.items.length cx3), (.int .u64 (↑rr.ver : Int)), (.int .i64 rr.count), (.slice N3 rr.nums.length cn3)]) rfl rfl) rfl rfl rfl ?_
 rintro v w1 ⟨g3, rfl, hb_g3, he3, hl3, hu3⟩
 replace hc := hc.ext he3
 replace hx3 := RdI.ext hx3 he3
 replace hn3 := hn3.ext he3
 replace hE := hE.tr he3
 have hz_he3 := he3.size
 refine va rfl rfl ?_
 refine q_nil (k_then (wc_seq (wc_regionL ?_)))
 refine vm rfl rfl ?_
 refine wl_step (or_call0 cl21 rfl rfl (lcsizes _ _ S a b s hc)) rfl rfl rfl ?_
 rintro v w2 ⟨rfl, he13⟩
 replace hc := hc.ext he13
 replace hx3 := RdI.ext hx3 he13
 replace hn3 := hn3.ext he13
 replace hE := hE.tr he13
 replace hb_g3 := hb_g3.ext he13
 have hz_he13 := he13.size
 refine vm rfl rfl ?_
 iterate 2 refine vx rfl rfl rfl ?_
 iterate 2 refine va rfl rfl ?_
 refine q_nil (k_then (wc_seq (wc_seq ?_)))
 refine wc_draw mixed 17 [(16, eqv (.int .i64 (↑(dheld s.cl s.held) : Int))), (17, eqv (.pointer (some ⟨g3, 3, none⟩))), (18, eqv (.slice Ai rin.length ai)), (19, eqv (.int .i64 (↑rin.length : Int))), (20, eqv (.bool false)), (21, eqv (.bool false)), (22, eqv (.int .i64 (↑s.out.length : Int))), (23, eqv (.pointer (some ⟨g3, 4, none⟩))), (24, eqv (.slice Ao rout.length ao)), (25, eqv (.int .i64 (↑rout.length : Int))), (26, eqv (.bool false)), (27, eqv (.bool false)), (28, eqv (.bool false)), (29, eqv (.pointer (some ⟨g, 0, none⟩))), (30, eqv (.int .i64 (↑s.ph : Int))), (31, eqv (.pointer (some ⟨g3, 5, none⟩))), (32, eqv (.int .i64 (↑ph : Int)))] [[], [], [1], [2], [0, 3], [4], [5], [5], [5, 7], [5, 8], [5, 6, 9], [5, 10], [11], [12], [12, 13], [12], [12, 15]] _ [] [] (fun _ _ h => h) trivial (by kernel_rfl) rfl ⟨⟨stb_eqv _, fun _ he => by cases he⟩, ⟨stb_eqv _, fun _ he => by cases he⟩, ⟨stb_eqv _, fun _ he => by cases he⟩, ⟨stb_eqv _, fun _ he => by cases he⟩, ⟨stb_eqv _, fun _ he => by cases he⟩, ⟨stb_eqv _, fun _ he => by cases he⟩, ⟨stb_eqv _, fun _ he => by cases he⟩, ⟨stb_eqv _, fun _ he => by cases he⟩, ⟨stb_eqv _, fun _ he => by cases he⟩, ⟨stb_eqv _, fun _ he => by cases he⟩, ⟨stb_eqv _, fun _ he => by cases he⟩, ⟨stb_eqv _, fun _ he => by cases he⟩, ⟨stb_eqv _, fun _ he => by cases he⟩, ⟨stb_eqv _, fun _ he => by cases he⟩, ⟨stb_eqv _, fun _ he => by cases he⟩, ⟨stb_eqv _, fun _ he => by cases he⟩, ⟨stb_eqv _, fun _ he => by cases he⟩, trivial⟩ ⟨?_, ?_, ?_, ?_, ?_, ?_, ?_, ?_, ?_, ?_, ?_, ?_, ?_, ?_, ?_, ?_, ?_, trivial⟩ ?_
 ·intro wd hxE
  have hz_hxE := hxE.size
  show OpG _ _ _ _ _ _
  exact og_plain rfl (ox_val (ov_move rfl))
 ·intro wd hxE
  have hz_hxE := hxE.size
  show OpG _ _ _ _ _ _
  exact og_plain rfl (ox_val (ov_field0 (off := 3) fo45_1 rfl))
 ·intro wd hxE
  replace hb_g3 := hb_g3.ext hxE
  have hz_hxE := hxE.size
  rintro _ rfl
  show OpG _ _ _ _ _ _
  exact og_plain rfl (ox_val (ov_loadAt oc32 rfl hb_g3 rfl))
 ·intro wd hxE
  have hz_hxE := hxE.size
  rintro _ rfl
  show OpG _ _ _ _ _ _
  exact og_plain rfl (ox_val (ov_len Tryz.underlying32 rfl))
 ·intro wd hxE
  have hz_hxE := hxE.size
  rintro _ rfl
  rintro _ rfl
  show OpG _ _ _ _ _ _
  exact og_plain rfl (ox_F (by omega) (ov_neq rfl rfl))
 ·intro wd hxE
  have hz_hxE := hxE.size
  rintro _ rfl
  show OpG _ _ _ _ _ _
  exact og_plain rfl (ox_val (ov_move rfl))
 ·intro wd hxE
  have hz_hxE := hxE.size
  rintro _ rfl
  show OpG _ _ _ _ _ _
  exact og_on rfl rfl rfl (ox_val (ov_move rfl))
 ·intro wd hxE
  have hz_hxE := hxE.size
  rintro _ rfl
  show OpG _ _ _ _ _ _
  exact og_on rfl rfl rfl (ox_val (ov_field0 (off := 4) fo45_2 rfl))
 ·intro wd hxE
  replace hb_g3 := hb_g3.ext hxE
  have hz_hxE := hxE.size
  rintro _ rfl
  rintro _ rfl
  show OpG _ _ _ _ _ _
  exact og_on rfl rfl rfl (ox_val (ov_loadAt oc32 rfl hb_g3 rfl))
 ·intro wd hxE
  have hz_hxE := hxE.size
  rintro _ rfl
  rintro _ rfl
  show OpG _ _ _ _ _ _
  exact og_on rfl rfl rfl (ox_val (ov_len Tryz.underlying32 rfl))
 ·intro wd hxE
  have hz_hxE := hxE.size
  rintro _ rfl
  rintro _ rfl
  rintro _ rfl
  show OpG _ _ _ _ _ _
  exact og_on rfl rfl rfl (ox_F (by omega) (ov_neq rfl rfl))
 ·intro wd hxE
  have hz_hxE := hxE.size
  rintro _ rfl
  rintro _ rfl
  show OpG _ _ _ _ _ _
  exact og_plain rfl (ox_val (ov_pick_f rfl rfl))
 ·intro wd hxE
  have hz_hxE := hxE.size
  rintro _ rfl
  show OpG _ _ _ _ _ _
  exact og_plain rfl (ox_val (ov_move rfl))
 ·intro wd hxE
  have hz_hxE := hxE.size
  rintro _ rfl
  show OpG _ _ _ _ _ _
  exact og_on rfl rfl rfl (ox_val (ov_move rfl))
 ·intro wd hxE
  replace hc := hc.ext hxE
  have hz_hxE := hxE.size
  rintro _ rfl
  rintro _ rfl
  show OpG _ _ _ _ _ _
  refine og_on rfl rfl rfl (OpRun.mono (or_call0 cl25 rfl rfl (lcphase _ _ S a b s hc)) ?_)
  rintro v w3 ⟨rfl, he30⟩
  have hz_he30 := he30.size
  exact ⟨rfl, he30⟩
 ·intro wd hxE
  have hz_hxE := hxE.size
  rintro _ rfl
  show OpG _ _ _ _ _ _
  exact og_on rfl rfl rfl (ox_val (ov_field0 (off := 5) fo45_3 rfl))
 ·intro wd hxE
  replace hb_g3 := hb_g3.ext hxE
  have hz_hxE := hxE.size
  rintro _ rfl
  rintro _ rfl
  show OpG _ _ _ _ _ _
  exact og_on rfl rfl rfl (ox_val (ov_loadAt oc33 rfl hb_g3 rfl))
 ·intro wf2 hf2
  replace hc := hc.ext hf2
  replace hx3 := RdI.ext hx3 hf2
  replace hn3 := hn3.ext hf2
  replace hE := hE.tr hf2
  replace hb_g3 := hb_g3.ext hf2
  have hz_hf2 := hf2.size
  rintro _ rfl
  rintro _ rfl
  rintro _ rfl
  rintro _ rfl
  rintro _ rfl
  rintro _ rfl
  rintro _ rfl
  rintro _ rfl
  rintro _ rfl
  rintro _ rfl
  rintro _ rfl
  rintro _ rfl
  rintro _ rfl
  rintro _ rfl
  rintro _ rfl
  rintro _ rfl
  rintro _ rfl
  show WL _ _ _ [_, _] _ _ _
  refine wl_gval (ov_neq rfl rfl) rfl rfl rfl rfl rfl ?_
  refine wl_spell (d := 33) rfl (bf (by omega)) ?_
  refine wl_val (ov_pick_f rfl rfl) rfl rfl rfl ?_
  refine q_nil (k_then ?_)
  refine wc_cond_f rfl ?_
  refine q_skip (k_then (wc_seq (wc_regionL ?_)))
  refine vm rfl rfl ?_
  refine wl_step (or_call0 cl18 rfl rfl (lccmd _ _ S a b s hc)) rfl rfl rfl ?_
  rintro v w3 ⟨K37, ck37, V37, cv37, T37, ct37, rfl, hK37, hV37, hT37, he37⟩
  replace hc := hc.ext he37
  replace hx3 := RdI.ext hx3 he37
  replace hn3 := hn3.ext he37
  replace hE := hE.tr he37
  replace hb_g3 := hb_g3.ext he37
  have hz_he37 := he37.size
  refine vm rfl rfl ?_
  iterate 2 refine vx rfl rfl rfl ?_
  refine wl_step (or_alloc (cs := [(.int .i64 0), (.string (strB [])), (.slice none 0 0), (.slice none 0 0), (.slice none 0 0), (.int .u64 0), (.int .u64 0), (.string (strB [])), (.string (strB [])), (.string (strB []))]) ze39 rfl) rfl rfl rfl ?_
  rintro v w4 ⟨g7, rfl, hb_g7, he7, hl7, hu7⟩
  replace hc := hc.ext he7
  replace hx3 := RdI.ext hx3 he7
  replace hn3 := hn3.ext he7
  replace hE := hE.tr he7
  replace hb_g3 := hb_g3.ext he7
  replace hK37 := hK37.ext he7
  replace hV37 := hV37.ext he7
  replace hT37 := hT37.ext he7
  have hz_he7 := he7.size
  refine wl_step0 (or_storeBlk (vs := [(.int .i64 (cnCmd s).op), (.string (strB (cnCmd s).key)), (.slice K37 (cnCmd s).keys.length ck37), (.slice V37 (cnCmd s).value.length cv37), (.slice T37 (cnCmd s).tags.length ct37), (.int .u64 (↑(cnCmd s).life : Int)), (.int .u64 (↑(cnCmd s).ver : Int)), (.string (strB (cnCmd s).tag)), (.string (strB (cnCmd s).pre)), (.string (strB (cnCmd s).child))]) sz39 rfl rfl (by simp [Value.oneCell']) hb_g7 rfl) rfl rfl ?_
  rintro _ w5 ⟨hN5, hg5⟩
  have hz_hg5 := hg5.size
  replace hc := hc.grf hg5 hB_hc (by omega)
  replace hx3 := RdI.gr hx3 hg5 (fun _ e => by cases e; omega)
  replace hn3 := hn3.gr hg5 (fun _ e => by cases e; omega)
  replace hE := hE.gr hg5 (fun _ e => by cases e; omega)
  replace hb_g3 := hb_g3.gr hg5 (by intro e; cases e; omega)
  replace hK37 := hK37.gr hg5 (fun _ e => by cases e; omega)
  replace hV37 := hV37.gr hg5 (fun _ e => by cases e; omega)
  replace hT37 := hT37.gr hg5 (fun _ e => by cases e; omega)
  replace hb_g7 := hN5
  refine va rfl rfl ?_
  refine q_nil (k_then (wc_seq (wc_seq (wc_regionL ?_))))
  refine wl_val (ov_field0 (off := 5) fo45_3 rfl) rfl rfl rfl ?_
  refine wl_val (ov_loadAt oc33 rfl hb_g3 rfl) rfl rfl rfl ?_
  refine ve rfl rfl rfl ?_
  refine wl_spell (d := 42) rfl (bf (by omega)) ?_
  refine vm rfl rfl ?_
  iterate 3 refine wl_gskip rfl rfl rfl rfl rfl rfl ?_
  iterate 5 refine wl_gskipU rfl rfl rfl rfl rfl ?_
  refine wl_gskip rfl rfl rfl rfl rfl rfl ?_
  refine wl_val (ov_pick_f rfl rfl) rfl rfl rfl ?_
  refine vm rfl rfl ?_
  refine wl_gval (ov_field0 (off := 5) fo45_3 rfl) rfl rfl rfl rfl rfl ?_
  refine wl_gval (ov_loadAt oc33 rfl hb_g3 rfl) rfl rfl rfl rfl rfl ?_
  refine wl_gval (ov_neq rfl rfl) rfl rfl rfl rfl rfl ?_
  refine wl_spell (d := 57) rfl (bt (by omega)) ?_
  iterate 2 refine wl_gval (ov_move rfl) rfl rfl rfl rfl rfl ?_
  refine wl_gval (ov_neq rfl rfl) rfl rfl rfl rfl rfl ?_
  refine wl_spell (d := 60) rfl (bf (by rw [hi2]; exact fun q => q rfl)) ?_
  refine wl_gval (ov_move rfl) rfl rfl rfl rfl rfl ?_
  refine wl_gval (ov_loadBlk (cs := [(.int .i64 (cnCmd s).op), (.string (strB (cnCmd s).key)), (.slice K37 (cnCmd s).keys.length ck37), (.slice V37 (cnCmd s).value.length cv37), (.slice T37 (cnCmd s).tags.length ct37), (.int .u64 (↑(cnCmd s).life : Int)), (.int .u64 (↑(cnCmd s).ver : Int)), (.string (strB (cnCmd s).tag)), (.string (strB (cnCmd s).pre)), (.string (strB (cnCmd s).child))]) ag39_10 rfl hb_g7) rfl rfl rfl rfl rfl ?_
  refine wl_gval (ov_build (cs := [(.int .i64 0), (.string (strB [])), (.slice none 0 0), (.slice none 0 0), (.slice none 0 0), (.int .u64 0), (.int .u64 0), (.string (strB [])), (.string (strB [])), (.string (strB []))]) ze39 pl39 rfl rfl) rfl rfl rfl rfl rfl ?_
  refine wl_gstep (or_call0 cl22 rfl rfl (requal_any _ (cnCmd s) _ _ K37 ck37 V37 cv37 T37 ct37 hK37 hV37 hT37 (⟨0, [], [], [], [], 0, 0, [], [], []⟩ : Cmd) 0 0 none 0 none 0 none 0 (Rd.nil _ 0 _ _ _ _ (Nat.zero_le _)) (Rd.nil _ 0 _ _ _ _ (Nat.zero_le _)) (Rd.nil _ 0 _ _ _ _ (Nat.zero_le _)))) rfl rfl rfl rfl rfl ?_
  rintro v w6 ⟨rfl, he64⟩
  replace hc := hc.ext he64
  replace hx3 := RdI.ext hx3 he64
  replace hn3 := hn3.ext he64
  replace hE := hE.tr he64
  replace hb_g3 := hb_g3.ext he64
  have hz_he64 := he64.size
  refine wl_spell (d := 64) rfl (bt (hcm)) ?_
  refine wl_gval (ov_not (b := true) rfl) rfl rfl rfl rfl rfl ?_
  refine wl_gval (ov_pick_f rfl rfl) rfl rfl rfl rfl rfl ?_
  refine wl_gval (ov_pick_t rfl rfl) rfl rfl rfl rfl rfl ?_
  refine wl_val (ov_pick_f rfl rfl) rfl rfl rfl ?_
  refine q_nil (k_then ?_)
  refine wc_cond_f rfl ?_
  refine q_skip (k_then (wc_seq (wc_regionL ?_)))
  refine vm rfl rfl ?_
  refine wl_step (or_call0 cl19 rfl rfl (lcrsp _ _ S a b s hc)) rfl rfl rfl ?_
  rintro v w7 ⟨X71, cx71, N71, cn71, xs71, rfl, hv71, hx71, hn71, he71⟩
  replace hx3 := RdI.ext hx3 he71
  replace hn3 := hn3.ext he71
  replace hE := hE.tr he71
  replace hb_g3 := hb_g3.ext he71
  have hz_he71 := he71.size
  refine vm rfl rfl ?_
  iterate 2 refine vx rfl rfl rfl ?_
  refine wl_step (or_alloc (cs := [(.int .i64 0), (.int .i64 0), (.slice none 0 0), (.int .u64 0), (.int .i64 0), (.slice none 0 0)]) ze43 rfl) rfl rfl rfl ?_
  rintro v w8 ⟨g9, rfl, hb_g9, he9, hl9, hu9⟩
  replace hx3 := RdI.ext hx3 he9
  replace hn3 := hn3.ext he9
  replace hE := hE.tr he9
  replace hb_g3 := hb_g3.ext he9
  replace hx71 := RdI.ext hx71 he9
  replace hn71 := hn71.ext he9
  have hz_he9 := he9.size
  refine wl_step0 (or_storeBlk (vs := [(.int .i64 (cnRsp s).op), (.int .i64 (cnRsp s).err), (.slice X71 (cnRsp s).items.length cx71), (.int .u64 (↑(cnRsp s).ver : Int)), (.int .i64 (cnRsp s).count), (.slice N71 (cnRsp s).nums.length cn71)]) sz43 rfl rfl (by simp [Value.oneCell']) hb_g9 rfl) rfl rfl ?_
  rintro _ w9 ⟨hN9, hg9⟩
  have hz_hg9 := hg9.size
  replace hx3 := RdI.gr hx3 hg9 (fun _ e => by cases e; omega)
  replace hn3 := hn3.gr hg9 (fun _ e => by cases e; omega)
  replace hE := hE.gr hg9 (fun _ e => by cases e; omega)
  replace hb_g3 := hb_g3.gr hg9 (by intro e; cases e; omega)
  replace hx71 := RdI.gr hx71 hg9 (fun _ e => by cases e; omega)
  replace hn71 := hn71.gr hg9 (fun _ e => by cases e; omega)
  replace hb_g9 := hN9
  refine va rfl rfl ?_
  refine q_nil (k_then (wc_seq (wc_seq (wc_regionL ?_))))
  refine wl_val (ov_field0 (off := 5) fo45_3 rfl) rfl rfl rfl ?_
  refine wl_val (ov_loadAt oc33 rfl hb_g3 rfl) rfl rfl rfl ?_
  refine ve rfl rfl rfl ?_
  refine wl_spell (d := 76) rfl (bt (by omega)) ?_
  refine q_nil (k_then ?_)
  refine wc_cond_t rfl ?_
  refine wc_seq (wc_regionL ?_)
  refine vm rfl rfl ?_
  refine ve rfl rfl rfl ?_
  refine wl_spell (d := 78) rfl (bt (by rw [hi3]; rfl)) ?_
  refine vm rfl rfl ?_
  refine wl_gval (ov_loadBlk (cs := [(.int .i64 (cnRsp s).op), (.int .i64 (cnRsp s).err), (.slice X71 (cnRsp s).items.length cx71), (.int .u64 (↑(cnRsp s).ver : Int)), (.int .i64 (cnRsp s).count), (.slice N71 (cnRsp s).nums.length cn71)]) ag43_6 rfl hb_g9) rfl rfl rfl rfl rfl ?_
  refine wl_gval (ov_field0 (off := 17) fo45_6 rfl) rfl rfl rfl rfl rfl ?_
  refine wl_gval (ov_loadPart (vs := [(.int .i64 rr.op), (.int .i64 rr.err), (.slice X3 rr.items.length cx3), (.int .u64 (↑rr.ver : Int)), (.int .i64 rr.count), (.slice N3 rr.nums.length cn3)]) ag43_6 rfl hb_g3 rfl) rfl rfl rfl rfl rfl ?_
  refine wl_gstep (or_call0 cl23 rfl rfl (req8_any _ (cnRsp s) xs71 hv71 _ _ X71 cx71 N71 cn71 hx71 hn71 rr xs3 hv3 _ _ X3 cx3 N3 cn3 hx3 hn3)) rfl rfl rfl rfl rfl ?_
  rintro v w10 ⟨rfl, he83⟩
  replace hE := hE.tr he83
  have hz_he83 := he83.size
  refine wl_spell (d := 83) rfl (bt (hr0)) ?_
  refine wl_val (ov_pick_t rfl rfl) rfl rfl rfl ?_
  refine va rfl rfl ?_
  refine q_nil (k_then (q_ret (k_thenR ?_)))
  refine e_ret rfl rfl ?_
  exact ⟨rfl, hE⟩
theorem looks28_1 (w : World) (g : Nat) (S : List Nat) (a b : Nat) (s : Cn) (hc : Cnn w g S a b s) (ki ko kp : Int) (rin : List UInt8) (Ai : Option Addr) (ai : Nat) (rout : List UInt8) (Ao : Option Addr) (ao : Nat) (ph : Nat) (en : Bool) (rcm : Cmd) (lo2 hi2 : Nat) (K2 : Option Addr) (ck2 : Nat) (V2 : Option Addr) (cv2 : Nat) (T2 : Option Addr) (ct2 : Nat) (hK2 : RdS w lo2 hi2 K2 ck2 rcm.keys) (hV2 : RdB w lo2 hi2 V2 cv2 rcm.value) (hT2 : RdS w lo2 hi2 T2 ct2 rcm.tags) (rr : Rsp) (xs3 : List IT) (hv3 : vals xs3 = rr.items) (lo3 hi3 : Nat) (X3 : Option Addr) (cx3 : Nat) (N3 : Option Addr) (cn3 : Nat) (hx3 : RdI w lo3 hi3 X3 cx3 xs3) (hn3 : RdN w lo3 hi3 N3 cn3 rr.nums) (e1 : dheld s.cl s.held = rin.length) (e2 : s.out.length = rout.length) (e3 : s.ph = ph) (e4 : s.ph = 2 → s.cmd = rcm) (e5 : s.ph = 3 → s.ans = rr) (h : ¬ ph = 2) (h3 : ¬ ph = 3) :
  Fn Tryz.prog 14 #[(.pointer (some ⟨g, 0, none⟩)), (.agg #[(.int .i64 ki), (.int .i64 ko), (.int .i64 kp), (.slice Ai rin.length ai), (.slice Ao rout.length ao), (.int .i64 (↑ph : Int)), (.bool en), (.int .i64 rcm.op), (.string (strB rcm.key)), (.slice K2 rcm.keys.length ck2), (.slice V2 rcm.value.length cv2), (.slice T2 rcm.tags.length ct2), (.int .u64 (↑rcm.life : Int)), (.int .u64 (↑rcm.ver : Int)), (.string (strB rcm.tag)), (.string (strB rcm.pre)), (.string (strB rcm.child)), (.int .i64 rr.op), (.int .i64 rr.err), (.slice X3 rr.items.length cx3), (.int .u64 (↑rr.ver : Int)), (.int .i64 rr.count), (.slice N3 rr.nums.length cn3)])] w (fun v w' => v = .bool true ∧ Ext w w')  := by
 have hE := ext_refl w
 have hB_hc : (∀ x ∈ S, x < w.heap.size) ∧ b ≤ w.heap.size := ⟨fun x hx => (hc.bnd.1 x hx).1, hc.bnd.2⟩
 have hi2 : cnIn s 2 = 8 := if_neg (by omega)
 have hcm : cnCmd s = cmd0 0 := if_neg (by omega)
 have hi3 : cnIn s 3 = 8 := if_neg (by omega)
 have hr0 : cnRsp s = rspO 0 0 := if_neg (by omega)
 refine fn_enter (args := [(.pointer (some ⟨g, 0, none⟩)), (.agg #[(.int .i64 ki), (.int .i64 ko), (.int .i64 kp), (.slice Ai rin.length ai), (.slice Ao rout.length ao), (.int .i64 (↑ph : Int)), (.bool en), (.int .i64 rcm.op), (.string (strB rcm.key)), (.slice K2 rcm.keys.length ck2), (.slice V2 rcm.value.length cv2), (.slice T2 rcm.tags.length ct2), (.int .u64 (↑rcm.life : Int)), (.int .u64 (↑rcm.ver : Int)), (.string (strB rcm.tag)), (.string (strB rcm.pre)), (.string (strB rcm.child)), (.int .i64 rr.op), (.int .i64 rr.err), (.slice X3 rr.items.length cx3), (.int .u64 (↑rr.ver : Int)), (.int .i64 rr.count), (.slice N3 rr.nums.length cn3)])]) Tryz.func14 rfl rfl rfl ?_
 show WC _ _ _ _ [(0, (.pointer (some ⟨g, 0, none⟩))), (1, (.agg #[(.int .i64 ki), (.int .i64 ko), (.int .i64 kp), (.slice Ai rin.length ai), (.slice Ao rout.length ao), (.int .i64 (↑ph : Int)), (.bool en), (.int .i64 rcm.op), (.string (strB rcm.key)), (.slice K2 rcm.keys.length ck2), (.slice V2 rcm.value.length cv2), (.slice T2 rcm.tags.length ct2), (.int .u64 (↑rcm.life : Int)), (.int .u64 (↑rcm.ver : Int)), (.string (strB rcm.tag)), (.string (strB rcm.pre)), (.string (strB rcm.child)), (.int .i64 rr.op), (.int .i64 rr.err), (.slice X3 rr.items.length cx3), (.int .u64 (↑rr.ver : Int)), (.int .i64 rr.count), (.slice N3 rr.nums.length cn3)]))] _
 refine wc_seq (wc_regionL ?_)
 refine wl_step (or_box (cs := [(.int .i64 ki), (.int .i64 ko), (.int .i64 kp), (.slice Ai rin.length ai), (.slice Ao rout.length ao), (.int .i64 (↑ph : Int)), (.bool en), (.int .i64 rcm.op), (.string (strB rcm.key)), (.slice K2 rcm.keys.length ck2), (.slice V2 rcm.value.length cv2), (.slice T2 rcm.tags.length ct2), (.int .u64 (↑rcm.life : Int)), (.int .u64 (↑rcm.ver : Int)), (.string (strB rcm.tag)), (.string (strB rcm.pre)), (.string (strB rcm.child)), (.int .i64 rr.op), (.int .i64 rr.err), (.slice X3 rr.items.length cx3), (.int .u64 (↑rr.ver : Int)), (.int .i64 rr.count), (.slice N3 rr.nums.length cn3)]) rfl rfl) rfl rfl rfl ?_
 rintro v w1 ⟨g3, rfl, hb_g3, he3, hl3, hu3⟩
 replace hc := hc.ext he3
 replace hE := hE.tr he3
 have hz_he3 := he3.size
 refine va rfl rfl ?_
 refine q_nil (k_then (wc_seq (wc_regionL ?_)))
 refine vm rfl rfl ?_
 refine wl_step (or_call0 cl21 rfl rfl (lcsizes _ _ S a b s hc)) rfl rfl rfl ?_
 rintro v w2 ⟨rfl, he13⟩
 replace hc := hc.ext he13
 replace hE := hE.tr he13
 replace hb_g3 := hb_g3.ext he13
 have hz_he13 := he13.size
 refine vm rfl rfl ?_
 iterate 2 refine vx rfl rfl rfl ?_
 iterate 2 refine va rfl rfl ?_
 refine q_nil (k_then (wc_seq (wc_seq ?_)))
 refine wc_draw mixed 17 [(16, eqv (.int .i64 (↑(dheld s.cl s.held) : Int))), (17, eqv (.pointer (some ⟨g3, 3, none⟩))), (18, eqv (.slice Ai rin.length ai)), (19, eqv (.int .i64 (↑rin.length : Int))), (20, eqv (.bool false)), (21, eqv (.bool false)), (22, eqv (.int .i64 (↑s.out.length : Int))), (23, eqv (.pointer (some ⟨g3, 4, none⟩))), (24, eqv (.slice Ao rout.length ao)), (25, eqv (.int .i64 (↑rout.length : Int))), (26, eqv (.bool false)), (27, eqv (.bool false)), (28, eqv (.bool false)), (29, eqv (.pointer (some ⟨g, 0, none⟩))), (30, eqv (.int .i64 (↑s.ph : Int))), (31, eqv (.pointer (some ⟨g3, 5, none⟩))), (32, eqv (.int .i64 (↑ph : Int)))] [[], [], [1], [2], [0, 3], [4], [5], [5], [5, 7], [5, 8], [5, 6, 9], [5, 10], [11], [12], [12, 13], [12], [12, 15]] _ [] [] (fun _ _ h => h) trivial (by kernel_rfl) rfl ⟨⟨stb_eqv _, fun _ he => by cases he⟩, ⟨stb_eqv _, fun _ he => by cases he⟩, ⟨stb_eqv _, fun _ he => by cases he⟩, ⟨stb_eqv _, fun _ he => by cases he⟩, ⟨stb_eqv _, fun _ he => by cases he⟩, ⟨stb_eqv _, fun _ he => by cases he⟩, ⟨stb_eqv _, fun _ he => by cases he⟩, ⟨stb_eqv _, fun _ he => by cases he⟩, ⟨stb_eqv _, fun _ he => by cases he⟩, ⟨stb_eqv _, fun _ he => by cases he⟩, ⟨stb_eqv _, fun _ he => by cases he⟩, ⟨stb_eqv _, fun _ he => by cases he⟩, ⟨stb_eqv _, fun _ he => by cases he⟩, ⟨stb_eqv _, fun _ he => by cases he⟩, ⟨stb_eqv _, fun _ he => by cases he⟩, ⟨stb_eqv _, fun _ he => by cases he⟩, ⟨stb_eqv _, fun _ he => by cases he⟩, trivial⟩ ⟨?_, ?_, ?_, ?_, ?_, ?_, ?_, ?_, ?_, ?_, ?_, ?_, ?_, ?_, ?_, ?_, ?_, trivial⟩ ?_
 ·intro wd hxE
  have hz_hxE := hxE.size
  show OpG _ _ _ _ _ _
  exact og_plain rfl (ox_val (ov_move rfl))
 ·intro wd hxE
  have hz_hxE := hxE.size
  show OpG _ _ _ _ _ _
  exact og_plain rfl (ox_val (ov_field0 (off := 3) fo45_1 rfl))
 ·intro wd hxE
  replace hb_g3 := hb_g3.ext hxE
  have hz_hxE := hxE.size
  rintro _ rfl
  show OpG _ _ _ _ _ _
  exact og_plain rfl (ox_val (ov_loadAt oc32 rfl hb_g3 rfl))
 ·intro wd hxE
  have hz_hxE := hxE.size
  rintro _ rfl
  show OpG _ _ _ _ _ _
  exact og_plain rfl (ox_val (ov_len Tryz.underlying32 rfl))
 ·intro wd hxE
  have hz_hxE := hxE.size
  rintro _ rfl
  rintro _ rfl
  show OpG _ _ _ _ _ _
  exact og_plain rfl (ox_F (by omega) (ov_neq rfl rfl))
 ·intro wd hxE
  have hz_hxE := hxE.size
  rintro _ rfl
  show OpG _ _ _ _ _ _
  exact og_plain rfl (ox_val (ov_move rfl))
 ·intro wd hxE
  have hz_hxE := hxE.size
  rintro _ rfl
  show OpG _ _ _ _ _ _
  exact og_on rfl rfl rfl (ox_val (ov_move rfl))
 ·intro wd hxE
  have hz_hxE := hxE.size
  rintro _ rfl
  show OpG _ _ _ _ _ _
  exact og_on rfl rfl rfl (ox_val (ov_field0 (off := 4) fo45_2 rfl))
 ·intro wd hxE
  replace hb_g3 := hb_g3.ext hxE
  have hz_hxE := hxE.size
  rintro _ rfl
  rintro _ rfl
  show OpG _ _ _ _ _ _
  exact og_on rfl rfl rfl (ox_val (ov_loadAt oc32 rfl hb_g3 rfl))
 ·intro wd hxE
  have hz_hxE := hxE.size
  rintro _ rfl
  rintro _ rfl
  show OpG _ _ _ _ _ _
  exact og_on rfl rfl rfl (ox_val (ov_len Tryz.underlying32 rfl))
 ·intro wd hxE
  have hz_hxE := hxE.size
  rintro _ rfl
  rintro _ rfl
  rintro _ rfl
  show OpG _ _ _ _ _ _
  exact og_on rfl rfl rfl (ox_F (by omega) (ov_neq rfl rfl))
 ·intro wd hxE
  have hz_hxE := hxE.size
  rintro _ rfl
  rintro _ rfl
  show OpG _ _ _ _ _ _
  exact og_plain rfl (ox_val (ov_pick_f rfl rfl))
 ·intro wd hxE
  have hz_hxE := hxE.size
  rintro _ rfl
  show OpG _ _ _ _ _ _
  exact og_plain rfl (ox_val (ov_move rfl))
 ·intro wd hxE
  have hz_hxE := hxE.size
  rintro _ rfl
  show OpG _ _ _ _ _ _
  exact og_on rfl rfl rfl (ox_val (ov_move rfl))
 ·intro wd hxE
  replace hc := hc.ext hxE
  have hz_hxE := hxE.size
  rintro _ rfl
  rintro _ rfl
  show OpG _ _ _ _ _ _
  refine og_on rfl rfl rfl (OpRun.mono (or_call0 cl25 rfl rfl (lcphase _ _ S a b s hc)) ?_)
  rintro v w3 ⟨rfl, he30⟩
  have hz_he30 := he30.size
  exact ⟨rfl, he30⟩
 ·intro wd hxE
  have hz_hxE := hxE.size
  rintro _ rfl
  show OpG _ _ _ _ _ _
  exact og_on rfl rfl rfl (ox_val (ov_field0 (off := 5) fo45_3 rfl))
 ·intro wd hxE
  replace hb_g3 := hb_g3.ext hxE
  have hz_hxE := hxE.size
  rintro _ rfl
  rintro _ rfl
  show OpG _ _ _ _ _ _
  exact og_on rfl rfl rfl (ox_val (ov_loadAt oc33 rfl hb_g3 rfl))
 ·intro wf2 hf2
  replace hc := hc.ext hf2
  replace hE := hE.tr hf2
  replace hb_g3 := hb_g3.ext hf2
  have hz_hf2 := hf2.size
  rintro _ rfl
  rintro _ rfl
  rintro _ rfl
  rintro _ rfl
  rintro _ rfl
  rintro _ rfl
  rintro _ rfl
  rintro _ rfl
  rintro _ rfl
  rintro _ rfl
  rintro _ rfl
  rintro _ rfl
  rintro _ rfl
  rintro _ rfl
  rintro _ rfl
  rintro _ rfl
  rintro _ rfl
  show WL _ _ _ [_, _] _ _ _
  refine wl_gval (ov_neq rfl rfl) rfl rfl rfl rfl rfl ?_
  refine wl_spell (d := 33) rfl (bf (by omega)) ?_
  refine wl_val (ov_pick_f rfl rfl) rfl rfl rfl ?_
  refine q_nil (k_then ?_)
  refine wc_cond_f rfl ?_
  refine q_skip (k_then (wc_seq (wc_regionL ?_)))
  refine vm rfl rfl ?_
  refine wl_step (or_call0 cl18 rfl rfl (lccmd _ _ S a b s hc)) rfl rfl rfl ?_
  rintro v w3 ⟨K37, ck37, V37, cv37, T37, ct37, rfl, hK37, hV37, hT37, he37⟩
  replace hc := hc.ext he37
  replace hE := hE.tr he37
  replace hb_g3 := hb_g3.ext he37
  have hz_he37 := he37.size
  refine vm rfl rfl ?_
  iterate 2 refine vx rfl rfl rfl ?_
  refine wl_step (or_alloc (cs := [(.int .i64 0), (.string (strB [])), (.slice none 0 0), (.slice none 0 0), (.slice none 0 0), (.int .u64 0), (.int .u64 0), (.string (strB [])), (.string (strB [])), (.string (strB []))]) ze39 rfl) rfl rfl rfl ?_
  rintro v w4 ⟨g7, rfl, hb_g7, he7, hl7, hu7⟩
  replace hc := hc.ext he7
  replace hE := hE.tr he7
  replace hb_g3 := hb_g3.ext he7
  replace hK37 := hK37.ext he7
  replace hV37 := hV37.ext he7
  replace hT37 := hT37.ext he7
  have hz_he7 := he7.size
  refine wl_step0 (or_storeBlk (vs := [(.int .i64 (cnCmd s).op), (.string (strB (cnCmd s).key)), (.slice K37 (cnCmd s).keys.length ck37), (.slice V37 (cnCmd s).value.length cv37), (.slice T37 (cnCmd s).tags.length ct37), (.int .u64 (↑(cnCmd s).life : Int)), (.int .u64 (↑(cnCmd s).ver : Int)), (.string (strB (cnCmd s).tag)), (.string (strB (cnCmd s).pre)), (.string (strB (cnCmd s).child))]) sz39 rfl rfl (by simp [Value.oneCell']) hb_g7 rfl) rfl rfl ?_
  rintro _ w5 ⟨hN5, hg5⟩
  have hz_hg5 := hg5.size
  replace hc := hc.grf hg5 hB_hc (by omega)
  replace hE := hE.gr hg5 (fun _ e => by cases e; omega)
  replace hb_g3 := hb_g3.gr hg5 (by intro e; cases e; omega)
  replace hK37 := hK37.gr hg5 (fun _ e => by cases e; omega)
  replace hV37 := hV37.gr hg5 (fun _ e => by cases e; omega)
  replace hT37 := hT37.gr hg5 (fun _ e => by cases e; omega)
  replace hb_g7 := hN5
  refine va rfl rfl ?_
  refine q_nil (k_then (wc_seq (wc_seq (wc_regionL ?_))))
  refine wl_val (ov_field0 (off := 5) fo45_3 rfl) rfl rfl rfl ?_
  refine wl_val (ov_loadAt oc33 rfl hb_g3 rfl) rfl rfl rfl ?_
  refine ve rfl rfl rfl ?_
  refine wl_spell (d := 42) rfl (bf (by omega)) ?_
  refine vm rfl rfl ?_
  iterate 3 refine wl_gskip rfl rfl rfl rfl rfl rfl ?_
  iterate 5 refine wl_gskipU rfl rfl rfl rfl rfl ?_
  refine wl_gskip rfl rfl rfl rfl rfl rfl ?_
  refine wl_val (ov_pick_f rfl rfl) rfl rfl rfl ?_
  refine vm rfl rfl ?_
  refine wl_gval (ov_field0 (off := 5) fo45_3 rfl) rfl rfl rfl rfl rfl ?_
  refine wl_gval (ov_loadAt oc33 rfl hb_g3 rfl) rfl rfl rfl rfl rfl ?_
  refine wl_gval (ov_neq rfl rfl) rfl rfl rfl rfl rfl ?_
  refine wl_spell (d := 57) rfl (bt (by omega)) ?_
  iterate 2 refine wl_gval (ov_move rfl) rfl rfl rfl rfl rfl ?_
  refine wl_gval (ov_neq rfl rfl) rfl rfl rfl rfl rfl ?_
  refine wl_spell (d := 60) rfl (bf (by rw [hi2]; exact fun q => q rfl)) ?_
  refine wl_gval (ov_move rfl) rfl rfl rfl rfl rfl ?_
  refine wl_gval (ov_loadBlk (cs := [(.int .i64 (cnCmd s).op), (.string (strB (cnCmd s).key)), (.slice K37 (cnCmd s).keys.length ck37), (.slice V37 (cnCmd s).value.length cv37), (.slice T37 (cnCmd s).tags.length ct37), (.int .u64 (↑(cnCmd s).life : Int)), (.int .u64 (↑(cnCmd s).ver : Int)), (.string (strB (cnCmd s).tag)), (.string (strB (cnCmd s).pre)), (.string (strB (cnCmd s).child))]) ag39_10 rfl hb_g7) rfl rfl rfl rfl rfl ?_
  refine wl_gval (ov_build (cs := [(.int .i64 0), (.string (strB [])), (.slice none 0 0), (.slice none 0 0), (.slice none 0 0), (.int .u64 0), (.int .u64 0), (.string (strB [])), (.string (strB [])), (.string (strB []))]) ze39 pl39 rfl rfl) rfl rfl rfl rfl rfl ?_
  refine wl_gstep (or_call0 cl22 rfl rfl (requal_any _ (cnCmd s) _ _ K37 ck37 V37 cv37 T37 ct37 hK37 hV37 hT37 (⟨0, [], [], [], [], 0, 0, [], [], []⟩ : Cmd) 0 0 none 0 none 0 none 0 (Rd.nil _ 0 _ _ _ _ (Nat.zero_le _)) (Rd.nil _ 0 _ _ _ _ (Nat.zero_le _)) (Rd.nil _ 0 _ _ _ _ (Nat.zero_le _)))) rfl rfl rfl rfl rfl ?_
  rintro v w6 ⟨rfl, he64⟩
  replace hc := hc.ext he64
  replace hE := hE.tr he64
  replace hb_g3 := hb_g3.ext he64
  have hz_he64 := he64.size
  refine wl_spell (d := 64) rfl (bt (hcm)) ?_
  refine wl_gval (ov_not (b := true) rfl) rfl rfl rfl rfl rfl ?_
  refine wl_gval (ov_pick_f rfl rfl) rfl rfl rfl rfl rfl ?_
  refine wl_gval (ov_pick_t rfl rfl) rfl rfl rfl rfl rfl ?_
  refine wl_val (ov_pick_f rfl rfl) rfl rfl rfl ?_
  refine q_nil (k_then ?_)
  refine wc_cond_f rfl ?_
  refine q_skip (k_then (wc_seq (wc_regionL ?_)))
  refine vm rfl rfl ?_
  refine wl_step (or_call0 cl19 rfl rfl (lcrsp _ _ S a b s hc)) rfl rfl rfl ?_
  rintro v w7 ⟨X71, cx71, N71, cn71, xs71, rfl, hv71, hx71, hn71, he71⟩
  replace hE := hE.tr he71
  replace hb_g3 := hb_g3.ext he71
  have hz_he71 := he71.size
  refine vm rfl rfl ?_
  iterate 2 refine vx rfl rfl rfl ?_
  refine wl_step (or_alloc (cs := [(.int .i64 0), (.int .i64 0), (.slice none 0 0), (.int .u64 0), (.int .i64 0), (.slice none 0 0)]) ze43 rfl) rfl rfl rfl ?_
  rintro v w8 ⟨g9, rfl, hb_g9, he9, hl9, hu9⟩
  replace hE := hE.tr he9
  replace hb_g3 := hb_g3.ext he9
  replace hx71 := RdI.ext hx71 he9
  replace hn71 := hn71.ext he9
  have hz_he9 := he9.size
  refine wl_step0 (or_storeBlk (vs := [(.int .i64 (cnRsp s).op), (.int .i64 (cnRsp s).err), (.slice X71 (cnRsp s).items.length cx71), (.int .u64 (↑(cnRsp s).ver : Int)), (.int .i64 (cnRsp s).count), (.slice N71 (cnRsp s).nums.length cn71)]) sz43 rfl rfl (by simp [Value.oneCell']) hb_g9 rfl) rfl rfl ?_
  rintro _ w9 ⟨hN9, hg9⟩
  have hz_hg9 := hg9.size
  replace hE := hE.gr hg9 (fun _ e => by cases e; omega)
  replace hb_g3 := hb_g3.gr hg9 (by intro e; cases e; omega)
  replace hx71 := RdI.gr hx71 hg9 (fun _ e => by cases e; omega)
  replace hn71 := hn71.gr hg9 (fun _ e => by cases e; omega)
  replace hb_g9 := hN9
  refine va rfl rfl ?_
  refine q_nil (k_then (wc_seq (wc_seq (wc_regionL ?_))))
  refine wl_val (ov_field0 (off := 5) fo45_3 rfl) rfl rfl rfl ?_
  refine wl_val (ov_loadAt oc33 rfl hb_g3 rfl) rfl rfl rfl ?_
  refine ve rfl rfl rfl ?_
  refine wl_spell (d := 76) rfl (bf (by omega)) ?_
  refine q_nil (k_then ?_)
  refine wc_cond_f rfl ?_
  refine q_skip (k_then (wc_seq (wc_regionL ?_)))
  refine vm rfl rfl ?_
  refine ve rfl rfl rfl ?_
  refine wl_spell (d := 86) rfl (bt (by rw [hi3]; rfl)) ?_
  refine vm rfl rfl ?_
  refine wl_gval (ov_loadBlk (cs := [(.int .i64 (cnRsp s).op), (.int .i64 (cnRsp s).err), (.slice X71 (cnRsp s).items.length cx71), (.int .u64 (↑(cnRsp s).ver : Int)), (.int .i64 (cnRsp s).count), (.slice N71 (cnRsp s).nums.length cn71)]) ag43_6 rfl hb_g9) rfl rfl rfl rfl rfl ?_
  refine wl_gval (ov_build (cs := [(.int .i64 0), (.int .i64 0), (.slice none 0 0), (.int .u64 0), (.int .i64 0), (.slice none 0 0)]) ze43 pl43 rfl rfl) rfl rfl rfl rfl rfl ?_
  refine wl_gstep (or_call0 cl23 rfl rfl (req8_any _ (cnRsp s) xs71 hv71 _ _ X71 cx71 N71 cn71 hx71 hn71 (rspO 0 0) [] rfl 0 0 none 0 none 0 (RdI.nil _ 0 0) (Rd.nil _ _ _ _ _ _ (Nat.zero_le _)))) rfl rfl rfl rfl rfl ?_
  rintro v w10 ⟨rfl, he90⟩
  replace hE := hE.tr he90
  have hz_he90 := he90.size
  refine wl_spell (d := 90) rfl (bt (hr0)) ?_
  refine wl_val (ov_pick_t rfl rfl) rfl rfl rfl ?_
  refine va rfl rfl ?_
  refine q_nil (k_then (q_ret ?_))
  refine e_ret rfl rfl ?_
  exact ⟨rfl, hE⟩
theorem looks28_any (w : World) (g : Nat) (S : List Nat) (a b : Nat) (s : Cn) (hc : Cnn w g S a b s) (ki ko kp : Int) (rin : List UInt8) (Ai : Option Addr) (ai : Nat) (rout : List UInt8) (Ao : Option Addr) (ao : Nat) (ph : Nat) (en : Bool) (rcm : Cmd) (lo2 hi2 : Nat) (K2 : Option Addr) (ck2 : Nat) (V2 : Option Addr) (cv2 : Nat) (T2 : Option Addr) (ct2 : Nat) (hK2 : RdS w lo2 hi2 K2 ck2 rcm.keys) (hV2 : RdB w lo2 hi2 V2 cv2 rcm.value) (hT2 : RdS w lo2 hi2 T2 ct2 rcm.tags) (rr : Rsp) (xs3 : List IT) (hv3 : vals xs3 = rr.items) (lo3 hi3 : Nat) (X3 : Option Addr) (cx3 : Nat) (N3 : Option Addr) (cn3 : Nat) (hx3 : RdI w lo3 hi3 X3 cx3 xs3) (hn3 : RdN w lo3 hi3 N3 cn3 rr.nums) (e1 : dheld s.cl s.held = rin.length) (e2 : s.out.length = rout.length) (e3 : s.ph = ph) (e4 : s.ph = 2 → s.cmd = rcm) (e5 : s.ph = 3 → s.ans = rr) :
  Fn Tryz.prog 14 #[.pointer (some ⟨g, 0, none⟩), (.agg #[(.int .i64 ki), (.int .i64 ko), (.int .i64 kp), (.slice Ai rin.length ai), (.slice Ao rout.length ao), (.int .i64 (↑ph : Int)), (.bool en), (.int .i64 rcm.op), (.string (strB rcm.key)), (.slice K2 rcm.keys.length ck2), (.slice V2 rcm.value.length cv2), (.slice T2 rcm.tags.length ct2), (.int .u64 (↑rcm.life : Int)), (.int .u64 (↑rcm.ver : Int)), (.string (strB rcm.tag)), (.string (strB rcm.pre)), (.string (strB rcm.child)), (.int .i64 rr.op), (.int .i64 rr.err), (.slice X3 rr.items.length cx3), (.int .u64 (↑rr.ver : Int)), (.int .i64 rr.count), (.slice N3 rr.nums.length cn3)])] w (fun v w' => v = .bool true ∧ Ext w w') := by
 by_cases h : ph = 2
 ·exact looks28_2 w g S a b s hc ki ko kp rin Ai ai rout Ao ao ph en rcm lo2 hi2 K2 ck2 V2 cv2 T2 ct2 hK2 hV2 hT2 rr xs3 hv3 lo3 hi3 X3 cx3 N3 cn3 hx3 hn3 e1 e2 e3 e4 e5 h
 ·by_cases h3 : ph = 3
  ·exact looks28_3 w g S a b s hc ki ko kp rin Ai ai rout Ao ao ph en rcm lo2 hi2 K2 ck2 V2 cv2 T2 ct2 hK2 hV2 hT2 rr xs3 hv3 lo3 hi3 X3 cx3 N3 cn3 hx3 hn3 e1 e2 e3 e4 e5 h3
  ·exact looks28_1 w g S a b s hc ki ko kp rin Ai ai rout Ao ao ph en rcm lo2 hi2 K2 ck2 V2 cv2 T2 ct2 hK2 hV2 hT2 rr xs3 hv3 lo3 hi3 X3 cx3 N3 cn3 hx3 hn3 e1 e2 e3 e4 e5 h h3
theorem rvalid28_any (w : World) (i o p : Int) (hi1 : -9223372036854775808 ≤ i) (hi2 : i ≤ 9223372036854775807) (ho1 : -9223372036854775808 ≤ o) (ho2 : o ≤ 9223372036854775807) (hp1 : -9223372036854775808 ≤ p) (hp2 : p ≤ 9223372036854775807) :
  Fn Tryz.prog 8 #[(.agg #[(.int .i64 i), (.int .i64 o), (.int .i64 p)])] w (fun v w' => v = .bool (decide (cfOk i o p)) ∧ Ext w w')  := by
 have hE := ext_refl w
 refine fn_enter (args := [(.agg #[(.int .i64 i), (.int .i64 o), (.int .i64 p)])]) Tryz.func8 rfl rfl rfl ?_
 show WC _ _ _ _ [(0, (.agg #[(.int .i64 i), (.int .i64 o), (.int .i64 p)]))] _
 refine wc_seq (wc_regionL ?_)
 refine wl_step (or_box (cs := [(.int .i64 i), (.int .i64 o), (.int .i64 p)]) rfl rfl) rfl rfl rfl ?_
 rintro v w1 ⟨g1, rfl, hb_g1, he1, hl1, hu1⟩
 replace hE := hE.tr he1
 have hz_he1 := he1.size
 refine va rfl rfl ?_
 refine q_nil (k_then (wc_seq (wc_regionL ?_)))
 refine wl_val (ov_field0 (off := 2) fo23_2 rfl) rfl rfl rfl ?_
 refine wl_val (ov_loadAt oc3 rfl hb_g1 rfl) rfl rfl rfl ?_
 refine wl_val (ov_geq rfl rfl) rfl rfl rfl ?_
 refine wl_case_d (d := 5) rfl (fun h5 => ?_) (fun h5 => ?_)
 ·refine vm rfl rfl ?_
  refine wl_gval (ov_field0 (off := 2) fo23_2 rfl) rfl rfl rfl rfl rfl ?_
  refine wl_gval (ov_loadAt oc3 rfl hb_g1 rfl) rfl rfl rfl rfl rfl ?_
  refine wl_gval (ov_leq rfl rfl) rfl rfl rfl rfl rfl ?_
  refine wl_case_d (d := 9) rfl (fun h9 => ?_) (fun h9 => ?_)
  ·refine wl_val (ov_pick_t rfl rfl) rfl rfl rfl ?_
   refine vm rfl rfl ?_
   refine wl_gval (ov_field0 (off := 0) fo23_0 rfl) rfl rfl rfl rfl rfl ?_
   refine wl_gval (ov_loadAt oc3 rfl hb_g1 rfl) rfl rfl rfl rfl rfl ?_
   refine wl_gval (ov_field0 (off := 2) fo23_2 rfl) rfl rfl rfl rfl rfl ?_
   refine wl_gval (ov_loadAt oc3 rfl hb_g1 rfl) rfl rfl rfl rfl rfl ?_
   refine wl_gval (ov_add rfl rfl (wi64 (by omega) (by omega))) rfl rfl rfl rfl rfl ?_
   refine wl_gval (ov_geq rfl rfl) rfl rfl rfl rfl rfl ?_
   refine wl_case_d (d := 17) rfl (fun h17 => ?_) (fun h17 => ?_)
   ·refine wl_val (ov_pick_t rfl rfl) rfl rfl rfl ?_
    refine vm rfl rfl ?_
    refine wl_gval (ov_field0 (off := 0) fo23_0 rfl) rfl rfl rfl rfl rfl ?_
    refine wl_gval (ov_loadAt oc3 rfl hb_g1 rfl) rfl rfl rfl rfl rfl ?_
    refine wl_gval (ov_leq rfl rfl) rfl rfl rfl rfl rfl ?_
    refine wl_case_d (d := 22) rfl (fun h22 => ?_) (fun h22 => ?_)
    ·refine wl_val (ov_pick_t rfl rfl) rfl rfl rfl ?_
     refine vm rfl rfl ?_
     refine wl_gval (ov_field0 (off := 1) fo23_1 rfl) rfl rfl rfl rfl rfl ?_
     refine wl_gval (ov_loadAt oc3 rfl hb_g1 rfl) rfl rfl rfl rfl rfl ?_
     refine wl_gval (ov_geq rfl rfl) rfl rfl rfl rfl rfl ?_
     refine wl_case_d (d := 27) rfl (fun h27 => ?_) (fun h27 => ?_)
     ·refine wl_val (ov_pick_t rfl rfl) rfl rfl rfl ?_
      refine vm rfl rfl ?_
      refine wl_gval (ov_field0 (off := 1) fo23_1 rfl) rfl rfl rfl rfl rfl ?_
      refine wl_gval (ov_loadAt oc3 rfl hb_g1 rfl) rfl rfl rfl rfl rfl ?_
      refine wl_gval (ov_leq rfl rfl) rfl rfl rfl rfl rfl ?_
      refine wl_case_d (d := 32) rfl (fun h32 => ?_) (fun h32 => ?_)
      ·refine wl_val (ov_pick_t rfl rfl) rfl rfl rfl ?_
       refine va rfl rfl ?_
       refine q_nil (k_then (q_ret ?_))
       refine e_ret rfl rfl ?_
       first
        | (rw [decide_eq_true (show cfOk i o p from ⟨by omega, by omega, by omega, by omega, by omega, by omega⟩)]; exact ⟨rfl, hE⟩)
        | (rw [decide_eq_false (show ¬ cfOk i o p from fun q => by obtain ⟨q1, q2, q3, q4, q5, q6⟩ := q; omega)]; exact ⟨rfl, hE⟩)
      ·refine wl_val (ov_pick_t rfl rfl) rfl rfl rfl ?_
       refine va rfl rfl ?_
       refine q_nil (k_then (q_ret ?_))
       refine e_ret rfl rfl ?_
       first
        | (rw [decide_eq_true (show cfOk i o p from ⟨by omega, by omega, by omega, by omega, by omega, by omega⟩)]; exact ⟨rfl, hE⟩)
        | (rw [decide_eq_false (show ¬ cfOk i o p from fun q => by obtain ⟨q1, q2, q3, q4, q5, q6⟩ := q; omega)]; exact ⟨rfl, hE⟩)
     ·refine wl_val (ov_pick_t rfl rfl) rfl rfl rfl ?_
      refine vm rfl rfl ?_
      iterate 3 refine wl_gskip rfl rfl rfl rfl rfl rfl ?_
      refine wl_val (ov_pick_f rfl rfl) rfl rfl rfl ?_
      refine va rfl rfl ?_
      refine q_nil (k_then (q_ret ?_))
      refine e_ret rfl rfl ?_
      first
       | (rw [decide_eq_true (show cfOk i o p from ⟨by omega, by omega, by omega, by omega, by omega, by omega⟩)]; exact ⟨rfl, hE⟩)
       | (rw [decide_eq_false (show ¬ cfOk i o p from fun q => by obtain ⟨q1, q2, q3, q4, q5, q6⟩ := q; omega)]; exact ⟨rfl, hE⟩)
    ·refine wl_val (ov_pick_t rfl rfl) rfl rfl rfl ?_
     refine vm rfl rfl ?_
     iterate 3 refine wl_gskip rfl rfl rfl rfl rfl rfl ?_
     refine wl_val (ov_pick_f rfl rfl) rfl rfl rfl ?_
     refine vm rfl rfl ?_
     iterate 3 refine wl_gskip rfl rfl rfl rfl rfl rfl ?_
     refine wl_val (ov_pick_f rfl rfl) rfl rfl rfl ?_
     refine va rfl rfl ?_
     refine q_nil (k_then (q_ret ?_))
     refine e_ret rfl rfl ?_
     first
      | (rw [decide_eq_true (show cfOk i o p from ⟨by omega, by omega, by omega, by omega, by omega, by omega⟩)]; exact ⟨rfl, hE⟩)
      | (rw [decide_eq_false (show ¬ cfOk i o p from fun q => by obtain ⟨q1, q2, q3, q4, q5, q6⟩ := q; omega)]; exact ⟨rfl, hE⟩)
   ·refine wl_val (ov_pick_t rfl rfl) rfl rfl rfl ?_
    refine vm rfl rfl ?_
    iterate 3 refine wl_gskip rfl rfl rfl rfl rfl rfl ?_
    refine wl_val (ov_pick_f rfl rfl) rfl rfl rfl ?_
    refine vm rfl rfl ?_
    iterate 3 refine wl_gskip rfl rfl rfl rfl rfl rfl ?_
    refine wl_val (ov_pick_f rfl rfl) rfl rfl rfl ?_
    refine vm rfl rfl ?_
    iterate 3 refine wl_gskip rfl rfl rfl rfl rfl rfl ?_
    refine wl_val (ov_pick_f rfl rfl) rfl rfl rfl ?_
    refine va rfl rfl ?_
    refine q_nil (k_then (q_ret ?_))
    refine e_ret rfl rfl ?_
    first
     | (rw [decide_eq_true (show cfOk i o p from ⟨by omega, by omega, by omega, by omega, by omega, by omega⟩)]; exact ⟨rfl, hE⟩)
     | (rw [decide_eq_false (show ¬ cfOk i o p from fun q => by obtain ⟨q1, q2, q3, q4, q5, q6⟩ := q; omega)]; exact ⟨rfl, hE⟩)
  ·refine wl_val (ov_pick_t rfl rfl) rfl rfl rfl ?_
   refine vm rfl rfl ?_
   iterate 6 refine wl_gskip rfl rfl rfl rfl rfl rfl ?_
   refine wl_val (ov_pick_f rfl rfl) rfl rfl rfl ?_
   refine vm rfl rfl ?_
   iterate 3 refine wl_gskip rfl rfl rfl rfl rfl rfl ?_
   refine wl_val (ov_pick_f rfl rfl) rfl rfl rfl ?_
   refine vm rfl rfl ?_
   iterate 3 refine wl_gskip rfl rfl rfl rfl rfl rfl ?_
   refine wl_val (ov_pick_f rfl rfl) rfl rfl rfl ?_
   refine vm rfl rfl ?_
   iterate 3 refine wl_gskip rfl rfl rfl rfl rfl rfl ?_
   refine wl_val (ov_pick_f rfl rfl) rfl rfl rfl ?_
   refine va rfl rfl ?_
   refine q_nil (k_then (q_ret ?_))
   refine e_ret rfl rfl ?_
   first
    | (rw [decide_eq_true (show cfOk i o p from ⟨by omega, by omega, by omega, by omega, by omega, by omega⟩)]; exact ⟨rfl, hE⟩)
    | (rw [decide_eq_false (show ¬ cfOk i o p from fun q => by obtain ⟨q1, q2, q3, q4, q5, q6⟩ := q; omega)]; exact ⟨rfl, hE⟩)
 ·refine vm rfl rfl ?_
  iterate 3 refine wl_gskip rfl rfl rfl rfl rfl rfl ?_
  refine wl_val (ov_pick_f rfl rfl) rfl rfl rfl ?_
  refine vm rfl rfl ?_
  iterate 6 refine wl_gskip rfl rfl rfl rfl rfl rfl ?_
  refine wl_val (ov_pick_f rfl rfl) rfl rfl rfl ?_
  refine vm rfl rfl ?_
  iterate 3 refine wl_gskip rfl rfl rfl rfl rfl rfl ?_
  refine wl_val (ov_pick_f rfl rfl) rfl rfl rfl ?_
  refine vm rfl rfl ?_
  iterate 3 refine wl_gskip rfl rfl rfl rfl rfl rfl ?_
  refine wl_val (ov_pick_f rfl rfl) rfl rfl rfl ?_
  refine vm rfl rfl ?_
  iterate 3 refine wl_gskip rfl rfl rfl rfl rfl rfl ?_
  refine wl_val (ov_pick_f rfl rfl) rfl rfl rfl ?_
  refine va rfl rfl ?_
  refine q_nil (k_then (q_ret ?_))
  refine e_ret rfl rfl ?_
  first
   | (rw [decide_eq_true (show cfOk i o p from ⟨by omega, by omega, by omega, by omega, by omega, by omega⟩)]; exact ⟨rfl, hE⟩)
   | (rw [decide_eq_false (show ¬ cfOk i o p from fun q => by obtain ⟨q1, q2, q3, q4, q5, q6⟩ := q; omega)]; exact ⟨rfl, hE⟩)
theorem rnew28_any (w : World) (i o p : Int) :
  Fn Tryz.prog 12 #[(.agg #[(.int .i64 i), (.int .i64 o), (.int .i64 p)])] w (fun v w' => v = (.agg #[(.int .i64 i), (.int .i64 o), (.int .i64 p), (.slice none 0 0), (.slice none 0 0), (.int .i64 1), (.bool false), (.int .i64 0), (.string (strB ([] : List UInt8))), (.slice none 0 0), (.slice none 0 0), (.slice none 0 0), (.int .u64 0), (.int .u64 0), (.string (strB ([] : List UInt8))), (.string (strB ([] : List UInt8))), (.string (strB ([] : List UInt8))), (.int .i64 0), (.int .i64 0), (.slice none 0 0), (.int .u64 0), (.int .i64 0), (.slice none 0 0)]) ∧ Ext w w')  := by
 have hE := ext_refl w
 refine fn_enter (args := [(.agg #[(.int .i64 i), (.int .i64 o), (.int .i64 p)])]) Tryz.func12 rfl rfl rfl ?_
 show WC _ _ _ _ [(0, (.agg #[(.int .i64 i), (.int .i64 o), (.int .i64 p)]))] _
 refine wc_seq (wc_regionL ?_)
 refine wl_step (or_box (cs := [(.int .i64 i), (.int .i64 o), (.int .i64 p)]) rfl rfl) rfl rfl rfl ?_
 rintro v w1 ⟨g1, rfl, hb_g1, he1, hl1, hu1⟩
 replace hE := hE.tr he1
 have hz_he1 := he1.size
 refine wl_step (or_alloc (cs := [(.int .i64 0), (.int .i64 0), (.int .i64 0), (.slice none 0 0), (.slice none 0 0), (.int .i64 0), (.bool false), (.int .i64 0), (.string (strB [])), (.slice none 0 0), (.slice none 0 0), (.slice none 0 0), (.int .u64 0), (.int .u64 0), (.string (strB [])), (.string (strB [])), (.string (strB [])), (.int .i64 0), (.int .i64 0), (.slice none 0 0), (.int .u64 0), (.int .i64 0), (.slice none 0 0)]) ze45 rfl) rfl rfl rfl ?_
 rintro v w2 ⟨g2, rfl, hb_g2, he2, hl2, hu2⟩
 replace hE := hE.tr he2
 replace hb_g1 := hb_g1.ext he2
 have hz_he2 := he2.size
 refine q_nil (k_then (wc_seq (wc_regionL ?_)))
 refine wl_val (ov_loadBlk (cs := [(.int .i64 i), (.int .i64 o), (.int .i64 p)]) ag23_3 rfl hb_g1) rfl rfl rfl ?_
 refine wl_val (ov_build (cs := [(.int .i64 i), (.int .i64 o), (.int .i64 p), (.slice none 0 0), (.slice none 0 0), (.int .i64 1), (.bool false), (.int .i64 0), (.string (strB [])), (.slice none 0 0), (.slice none 0 0), (.slice none 0 0), (.int .u64 0), (.int .u64 0), (.string (strB [])), (.string (strB [])), (.string (strB [])), (.int .i64 0), (.int .i64 0), (.slice none 0 0), (.int .u64 0), (.int .i64 0), (.slice none 0 0)]) ze45 pl45 rfl (by kernel_rfl)) rfl rfl rfl ?_
 refine wl_step0 (or_storeBlk (vs := [(.int .i64 i), (.int .i64 o), (.int .i64 p), (.slice none 0 0), (.slice none 0 0), (.int .i64 1), (.bool false), (.int .i64 0), (.string (strB [])), (.slice none 0 0), (.slice none 0 0), (.slice none 0 0), (.int .u64 0), (.int .u64 0), (.string (strB [])), (.string (strB [])), (.string (strB [])), (.int .i64 0), (.int .i64 0), (.slice none 0 0), (.int .u64 0), (.int .i64 0), (.slice none 0 0)]) sz45 rfl rfl (by simp [Value.oneCell']) hb_g2 rfl) rfl rfl ?_
 rintro _ w3 ⟨hN3, hg3⟩
 have hz_hg3 := hg3.size
 replace hE := hE.gr hg3 (fun _ e => by cases e; omega)
 replace hb_g2 := hN3
 refine q_nil (k_then (q_ret ?_))
 refine e_retL (rs := [.cell 2 45]) (vs := [.agg #[(.int .i64 i), (.int .i64 o), (.int .i64 p), (.slice none 0 0), (.slice none 0 0), (.int .i64 1), (.bool false), (.int .i64 0), (.string (strB [])), (.slice none 0 0), (.slice none 0 0), (.slice none 0 0), (.int .u64 0), (.int .u64 0), (.string (strB [])), (.string (strB [])), (.string (strB [])), (.int .i64 0), (.int .i64 0), (.slice none 0 0), (.int .u64 0), (.int .i64 0), (.slice none 0 0)]]) rfl ⟨⟨_, _, [(.int .i64 i), (.int .i64 o), (.int .i64 p), (.slice none 0 0), (.slice none 0 0), (.int .i64 1), (.bool false), (.int .i64 0), (.string (strB [])), (.slice none 0 0), (.slice none 0 0), (.slice none 0 0), (.int .u64 0), (.int .u64 0), (.string (strB [])), (.string (strB [])), (.string (strB [])), (.int .i64 0), (.int .i64 0), (.slice none 0 0), (.int .u64 0), (.int .i64 0), (.slice none 0 0)], rfl, ag45_23, hb_g2, rfl⟩, trivial⟩ ?_
 exact ⟨rfl, hE⟩
end Go.Proofs.YtiighkbehiddkaaGreat