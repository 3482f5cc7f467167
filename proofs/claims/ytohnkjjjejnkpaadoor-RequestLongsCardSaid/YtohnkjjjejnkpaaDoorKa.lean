/-
  The checks that the laws of layer 7 are made of; the examples.
-/
import Derived.Test.YtohnkjjjejnkpaaDoorQw
namespace Go.Proofs.YtohnkjjjejnkpaaDoor
open Go.RowKit
set_option linter.unusedVariables false
set_option maxRecDepth 4000
theorem cl10 : callable Tryd.prog 10 = true := by kernel_rfl
theorem cl12 : callable Tryd.prog 12 = true := by kernel_rfl
theorem cl15 : callable Tryd.prog 15 = true := by kernel_rfl
theorem cl20 : callable Tryd.prog 20 = true := by kernel_rfl
theorem cl23 : callable Tryd.prog 23 = true := by kernel_rfl

theorem lwrites_any (w : World) (cm : Cmd) (lo hi : Nat) (K : Option Addr) (ck : Nat) (V : Option Addr) (cv : Nat) (T : Option Addr) (ct : Nat) (hK : RdS w lo hi K ck cm.keys) (hV : RdB w lo hi V cv cm.value) (hT : RdS w lo hi T ct cm.tags) (lo2 hi2 : Nat) (x : UInt8) (A : Option Addr) (c : Nat) (p : List UInt8) (hr : RdB w lo2 hi2 A c p) (no : Int) (n : Nat) (hn : no = n) (hlf : cm.life < 18446744073709551616) (hvr : cm.ver < 18446744073709551616) (hsz : csz cm ≤ 17592186044416) (hw : wrC cm = ((x, p), n)) :
    Fn Tryd.prog 15 #[(.agg #[(.int .i64 cm.op), (.string (strB cm.key)), (.slice K cm.keys.length ck), (.slice V cm.value.length cv), (.slice T cm.tags.length ct), (.int .u64 (↑cm.life : Int)), (.int .u64 (↑cm.ver : Int)), (.string (strB cm.tag)), (.string (strB cm.pre)), (.string (strB cm.child))]), (.agg #[(.int .u8 (↑x.toNat : Int)), (.slice A p.length c)]), (.int .i64 no)] w (fun v w' => v = .bool true ∧ Ext w w')  := by
  replace hK := hK.top
  replace hV := hV.top
  replace hT := hT.top
  replace hr := hr.top
  have hE := ext_refl w
  refine fn_enter (args := [(.agg #[(.int .i64 cm.op), (.string (strB cm.key)), (.slice K cm.keys.length ck), (.slice V cm.value.length cv), (.slice T cm.tags.length ct), (.int .u64 (↑cm.life : Int)), (.int .u64 (↑cm.ver : Int)), (.string (strB cm.tag)), (.string (strB cm.pre)), (.string (strB cm.child))]), (.agg #[(.int .u8 (↑x.toNat : Int)), (.slice A p.length c)]), (.int .i64 no)]) Tryd.func15 rfl rfl rfl ?_
  show WC _ _ _ _ [(0, (.agg #[(.int .i64 cm.op), (.string (strB cm.key)), (.slice K cm.keys.length ck), (.slice V cm.value.length cv), (.slice T cm.tags.length ct), (.int .u64 (↑cm.life : Int)), (.int .u64 (↑cm.ver : Int)), (.string (strB cm.tag)), (.string (strB cm.pre)), (.string (strB cm.child))])), (1, (.agg #[(.int .u8 (↑x.toNat : Int)), (.slice A p.length c)])), (2, (.int .i64 no))] _
  refine wc_seq (wc_regionL ?_)
  refine wl_step (or_box (cs := [(.int .i64 cm.op), (.string (strB cm.key)), (.slice K cm.keys.length ck), (.slice V cm.value.length cv), (.slice T cm.tags.length ct), (.int .u64 (↑cm.life : Int)), (.int .u64 (↑cm.ver : Int)), (.string (strB cm.tag)), (.string (strB cm.pre)), (.string (strB cm.child))]) rfl rfl) rfl rfl rfl ?_
  rintro v w1 ⟨g3, rfl, hb_g3, he3, hl3, hu3⟩
  replace hK := hK.ext he3
  replace hV := hV.ext he3
  replace hT := hT.ext he3
  replace hr := hr.ext he3
  replace hE := hE.tr he3
  have hz_he3 := he3.size
  refine wl_step (or_box (cs := [(.int .u8 (↑x.toNat : Int)), (.slice A p.length c)]) rfl rfl) rfl rfl rfl ?_
  rintro v w2 ⟨g4, rfl, hb_g4, he4, hl4, hu4⟩
  replace hK := hK.ext he4
  replace hV := hV.ext he4
  replace hT := hT.ext he4
  replace hr := hr.ext he4
  replace hE := hE.tr he4
  replace hb_g3 := hb_g3.ext he4
  have hz_he4 := he4.size
  refine va rfl rfl ?_
  refine q_nil (k_then (wc_seq (wc_regionL ?_)))
  refine wl_val (ov_loadBlk (cs := [(.int .i64 cm.op), (.string (strB cm.key)), (.slice K cm.keys.length ck), (.slice V cm.value.length cv), (.slice T cm.tags.length ct), (.int .u64 (↑cm.life : Int)), (.int .u64 (↑cm.ver : Int)), (.string (strB cm.tag)), (.string (strB cm.pre)), (.string (strB cm.child))]) ag36_10 rfl hb_g3) rfl rfl rfl ?_
  refine wl_step (or_call0 cl17 rfl rfl (wwrite_any _ cm _ _ K ck V cv T ct hK hV hT (by omega) (by omega) (by omega))) rfl rfl rfl ?_
  rintro v w3 ⟨A11, c11, rfl, ho11, he11⟩
  replace hK := hK.ext he11
  replace hV := hV.ext he11
  replace hT := hT.ext he11
  replace hr := hr.ext he11
  replace hE := hE.tr he11
  replace hb_g3 := hb_g3.ext he11
  replace hb_g4 := hb_g4.ext he11
  have hz_he11 := he11.size
  have hq_ho11 := fun g e => Own.lt ho11 (g := g) e
  refine vm rfl rfl ?_
  iterate 2 refine vx rfl rfl rfl ?_
  refine wl_step (or_alloc (cs := [(.int .u8 0), (.slice none 0 0)]) ze40 rfl) rfl rfl rfl ?_
  rintro v w4 ⟨g7, rfl, hb_g7, he7, hl7, hu7⟩
  replace hK := hK.ext he7
  replace hV := hV.ext he7
  replace hT := hT.ext he7
  replace hr := hr.ext he7
  replace hE := hE.tr he7
  replace hb_g3 := hb_g3.ext he7
  replace hb_g4 := hb_g4.ext he7
  replace ho11 := Own.ext ho11 he7
  have hz_he7 := he7.size
  refine wl_step0 (or_storeBlk (vs := [(.int .u8 (↑(wrC cm).1.1.toNat : Int)), (.slice A11 (wrC cm).1.2.length c11)]) sz40 rfl rfl (by simp [Value.oneCell']) hb_g7 rfl) rfl rfl ?_
  rintro _ w5 ⟨hN5, hg5⟩
  have hz_hg5 := hg5.size
  replace hK := hK.gr hg5 (fun _ e => by cases e; omega)
  replace hV := hV.gr hg5 (fun _ e => by cases e; omega)
  replace hT := hT.gr hg5 (fun _ e => by cases e; omega)
  replace hr := hr.gr hg5 (fun _ e => by cases e; omega)
  replace hE := hE.gr hg5 (fun _ e => by cases e; omega)
  replace hb_g3 := hb_g3.gr hg5 (by intro e; cases e; omega)
  replace hb_g4 := hb_g4.gr hg5 (by intro e; cases e; omega)
  replace ho11 := Own.gr ho11 hg5 (by first | exact .inl rfl | (right; intro e; first | (have := hq_ho11 _ e; omega) | (have := Own.lt ho11 e; omega) | exact own_blk_ne ho11 hb_g7 (by decide) e))
  replace hb_g7 := hN5
  refine va rfl rfl ?_
  refine q_nil (k_then (wc_seq (wc_regionL ?_)))
  refine wl_val (ov_loadBlk (cs := [(.int .u8 (↑(wrC cm).1.1.toNat : Int)), (.slice A11 (wrC cm).1.2.length c11)]) ag40_2 rfl hb_g7) rfl rfl rfl ?_
  refine wl_val (ov_loadBlk (cs := [(.int .u8 (↑x.toNat : Int)), (.slice A p.length c)]) ag40_2 rfl hb_g4) rfl rfl rfl ?_
  refine wl_step (or_call0 cl20 rfl rfl (rfequal_any _ _ _ _ _ ((wrC cm).1.1) _ _ (wrC cm).1.2 (x) _ _ p (OwnB.rd ho11) hr)) rfl rfl rfl ?_
  rintro v w6 ⟨rfl, he16⟩
  replace hK := hK.ext he16
  replace hV := hV.ext he16
  replace hT := hT.ext he16
  replace hr := hr.ext he16
  replace hE := hE.tr he16
  replace hb_g3 := hb_g3.ext he16
  replace hb_g4 := hb_g4.ext he16
  replace ho11 := Own.ext ho11 he16
  replace hb_g7 := hb_g7.ext he16
  have hz_he16 := he16.size
  refine wl_spell (d := 16) rfl (bt (by rw [hw])) ?_
  refine vm rfl rfl ?_
  iterate 2 refine wl_gval (ov_move rfl) rfl rfl rfl rfl rfl ?_
  refine wl_gval (ov_eql rfl rfl) rfl rfl rfl rfl rfl ?_
  refine wl_spell (d := 20) rfl (bt (by rw [hw]; exact hn.symm)) ?_
  refine wl_val (ov_pick_t rfl rfl) rfl rfl rfl ?_
  refine va rfl rfl ?_
  refine q_nil (k_then (q_ret ?_))
  refine e_ret rfl rfl ?_
  exact ⟨rfl, hE⟩

theorem lreads_any (w : World) (lo hi : Nat) (x : UInt8) (A : Option Addr) (c : Nat) (l : List UInt8) (hr : RdB w lo hi A c l) (hlen : l.length ≤ 140737488355328) (cm : Cmd) (lo2 hi2 : Nat) (K2 : Option Addr) (ck2 : Nat) (V2 : Option Addr) (cv2 : Nat) (T2 : Option Addr) (ct2 : Nat) (hK2 : RdS w lo2 hi2 K2 ck2 cm.keys) (hV2 : RdB w lo2 hi2 V2 cv2 cm.value) (hT2 : RdS w lo2 hi2 T2 ct2 cm.tags) (no : Int) (n : Nat) (hn : no = n) (hrd : rdC x l = (cm, n)) :
    Fn Tryd.prog 23 #[(.agg #[(.int .u8 (↑x.toNat : Int)), (.slice A l.length c)]), (.agg #[(.int .i64 cm.op), (.string (strB cm.key)), (.slice K2 cm.keys.length ck2), (.slice V2 cm.value.length cv2), (.slice T2 cm.tags.length ct2), (.int .u64 (↑cm.life : Int)), (.int .u64 (↑cm.ver : Int)), (.string (strB cm.tag)), (.string (strB cm.pre)), (.string (strB cm.child))]), (.int .i64 no)] w (fun v w' => v = .bool true ∧ Ext w w')  := by
  replace hK2 := hK2.top
  replace hV2 := hV2.top
  replace hT2 := hT2.top
  replace hr := hr.top
  have hE := ext_refl w
  refine fn_enter (args := [(.agg #[(.int .u8 (↑x.toNat : Int)), (.slice A l.length c)]), (.agg #[(.int .i64 cm.op), (.string (strB cm.key)), (.slice K2 cm.keys.length ck2), (.slice V2 cm.value.length cv2), (.slice T2 cm.tags.length ct2), (.int .u64 (↑cm.life : Int)), (.int .u64 (↑cm.ver : Int)), (.string (strB cm.tag)), (.string (strB cm.pre)), (.string (strB cm.child))]), (.int .i64 no)]) Tryd.func23 rfl rfl rfl ?_
  show WC _ _ _ _ [(0, (.agg #[(.int .u8 (↑x.toNat : Int)), (.slice A l.length c)])), (1, (.agg #[(.int .i64 cm.op), (.string (strB cm.key)), (.slice K2 cm.keys.length ck2), (.slice V2 cm.value.length cv2), (.slice T2 cm.tags.length ct2), (.int .u64 (↑cm.life : Int)), (.int .u64 (↑cm.ver : Int)), (.string (strB cm.tag)), (.string (strB cm.pre)), (.string (strB cm.child))])), (2, (.int .i64 no))] _
  refine wc_seq (wc_regionL ?_)
  refine wl_step (or_box (cs := [(.int .u8 (↑x.toNat : Int)), (.slice A l.length c)]) rfl rfl) rfl rfl rfl ?_
  rintro v w1 ⟨g3, rfl, hb_g3, he3, hl3, hu3⟩
  replace hK2 := hK2.ext he3
  replace hV2 := hV2.ext he3
  replace hT2 := hT2.ext he3
  replace hr := hr.ext he3
  replace hE := hE.tr he3
  have hz_he3 := he3.size
  refine wl_step (or_box (cs := [(.int .i64 cm.op), (.string (strB cm.key)), (.slice K2 cm.keys.length ck2), (.slice V2 cm.value.length cv2), (.slice T2 cm.tags.length ct2), (.int .u64 (↑cm.life : Int)), (.int .u64 (↑cm.ver : Int)), (.string (strB cm.tag)), (.string (strB cm.pre)), (.string (strB cm.child))]) rfl rfl) rfl rfl rfl ?_
  rintro v w2 ⟨g4, rfl, hb_g4, he4, hl4, hu4⟩
  replace hK2 := hK2.ext he4
  replace hV2 := hV2.ext he4
  replace hT2 := hT2.ext he4
  replace hr := hr.ext he4
  replace hE := hE.tr he4
  replace hb_g3 := hb_g3.ext he4
  have hz_he4 := he4.size
  refine va rfl rfl ?_
  refine q_nil (k_then (wc_seq (wc_regionL ?_)))
  refine wl_val (ov_loadBlk (cs := [(.int .u8 (↑x.toNat : Int)), (.slice A l.length c)]) ag40_2 rfl hb_g3) rfl rfl rfl ?_
  refine wl_step (or_call0 cl24 rfl rfl (rread_any _ x _ _ A c l hr (by first | omega | decide | (simp; done)))) rfl rfl rfl ?_
  rintro v w3 ⟨K11, ck11, V11, cv11, T11, ct11, rfl, hK11, hV11, hT11, he11⟩
  replace hK2 := hK2.ext he11
  replace hV2 := hV2.ext he11
  replace hT2 := hT2.ext he11
  replace hr := hr.ext he11
  replace hE := hE.tr he11
  replace hb_g3 := hb_g3.ext he11
  replace hb_g4 := hb_g4.ext he11
  have hz_he11 := he11.size
  refine vm rfl rfl ?_
  iterate 2 refine vx rfl rfl rfl ?_
  refine wl_step (or_alloc (cs := [(.int .i64 0), (.string (strB [])), (.slice none 0 0), (.slice none 0 0), (.slice none 0 0), (.int .u64 0), (.int .u64 0), (.string (strB [])), (.string (strB [])), (.string (strB []))]) ze36 rfl) rfl rfl rfl ?_
  rintro v w4 ⟨g7, rfl, hb_g7, he7, hl7, hu7⟩
  replace hK2 := hK2.ext he7
  replace hV2 := hV2.ext he7
  replace hT2 := hT2.ext he7
  replace hr := hr.ext he7
  replace hE := hE.tr he7
  replace hb_g3 := hb_g3.ext he7
  replace hb_g4 := hb_g4.ext he7
  replace hK11 := hK11.ext he7
  replace hV11 := hV11.ext he7
  replace hT11 := hT11.ext he7
  have hz_he7 := he7.size
  refine wl_step0 (or_storeBlk (vs := [(.int .i64 (rdC x l).1.op), (.string (strB (rdC x l).1.key)), (.slice K11 (rdC x l).1.keys.length ck11), (.slice V11 (rdC x l).1.value.length cv11), (.slice T11 (rdC x l).1.tags.length ct11), (.int .u64 (↑(rdC x l).1.life : Int)), (.int .u64 (↑(rdC x l).1.ver : Int)), (.string (strB (rdC x l).1.tag)), (.string (strB (rdC x l).1.pre)), (.string (strB (rdC x l).1.child))]) sz36 rfl rfl (by simp [Value.oneCell']) hb_g7 rfl) rfl rfl ?_
  rintro _ w5 ⟨hN5, hg5⟩
  have hz_hg5 := hg5.size
  replace hK2 := hK2.gr hg5 (fun _ e => by cases e; omega)
  replace hV2 := hV2.gr hg5 (fun _ e => by cases e; omega)
  replace hT2 := hT2.gr hg5 (fun _ e => by cases e; omega)
  replace hr := hr.gr hg5 (fun _ e => by cases e; omega)
  replace hE := hE.gr hg5 (fun _ e => by cases e; omega)
  replace hb_g3 := hb_g3.gr hg5 (by intro e; cases e; omega)
  replace hb_g4 := hb_g4.gr hg5 (by intro e; cases e; omega)
  replace hK11 := hK11.gr hg5 (fun _ e => by cases e; omega)
  replace hV11 := hV11.gr hg5 (fun _ e => by cases e; omega)
  replace hT11 := hT11.gr hg5 (fun _ e => by cases e; omega)
  replace hb_g7 := hN5
  refine va rfl rfl ?_
  refine q_nil (k_then (wc_seq (wc_regionL ?_)))
  refine wl_val (ov_loadBlk (cs := [(.int .i64 (rdC x l).1.op), (.string (strB (rdC x l).1.key)), (.slice K11 (rdC x l).1.keys.length ck11), (.slice V11 (rdC x l).1.value.length cv11), (.slice T11 (rdC x l).1.tags.length ct11), (.int .u64 (↑(rdC x l).1.life : Int)), (.int .u64 (↑(rdC x l).1.ver : Int)), (.string (strB (rdC x l).1.tag)), (.string (strB (rdC x l).1.pre)), (.string (strB (rdC x l).1.child))]) ag36_10 rfl hb_g7) rfl rfl rfl ?_
  refine wl_val (ov_loadBlk (cs := [(.int .i64 cm.op), (.string (strB cm.key)), (.slice K2 cm.keys.length ck2), (.slice V2 cm.value.length cv2), (.slice T2 cm.tags.length ct2), (.int .u64 (↑cm.life : Int)), (.int .u64 (↑cm.ver : Int)), (.string (strB cm.tag)), (.string (strB cm.pre)), (.string (strB cm.child))]) ag36_10 rfl hb_g4) rfl rfl rfl ?_
  refine wl_step (or_call0 cl18 rfl rfl (requal_any _ (rdC x l).1 _ _ K11 ck11 V11 cv11 T11 ct11 hK11 hV11 hT11 cm _ _ K2 ck2 V2 cv2 T2 ct2 hK2 hV2 hT2)) rfl rfl rfl ?_
  rintro v w6 ⟨rfl, he16⟩
  replace hK2 := hK2.ext he16
  replace hV2 := hV2.ext he16
  replace hT2 := hT2.ext he16
  replace hr := hr.ext he16
  replace hE := hE.tr he16
  replace hb_g3 := hb_g3.ext he16
  replace hb_g4 := hb_g4.ext he16
  replace hK11 := hK11.ext he16
  replace hV11 := hV11.ext he16
  replace hT11 := hT11.ext he16
  replace hb_g7 := hb_g7.ext he16
  have hz_he16 := he16.size
  refine wl_spell (d := 16) rfl (bt (by rw [hrd])) ?_
  refine vm rfl rfl ?_
  iterate 2 refine wl_gval (ov_move rfl) rfl rfl rfl rfl rfl ?_
  refine wl_gval (ov_eql rfl rfl) rfl rfl rfl rfl rfl ?_
  refine wl_spell (d := 20) rfl (bt (by rw [hrd]; exact hn.symm)) ?_
  refine wl_val (ov_pick_t rfl rfl) rfl rfl rfl ?_
  refine va rfl rfl ?_
  refine q_nil (k_then (q_ret ?_))
  refine e_ret rfl rfl ?_
  exact ⟨rfl, hE⟩

theorem kw1 : wrC (⟨4, [97], [], [], [], 0, 0, [], [], []⟩ : Cmd) = ((4, [1, 97]), 0) := by rw [wrC_eq (by decide) (by decide)]; decide
theorem kw2 : wrC (⟨1, [97], [], [120, 121], [[116]], 300, 0, [], [], []⟩ : Cmd) = ((1, [1, 97, 2, 120, 121, 1, 1, 116, 172, 2]), 0) := by rw [wrC_eq (by decide) (by decide)]; decide
theorem kw3 : wrC (⟨3, [107], [], [], [], 18446744073709551615, 5, [], [], []⟩ : Cmd) = ((3, [1, 107, 0, 0, 255, 255, 255, 255, 255, 255, 255, 255, 255, 1, 5]), 0) := by rw [wrC_eq (by decide) (by decide)]; decide
theorem kw4 : wrC (⟨5, [], [[97], [98, 99]], [], [], 0, 0, [], [], []⟩ : Cmd) = ((5, [2, 1, 97, 2, 98, 99]), 0) := by rw [wrC_eq (by decide) (by decide)]; decide
theorem kw5 : wrC (⟨14, [], [], [], [], 0, 0, [], [], []⟩ : Cmd) = ((14, []), 0) := by rw [wrC_eq (by decide) (by decide)]; decide
theorem kw6 : wrC (⟨4, [], [], [], [], 0, 0, [], [], []⟩ : Cmd) = ((0, []), 2) := by rw [wrC_eq (by decide) (by decide)]; decide
theorem kw7 : wrC (⟨1, [97], [], [], [], 0, 0, [], [], []⟩ : Cmd) = ((0, []), 2) := by rw [wrC_eq (by decide) (by decide)]; decide
theorem kw8 : wrC (⟨4, [97], [], [], [], 0, 0, [116], [], []⟩ : Cmd) = ((0, []), 2) := by rw [wrC_eq (by decide) (by decide)]; decide
theorem kr1 : rdC 4 [1, 97, 0] = (cmd0 0, 6) := by decide
theorem kr2 : rdC 0 [] = (cmd0 0, 6) := by decide
theorem kr3 : rdC 6 [1, 97, 0] = (cmd0 0, 6) := by decide
theorem kr4 : rdC 5 [0] = (cmd0 0, 6) := by decide
theorem kwd1 : wordC 9 = ([115, 111, 102, 116], 0) := by decide
theorem kwd2 : wordC 0 = ([], 2) := by decide
theorem kop1 : opC [109, 103, 101, 116] = (5, 0) := by decide
theorem kop2 : opC [71, 101, 116] = (0, 6) := by decide

set_option maxRecDepth 20000 in
set_option maxHeartbeats 4000000 in
theorem known07_any (w : World) (hW : WordsAt w) :
    Fn Tryd.prog 9 #[] w (fun v w' => v = .bool true ∧ Ext w w')  := by
  have hE := ext_refl w
  refine fn_enter (args := []) Tryd.func9 rfl rfl rfl ?_
  show WC _ _ _ _ [] _
  refine wc_seq (wc_regionL ?_)
  refine va rfl rfl ?_
  refine q_nil (k_then (wc_seq (wc_seq (wc_regionL ?_))))
  refine wl_val (ov_build (cs := [(.int .i64 4), (.string (strB [97])), (.slice none 0 0), (.slice none 0 0), (.slice none 0 0), (.int .u64 0), (.int .u64 0), (.string (strB [])), (.string (strB [])), (.string (strB []))]) ze36 pl36 rfl rfl) rfl rfl rfl ?_
  refine wl_step (or_buildBytes (l := [1, 97]) bt32 (os := [.const (.int .u8 1), .const (.int .u8 97)]) rfl rfl rfl (by decide)) rfl rfl rfl ?_
  rintro v w1 ⟨A11, c11, rfl, ho11, he11⟩
  replace hE := hE.tr he11
  have hz_he11 := he11.size
  have hq_ho11 := fun g e => Own.lt ho11 (g := g) e
  refine wl_val (ov_build (cs := [(.int .u8 4), (.slice A11 [1, 97].length c11)]) ze40 pl40 rfl rfl) rfl rfl rfl ?_
  refine wl_step (or_call0 cl15 rfl rfl (lwrites_any _ (⟨4, [97], [], [], [], 0, 0, [], [], []⟩ : Cmd) 0 0 none 0 none 0 none 0 (Rd.nil _ 0 _ _ _ _ (Nat.zero_le _)) (Rd.nil _ 0 _ _ _ _ (Nat.zero_le _)) (Rd.nil _ 0 _ _ _ _ (Nat.zero_le _)) _ _ (4) _ _ [1, 97] (OwnB.rd ho11) 0 _ (by rfl) (by decide) (by decide) (by decide) kw1)) rfl rfl rfl ?_
  rintro v w2 ⟨rfl, he13⟩
  replace hE := hE.tr he13
  replace ho11 := Own.ext ho11 he13
  have hz_he13 := he13.size
  refine wl_val (ov_not (b := true) rfl) rfl rfl rfl ?_
  refine vm rfl rfl ?_
  refine wl_gstep (or_buildBytes (l := [120, 121]) bt32 (os := [.const (.int .u8 120), .const (.int .u8 121)]) rfl rfl rfl (by decide)) rfl rfl rfl rfl rfl ?_
  rintro v w3 ⟨A16, c16, rfl, ho16, he16⟩
  replace hE := hE.tr he16
  replace ho11 := Own.ext ho11 he16
  have hz_he16 := he16.size
  have hq_ho16 := fun g e => Own.lt ho16 (g := g) e
  refine wl_gstep (or_markBytes bt32 rfl ho16 (by simp)) rfl rfl rfl rfl rfl ?_
  rintro v w4 ⟨rfl, hr17, he17⟩
  have hz_he17 := he17.size
  replace hE := hE.gr he17 (fun g e => by have := hq_ho16 g e; omega)
  replace ho11 := Own.gr ho11 he17 (own_apart fun g e g2 e2 => by have := hq_ho11 g e; have := hq_ho16 g2 e2; omega)
  refine wl_gstep (or_buildSlice1 (os := [.const (.string (strB [116]))]) sl27 rfl rfl rfl (by simp [Value.oneCell']) (by decide)) rfl rfl rfl rfl rfl ?_
  rintro v w5 ⟨g18, rfl, hb_g18, he18, hl18, hu18, _⟩
  replace hE := hE.tr he18
  replace ho11 := Own.ext ho11 he18
  replace hr17 := hr17.ext he18
  have hz_he18 := he18.size
  have hr18 := hb_g18.rdL (lo := 0) (size := 1) (n := 1) rfl (by decide) (Nat.zero_le _)
  refine wl_gval (ov_build (cs := [(.int .i64 1), (.string (strB [97])), (.slice none 0 0), (.slice A16 [120, 121].length c16), (.slice (some ⟨g18, 0, none⟩) 1 1), (.int .u64 300), (.int .u64 0), (.string (strB [])), (.string (strB [])), (.string (strB []))]) ze36 pl36 rfl rfl) rfl rfl rfl rfl rfl ?_
  refine wl_gstep (or_buildBytes (l := [1, 97, 2, 120, 121, 1, 1, 116, 172, 2]) bt32 (os := [.const (.int .u8 1), .const (.int .u8 97), .const (.int .u8 2), .const (.int .u8 120), .const (.int .u8 121), .const (.int .u8 1), .const (.int .u8 1), .const (.int .u8 116), .const (.int .u8 172), .const (.int .u8 2)]) rfl rfl rfl (by decide)) rfl rfl rfl rfl rfl ?_
  rintro v w6 ⟨A20, c20, rfl, ho20, he20⟩
  replace hE := hE.tr he20
  replace ho11 := Own.ext ho11 he20
  replace hr17 := hr17.ext he20
  replace hb_g18 := hb_g18.ext he20
  replace hr18 := hr18.ext he20
  have hz_he20 := he20.size
  have hq_ho20 := fun g e => Own.lt ho20 (g := g) e
  refine wl_gval (ov_build (cs := [(.int .u8 1), (.slice A20 [1, 97, 2, 120, 121, 1, 1, 116, 172, 2].length c20)]) ze40 pl40 rfl rfl) rfl rfl rfl rfl rfl ?_
  refine wl_gstep (or_call0 cl15 rfl rfl (lwrites_any _ (⟨1, [97], [], [120, 121], [[116]], 300, 0, [], [], []⟩ : Cmd) 0 _ none 0 A16 c16 (some ⟨g18, 0, none⟩) 1 (Rd.nil _ 0 _ _ _ _ (Nat.zero_le _)) ((Rd.top hr17).mono (Nat.zero_le _) (Nat.le_refl _)) ((Rd.top hr18).mono (Nat.zero_le _) (Nat.le_refl _)) _ _ (1) _ _ [1, 97, 2, 120, 121, 1, 1, 116, 172, 2] (OwnB.rd ho20) 0 _ (by rfl) (by decide) (by decide) (by decide) kw2)) rfl rfl rfl rfl rfl ?_
  rintro v w7 ⟨rfl, he22⟩
  replace hE := hE.tr he22
  replace ho11 := Own.ext ho11 he22
  replace hr17 := hr17.ext he22
  replace hb_g18 := hb_g18.ext he22
  replace hr18 := hr18.ext he22
  replace ho20 := Own.ext ho20 he22
  have hz_he22 := he22.size
  refine wl_gval (ov_not (b := true) rfl) rfl rfl rfl rfl rfl ?_
  refine wl_val (ov_pick_f rfl rfl) rfl rfl rfl ?_
  refine q_nil (k_then ?_)
  refine wc_cond_f rfl ?_
  refine q_skip (k_then (wc_seq (wc_seq (wc_regionL ?_))))
  refine wl_val (ov_build (cs := [(.int .i64 3), (.string (strB [107])), (.slice none 0 0), (.slice none 0 0), (.slice none 0 0), (.int .u64 18446744073709551615), (.int .u64 5), (.string (strB [])), (.string (strB [])), (.string (strB []))]) ze36 pl36 rfl rfl) rfl rfl rfl ?_
  refine wl_step (or_buildBytes (l := [1, 107, 0, 0, 255, 255, 255, 255, 255, 255, 255, 255, 255, 1, 5]) bt32 (os := [.const (.int .u8 1), .const (.int .u8 107), .const (.int .u8 0), .const (.int .u8 0), .const (.int .u8 255), .const (.int .u8 255), .const (.int .u8 255), .const (.int .u8 255), .const (.int .u8 255), .const (.int .u8 255), .const (.int .u8 255), .const (.int .u8 255), .const (.int .u8 255), .const (.int .u8 1), .const (.int .u8 5)]) rfl rfl rfl (by decide)) rfl rfl rfl ?_
  rintro v w8 ⟨A26, c26, rfl, ho26, he26⟩
  replace hE := hE.tr he26
  replace ho11 := Own.ext ho11 he26
  replace hr17 := hr17.ext he26
  replace hb_g18 := hb_g18.ext he26
  replace hr18 := hr18.ext he26
  replace ho20 := Own.ext ho20 he26
  have hz_he26 := he26.size
  have hq_ho26 := fun g e => Own.lt ho26 (g := g) e
  refine wl_val (ov_build (cs := [(.int .u8 3), (.slice A26 [1, 107, 0, 0, 255, 255, 255, 255, 255, 255, 255, 255, 255, 1, 5].length c26)]) ze40 pl40 rfl rfl) rfl rfl rfl ?_
  refine wl_step (or_call0 cl15 rfl rfl (lwrites_any _ (⟨3, [107], [], [], [], 18446744073709551615, 5, [], [], []⟩ : Cmd) 0 0 none 0 none 0 none 0 (Rd.nil _ 0 _ _ _ _ (Nat.zero_le _)) (Rd.nil _ 0 _ _ _ _ (Nat.zero_le _)) (Rd.nil _ 0 _ _ _ _ (Nat.zero_le _)) _ _ (3) _ _ [1, 107, 0, 0, 255, 255, 255, 255, 255, 255, 255, 255, 255, 1, 5] (OwnB.rd ho26) 0 _ (by rfl) (by decide) (by decide) (by decide) kw3)) rfl rfl rfl ?_
  rintro v w9 ⟨rfl, he28⟩
  replace hE := hE.tr he28
  replace ho11 := Own.ext ho11 he28
  replace hr17 := hr17.ext he28
  replace hb_g18 := hb_g18.ext he28
  replace hr18 := hr18.ext he28
  replace ho20 := Own.ext ho20 he28
  replace ho26 := Own.ext ho26 he28
  have hz_he28 := he28.size
  refine wl_val (ov_not (b := true) rfl) rfl rfl rfl ?_
  refine vm rfl rfl ?_
  refine wl_gstep (or_buildSlice1 (os := [.const (.string (strB [97])), .const (.string (strB [98, 99]))]) sl27 rfl rfl rfl (by simp [Value.oneCell']) (by decide)) rfl rfl rfl rfl rfl ?_
  rintro v w10 ⟨g31, rfl, hb_g31, he31, hl31, hu31, _⟩
  replace hE := hE.tr he31
  replace ho11 := Own.ext ho11 he31
  replace hr17 := hr17.ext he31
  replace hb_g18 := hb_g18.ext he31
  replace hr18 := hr18.ext he31
  replace ho20 := Own.ext ho20 he31
  replace ho26 := Own.ext ho26 he31
  have hz_he31 := he31.size
  have hr31 := hb_g31.rdL (lo := 0) (size := 1) (n := 2) rfl (by decide) (Nat.zero_le _)
  refine wl_gval (ov_build (cs := [(.int .i64 5), (.string (strB [])), (.slice (some ⟨g31, 0, none⟩) 2 2), (.slice none 0 0), (.slice none 0 0), (.int .u64 0), (.int .u64 0), (.string (strB [])), (.string (strB [])), (.string (strB []))]) ze36 pl36 rfl rfl) rfl rfl rfl rfl rfl ?_
  refine wl_gstep (or_buildBytes (l := [2, 1, 97, 2, 98, 99]) bt32 (os := [.const (.int .u8 2), .const (.int .u8 1), .const (.int .u8 97), .const (.int .u8 2), .const (.int .u8 98), .const (.int .u8 99)]) rfl rfl rfl (by decide)) rfl rfl rfl rfl rfl ?_
  rintro v w11 ⟨A33, c33, rfl, ho33, he33⟩
  replace hE := hE.tr he33
  replace ho11 := Own.ext ho11 he33
  replace hr17 := hr17.ext he33
  replace hb_g18 := hb_g18.ext he33
  replace hr18 := hr18.ext he33
  replace ho20 := Own.ext ho20 he33
  replace ho26 := Own.ext ho26 he33
  replace hb_g31 := hb_g31.ext he33
  replace hr31 := hr31.ext he33
  have hz_he33 := he33.size
  have hq_ho33 := fun g e => Own.lt ho33 (g := g) e
  refine wl_gval (ov_build (cs := [(.int .u8 5), (.slice A33 [2, 1, 97, 2, 98, 99].length c33)]) ze40 pl40 rfl rfl) rfl rfl rfl rfl rfl ?_
  refine wl_gstep (or_call0 cl15 rfl rfl (lwrites_any _ (⟨5, [], [[97], [98, 99]], [], [], 0, 0, [], [], []⟩ : Cmd) 0 _ (some ⟨g31, 0, none⟩) 2 none 0 none 0 ((Rd.top hr31).mono (Nat.zero_le _) (Nat.le_refl _)) (Rd.nil _ 0 _ _ _ _ (Nat.zero_le _)) (Rd.nil _ 0 _ _ _ _ (Nat.zero_le _)) _ _ (5) _ _ [2, 1, 97, 2, 98, 99] (OwnB.rd ho33) 0 _ (by rfl) (by decide) (by decide) (by decide) kw4)) rfl rfl rfl rfl rfl ?_
  rintro v w12 ⟨rfl, he35⟩
  replace hE := hE.tr he35
  replace ho11 := Own.ext ho11 he35
  replace hr17 := hr17.ext he35
  replace hb_g18 := hb_g18.ext he35
  replace hr18 := hr18.ext he35
  replace ho20 := Own.ext ho20 he35
  replace ho26 := Own.ext ho26 he35
  replace hb_g31 := hb_g31.ext he35
  replace hr31 := hr31.ext he35
  replace ho33 := Own.ext ho33 he35
  have hz_he35 := he35.size
  refine wl_gval (ov_not (b := true) rfl) rfl rfl rfl rfl rfl ?_
  refine wl_val (ov_pick_f rfl rfl) rfl rfl rfl ?_
  refine vm rfl rfl ?_
  refine wl_gval (ov_build (cs := [(.int .i64 14), (.string (strB [])), (.slice none 0 0), (.slice none 0 0), (.slice none 0 0), (.int .u64 0), (.int .u64 0), (.string (strB [])), (.string (strB [])), (.string (strB []))]) ze36 pl36 rfl rfl) rfl rfl rfl rfl rfl ?_
  refine wl_gval (ov_build (cs := [(.int .u8 14), (.slice none 0 0)]) ze40 pl40 rfl rfl) rfl rfl rfl rfl rfl ?_
  refine wl_gstep (or_call0 cl15 rfl rfl (lwrites_any _ (⟨14, [], [], [], [], 0, 0, [], [], []⟩ : Cmd) 0 0 none 0 none 0 none 0 (Rd.nil _ 0 _ _ _ _ (Nat.zero_le _)) (Rd.nil _ 0 _ _ _ _ (Nat.zero_le _)) (Rd.nil _ 0 _ _ _ _ (Nat.zero_le _)) _ _ (14) _ _ [] (RdB.nil _ 0 0) 0 _ (by rfl) (by decide) (by decide) (by decide) kw5)) rfl rfl rfl rfl rfl ?_
  rintro v w13 ⟨rfl, he41⟩
  replace hE := hE.tr he41
  replace ho11 := Own.ext ho11 he41
  replace hr17 := hr17.ext he41
  replace hb_g18 := hb_g18.ext he41
  replace hr18 := hr18.ext he41
  replace ho20 := Own.ext ho20 he41
  replace ho26 := Own.ext ho26 he41
  replace hb_g31 := hb_g31.ext he41
  replace hr31 := hr31.ext he41
  replace ho33 := Own.ext ho33 he41
  have hz_he41 := he41.size
  refine wl_gval (ov_not (b := true) rfl) rfl rfl rfl rfl rfl ?_
  refine wl_val (ov_pick_f rfl rfl) rfl rfl rfl ?_
  refine q_nil (k_then ?_)
  refine wc_cond_f rfl ?_
  refine q_skip (k_then (wc_seq (wc_regionL ?_)))
  refine wl_val (ov_build (cs := [(.int .u8 0), (.slice none 0 0)]) ze40 pl40 rfl rfl) rfl rfl rfl ?_
  refine wl_step (or_alloc (cs := [(.int .u8 0), (.slice none 0 0)]) ze40 rfl) rfl rfl rfl ?_
  rintro v w14 ⟨g1, rfl, hb_g1, he1, hl1, hu1⟩
  replace hE := hE.tr he1
  replace ho11 := Own.ext ho11 he1
  replace hr17 := hr17.ext he1
  replace hb_g18 := hb_g18.ext he1
  replace hr18 := hr18.ext he1
  replace ho20 := Own.ext ho20 he1
  replace ho26 := Own.ext ho26 he1
  replace hb_g31 := hb_g31.ext he1
  replace hr31 := hr31.ext he1
  replace ho33 := Own.ext ho33 he1
  have hz_he1 := he1.size
  refine wl_step0 (or_storeBlk (vs := [(.int .u8 0), (.slice none 0 0)]) sz40 rfl rfl (by simp [Value.oneCell']) hb_g1 rfl) rfl rfl ?_
  rintro _ w15 ⟨hN15, hg15⟩
  have hz_hg15 := hg15.size
  replace hE := hE.gr hg15 (fun _ e => by cases e; omega)
  replace ho11 := Own.gr ho11 hg15 (by first | exact .inl rfl | (right; intro e; first | (have := hq_ho11 _ e; omega) | (have := Own.lt ho11 e; omega) | exact own_blk_ne ho11 hb_g1 (by decide) e))
  replace hr17 := hr17.gr hg15 (fun _ e => by cases e; omega)
  replace hb_g18 := hb_g18.gr hg15 (by intro e; cases e; omega)
  replace hr18 := hr18.gr hg15 (fun _ e => by cases e; omega)
  replace ho20 := Own.gr ho20 hg15 (by first | exact .inl rfl | (right; intro e; first | (have := hq_ho20 _ e; omega) | (have := Own.lt ho20 e; omega) | exact own_blk_ne ho20 hb_g1 (by decide) e))
  replace ho26 := Own.gr ho26 hg15 (by first | exact .inl rfl | (right; intro e; first | (have := hq_ho26 _ e; omega) | (have := Own.lt ho26 e; omega) | exact own_blk_ne ho26 hb_g1 (by decide) e))
  replace hb_g31 := hb_g31.gr hg15 (by intro e; cases e; omega)
  replace hr31 := hr31.gr hg15 (fun _ e => by cases e; omega)
  replace ho33 := Own.gr ho33 hg15 (by first | exact .inl rfl | (right; intro e; first | (have := hq_ho33 _ e; omega) | (have := Own.lt ho33 e; omega) | exact own_blk_ne ho33 hb_g1 (by decide) e))
  replace hb_g1 := hN15
  refine q_nil (k_then (wc_seq (wc_seq (wc_regionL ?_))))
  refine wl_val (ov_build (cs := [(.int .i64 4), (.string (strB [])), (.slice none 0 0), (.slice none 0 0), (.slice none 0 0), (.int .u64 0), (.int .u64 0), (.string (strB [])), (.string (strB [])), (.string (strB []))]) ze36 pl36 rfl rfl) rfl rfl rfl ?_
  refine wl_val (ov_loadBlk (cs := [(.int .u8 0), (.slice none 0 0)]) ag40_2 rfl hb_g1) rfl rfl rfl ?_
  refine wl_step (or_call0 cl15 rfl rfl (lwrites_any _ (⟨4, [], [], [], [], 0, 0, [], [], []⟩ : Cmd) 0 0 none 0 none 0 none 0 (Rd.nil _ 0 _ _ _ _ (Nat.zero_le _)) (Rd.nil _ 0 _ _ _ _ (Nat.zero_le _)) (Rd.nil _ 0 _ _ _ _ (Nat.zero_le _)) _ _ (0) _ _ [] (RdB.nil _ 0 0) 2 _ (by rfl) (by decide) (by decide) (by decide) kw6)) rfl rfl rfl ?_
  rintro v w16 ⟨rfl, he47⟩
  replace hE := hE.tr he47
  replace ho11 := Own.ext ho11 he47
  replace hr17 := hr17.ext he47
  replace hb_g18 := hb_g18.ext he47
  replace hr18 := hr18.ext he47
  replace ho20 := Own.ext ho20 he47
  replace ho26 := Own.ext ho26 he47
  replace hb_g31 := hb_g31.ext he47
  replace hr31 := hr31.ext he47
  replace ho33 := Own.ext ho33 he47
  replace hb_g1 := hb_g1.ext he47
  have hz_he47 := he47.size
  refine wl_val (ov_not (b := true) rfl) rfl rfl rfl ?_
  refine vm rfl rfl ?_
  refine wl_gval (ov_build (cs := [(.int .i64 1), (.string (strB [97])), (.slice none 0 0), (.slice none 0 0), (.slice none 0 0), (.int .u64 0), (.int .u64 0), (.string (strB [])), (.string (strB [])), (.string (strB []))]) ze36 pl36 rfl rfl) rfl rfl rfl rfl rfl ?_
  refine wl_gval (ov_loadBlk (cs := [(.int .u8 0), (.slice none 0 0)]) ag40_2 rfl hb_g1) rfl rfl rfl rfl rfl ?_
  refine wl_gstep (or_call0 cl15 rfl rfl (lwrites_any _ (⟨1, [97], [], [], [], 0, 0, [], [], []⟩ : Cmd) 0 0 none 0 none 0 none 0 (Rd.nil _ 0 _ _ _ _ (Nat.zero_le _)) (Rd.nil _ 0 _ _ _ _ (Nat.zero_le _)) (Rd.nil _ 0 _ _ _ _ (Nat.zero_le _)) _ _ (0) _ _ [] (RdB.nil _ 0 0) 2 _ (by rfl) (by decide) (by decide) (by decide) kw7)) rfl rfl rfl rfl rfl ?_
  rintro v w17 ⟨rfl, he52⟩
  replace hE := hE.tr he52
  replace ho11 := Own.ext ho11 he52
  replace hr17 := hr17.ext he52
  replace hb_g18 := hb_g18.ext he52
  replace hr18 := hr18.ext he52
  replace ho20 := Own.ext ho20 he52
  replace ho26 := Own.ext ho26 he52
  replace hb_g31 := hb_g31.ext he52
  replace hr31 := hr31.ext he52
  replace ho33 := Own.ext ho33 he52
  replace hb_g1 := hb_g1.ext he52
  have hz_he52 := he52.size
  refine wl_gval (ov_not (b := true) rfl) rfl rfl rfl rfl rfl ?_
  refine wl_val (ov_pick_f rfl rfl) rfl rfl rfl ?_
  refine vm rfl rfl ?_
  refine wl_gval (ov_build (cs := [(.int .i64 4), (.string (strB [97])), (.slice none 0 0), (.slice none 0 0), (.slice none 0 0), (.int .u64 0), (.int .u64 0), (.string (strB [116])), (.string (strB [])), (.string (strB []))]) ze36 pl36 rfl rfl) rfl rfl rfl rfl rfl ?_
  refine wl_gval (ov_loadBlk (cs := [(.int .u8 0), (.slice none 0 0)]) ag40_2 rfl hb_g1) rfl rfl rfl rfl rfl ?_
  refine wl_gstep (or_call0 cl15 rfl rfl (lwrites_any _ (⟨4, [97], [], [], [], 0, 0, [116], [], []⟩ : Cmd) 0 0 none 0 none 0 none 0 (Rd.nil _ 0 _ _ _ _ (Nat.zero_le _)) (Rd.nil _ 0 _ _ _ _ (Nat.zero_le _)) (Rd.nil _ 0 _ _ _ _ (Nat.zero_le _)) _ _ (0) _ _ [] (RdB.nil _ 0 0) 2 _ (by rfl) (by decide) (by decide) (by decide) kw8)) rfl rfl rfl rfl rfl ?_
  rintro v w18 ⟨rfl, he58⟩
  replace hE := hE.tr he58
  replace ho11 := Own.ext ho11 he58
  replace hr17 := hr17.ext he58
  replace hb_g18 := hb_g18.ext he58
  replace hr18 := hr18.ext he58
  replace ho20 := Own.ext ho20 he58
  replace ho26 := Own.ext ho26 he58
  replace hb_g31 := hb_g31.ext he58
  replace hr31 := hr31.ext he58
  replace ho33 := Own.ext ho33 he58
  replace hb_g1 := hb_g1.ext he58
  have hz_he58 := he58.size
  refine wl_gval (ov_not (b := true) rfl) rfl rfl rfl rfl rfl ?_
  refine wl_val (ov_pick_f rfl rfl) rfl rfl rfl ?_
  refine q_nil (k_then ?_)
  refine wc_cond_f rfl ?_
  refine q_skip (k_then (wc_seq (wc_seq (wc_regionL ?_))))
  refine wl_step (or_buildBytes (l := [1, 97, 0]) bt32 (os := [.const (.int .u8 1), .const (.int .u8 97), .const (.int .u8 0)]) rfl rfl rfl (by decide)) rfl rfl rfl ?_
  rintro v w19 ⟨A61, c61, rfl, ho61, he61⟩
  replace hE := hE.tr he61
  replace ho11 := Own.ext ho11 he61
  replace hr17 := hr17.ext he61
  replace hb_g18 := hb_g18.ext he61
  replace hr18 := hr18.ext he61
  replace ho20 := Own.ext ho20 he61
  replace ho26 := Own.ext ho26 he61
  replace hb_g31 := hb_g31.ext he61
  replace hr31 := hr31.ext he61
  replace ho33 := Own.ext ho33 he61
  replace hb_g1 := hb_g1.ext he61
  have hz_he61 := he61.size
  have hq_ho61 := fun g e => Own.lt ho61 (g := g) e
  refine wl_val (ov_build (cs := [(.int .u8 4), (.slice A61 [1, 97, 0].length c61)]) ze40 pl40 rfl rfl) rfl rfl rfl ?_
  refine wl_val (ov_build (cs := [(.int .i64 0), (.string (strB [])), (.slice none 0 0), (.slice none 0 0), (.slice none 0 0), (.int .u64 0), (.int .u64 0), (.string (strB [])), (.string (strB [])), (.string (strB []))]) ze36 pl36 rfl rfl) rfl rfl rfl ?_
  refine wl_step (or_call0 cl23 rfl rfl (lreads_any _ _ _ (4) _ _ [1, 97, 0] (OwnB.rd ho61) (by decide) (⟨0, [], [], [], [], 0, 0, [], [], []⟩ : Cmd) 0 0 none 0 none 0 none 0 (Rd.nil _ 0 _ _ _ _ (Nat.zero_le _)) (Rd.nil _ 0 _ _ _ _ (Nat.zero_le _)) (Rd.nil _ 0 _ _ _ _ (Nat.zero_le _)) 6 _ (by rfl) kr1)) rfl rfl rfl ?_
  rintro v w20 ⟨rfl, he64⟩
  replace hE := hE.tr he64
  replace ho11 := Own.ext ho11 he64
  replace hr17 := hr17.ext he64
  replace hb_g18 := hb_g18.ext he64
  replace hr18 := hr18.ext he64
  replace ho20 := Own.ext ho20 he64
  replace ho26 := Own.ext ho26 he64
  replace hb_g31 := hb_g31.ext he64
  replace hr31 := hr31.ext he64
  replace ho33 := Own.ext ho33 he64
  replace hb_g1 := hb_g1.ext he64
  replace ho61 := Own.ext ho61 he64
  have hz_he64 := he64.size
  refine wl_val (ov_not (b := true) rfl) rfl rfl rfl ?_
  refine vm rfl rfl ?_
  refine wl_gval (ov_loadBlk (cs := [(.int .u8 0), (.slice none 0 0)]) ag40_2 rfl hb_g1) rfl rfl rfl rfl rfl ?_
  refine wl_gval (ov_build (cs := [(.int .i64 0), (.string (strB [])), (.slice none 0 0), (.slice none 0 0), (.slice none 0 0), (.int .u64 0), (.int .u64 0), (.string (strB [])), (.string (strB [])), (.string (strB []))]) ze36 pl36 rfl rfl) rfl rfl rfl rfl rfl ?_
  refine wl_gstep (or_call0 cl23 rfl rfl (lreads_any _ _ _ (0) _ _ [] (RdB.nil _ 0 0) (by decide) (⟨0, [], [], [], [], 0, 0, [], [], []⟩ : Cmd) 0 0 none 0 none 0 none 0 (Rd.nil _ 0 _ _ _ _ (Nat.zero_le _)) (Rd.nil _ 0 _ _ _ _ (Nat.zero_le _)) (Rd.nil _ 0 _ _ _ _ (Nat.zero_le _)) 6 _ (by rfl) kr2)) rfl rfl rfl rfl rfl ?_
  rintro v w21 ⟨rfl, he69⟩
  replace hE := hE.tr he69
  replace ho11 := Own.ext ho11 he69
  replace hr17 := hr17.ext he69
  replace hb_g18 := hb_g18.ext he69
  replace hr18 := hr18.ext he69
  replace ho20 := Own.ext ho20 he69
  replace ho26 := Own.ext ho26 he69
  replace hb_g31 := hb_g31.ext he69
  replace hr31 := hr31.ext he69
  replace ho33 := Own.ext ho33 he69
  replace hb_g1 := hb_g1.ext he69
  replace ho61 := Own.ext ho61 he69
  have hz_he69 := he69.size
  refine wl_gval (ov_not (b := true) rfl) rfl rfl rfl rfl rfl ?_
  refine wl_val (ov_pick_f rfl rfl) rfl rfl rfl ?_
  refine vm rfl rfl ?_
  refine wl_gstep (or_buildBytes (l := [1, 97, 0]) bt32 (os := [.const (.int .u8 1), .const (.int .u8 97), .const (.int .u8 0)]) rfl rfl rfl (by decide)) rfl rfl rfl rfl rfl ?_
  rintro v w22 ⟨A73, c73, rfl, ho73, he73⟩
  replace hE := hE.tr he73
  replace ho11 := Own.ext ho11 he73
  replace hr17 := hr17.ext he73
  replace hb_g18 := hb_g18.ext he73
  replace hr18 := hr18.ext he73
  replace ho20 := Own.ext ho20 he73
  replace ho26 := Own.ext ho26 he73
  replace hb_g31 := hb_g31.ext he73
  replace hr31 := hr31.ext he73
  replace ho33 := Own.ext ho33 he73
  replace hb_g1 := hb_g1.ext he73
  replace ho61 := Own.ext ho61 he73
  have hz_he73 := he73.size
  have hq_ho73 := fun g e => Own.lt ho73 (g := g) e
  refine wl_gval (ov_build (cs := [(.int .u8 6), (.slice A73 [1, 97, 0].length c73)]) ze40 pl40 rfl rfl) rfl rfl rfl rfl rfl ?_
  refine wl_gval (ov_build (cs := [(.int .i64 0), (.string (strB [])), (.slice none 0 0), (.slice none 0 0), (.slice none 0 0), (.int .u64 0), (.int .u64 0), (.string (strB [])), (.string (strB [])), (.string (strB []))]) ze36 pl36 rfl rfl) rfl rfl rfl rfl rfl ?_
  refine wl_gstep (or_call0 cl23 rfl rfl (lreads_any _ _ _ (6) _ _ [1, 97, 0] (OwnB.rd ho73) (by decide) (⟨0, [], [], [], [], 0, 0, [], [], []⟩ : Cmd) 0 0 none 0 none 0 none 0 (Rd.nil _ 0 _ _ _ _ (Nat.zero_le _)) (Rd.nil _ 0 _ _ _ _ (Nat.zero_le _)) (Rd.nil _ 0 _ _ _ _ (Nat.zero_le _)) 6 _ (by rfl) kr3)) rfl rfl rfl rfl rfl ?_
  rintro v w23 ⟨rfl, he76⟩
  replace hE := hE.tr he76
  replace ho11 := Own.ext ho11 he76
  replace hr17 := hr17.ext he76
  replace hb_g18 := hb_g18.ext he76
  replace hr18 := hr18.ext he76
  replace ho20 := Own.ext ho20 he76
  replace ho26 := Own.ext ho26 he76
  replace hb_g31 := hb_g31.ext he76
  replace hr31 := hr31.ext he76
  replace ho33 := Own.ext ho33 he76
  replace hb_g1 := hb_g1.ext he76
  replace ho61 := Own.ext ho61 he76
  replace ho73 := Own.ext ho73 he76
  have hz_he76 := he76.size
  refine wl_gval (ov_not (b := true) rfl) rfl rfl rfl rfl rfl ?_
  refine wl_val (ov_pick_f rfl rfl) rfl rfl rfl ?_
  refine vm rfl rfl ?_
  refine wl_gstep (or_buildBytes (l := [0]) bt32 (os := [.const (.int .u8 0)]) rfl rfl rfl (by decide)) rfl rfl rfl rfl rfl ?_
  rintro v w24 ⟨A80, c80, rfl, ho80, he80⟩
  replace hE := hE.tr he80
  replace ho11 := Own.ext ho11 he80
  replace hr17 := hr17.ext he80
  replace hb_g18 := hb_g18.ext he80
  replace hr18 := hr18.ext he80
  replace ho20 := Own.ext ho20 he80
  replace ho26 := Own.ext ho26 he80
  replace hb_g31 := hb_g31.ext he80
  replace hr31 := hr31.ext he80
  replace ho33 := Own.ext ho33 he80
  replace hb_g1 := hb_g1.ext he80
  replace ho61 := Own.ext ho61 he80
  replace ho73 := Own.ext ho73 he80
  have hz_he80 := he80.size
  have hq_ho80 := fun g e => Own.lt ho80 (g := g) e
  refine wl_gval (ov_build (cs := [(.int .u8 5), (.slice A80 [0].length c80)]) ze40 pl40 rfl rfl) rfl rfl rfl rfl rfl ?_
  refine wl_gval (ov_build (cs := [(.int .i64 0), (.string (strB [])), (.slice none 0 0), (.slice none 0 0), (.slice none 0 0), (.int .u64 0), (.int .u64 0), (.string (strB [])), (.string (strB [])), (.string (strB []))]) ze36 pl36 rfl rfl) rfl rfl rfl rfl rfl ?_
  refine wl_gstep (or_call0 cl23 rfl rfl (lreads_any _ _ _ (5) _ _ [0] (OwnB.rd ho80) (by decide) (⟨0, [], [], [], [], 0, 0, [], [], []⟩ : Cmd) 0 0 none 0 none 0 none 0 (Rd.nil _ 0 _ _ _ _ (Nat.zero_le _)) (Rd.nil _ 0 _ _ _ _ (Nat.zero_le _)) (Rd.nil _ 0 _ _ _ _ (Nat.zero_le _)) 6 _ (by rfl) kr4)) rfl rfl rfl rfl rfl ?_
  rintro v w25 ⟨rfl, he83⟩
  replace hE := hE.tr he83
  replace ho11 := Own.ext ho11 he83
  replace hr17 := hr17.ext he83
  replace hb_g18 := hb_g18.ext he83
  replace hr18 := hr18.ext he83
  replace ho20 := Own.ext ho20 he83
  replace ho26 := Own.ext ho26 he83
  replace hb_g31 := hb_g31.ext he83
  replace hr31 := hr31.ext he83
  replace ho33 := Own.ext ho33 he83
  replace hb_g1 := hb_g1.ext he83
  replace ho61 := Own.ext ho61 he83
  replace ho73 := Own.ext ho73 he83
  replace ho80 := Own.ext ho80 he83
  have hz_he83 := he83.size
  refine wl_gval (ov_not (b := true) rfl) rfl rfl rfl rfl rfl ?_
  refine wl_val (ov_pick_f rfl rfl) rfl rfl rfl ?_
  refine q_nil (k_then ?_)
  refine wc_cond_f rfl ?_
  refine q_skip (k_then (wc_seq (wc_regionL ?_)))
  refine wl_val (or_call0 cl10 rfl rfl (word_any _ 9 (hW.ext hE))) rfl rfl rfl ?_
  refine vm rfl rfl ?_
  iterate 2 refine vx rfl rfl rfl ?_
  iterate 2 refine va rfl rfl ?_
  refine q_nil (k_then (wc_seq (wc_regionL ?_)))
  refine wl_val (or_call0 cl10 rfl rfl (word_any _ 0 (hW.ext hE))) rfl rfl rfl ?_
  refine vm rfl rfl ?_
  iterate 2 refine vx rfl rfl rfl ?_
  iterate 2 refine va rfl rfl ?_
  refine q_nil (k_then (wc_seq (wc_regionL ?_)))
  refine wl_val (or_call0 cl12 rfl rfl (op_any _ [109, 103, 101, 116] (hW.ext hE))) rfl rfl rfl ?_
  refine vm rfl rfl ?_
  iterate 2 refine vx rfl rfl rfl ?_
  iterate 2 refine va rfl rfl ?_
  refine q_nil (k_then (wc_seq (wc_regionL ?_)))
  refine wl_val (or_call0 cl12 rfl rfl (op_any _ [71, 101, 116] (hW.ext hE))) rfl rfl rfl ?_
  refine vm rfl rfl ?_
  iterate 2 refine vx rfl rfl rfl ?_
  iterate 2 refine va rfl rfl ?_
  refine q_nil (k_then (wc_seq (wc_regionL ?_)))
  refine vm rfl rfl ?_
  refine wl_val (ov_seq rfl rfl) rfl rfl rfl ?_
  refine wl_spell (d := 103) rfl (bt (by rw [kwd1])) ?_
  refine vm rfl rfl ?_
  refine wl_gval (ov_move rfl) rfl rfl rfl rfl rfl ?_
  refine wl_gval (ov_eql rfl rfl) rfl rfl rfl rfl rfl ?_
  refine wl_spell (d := 106) rfl (bt (by rw [kwd1]; rfl)) ?_
  refine wl_val (ov_pick_t rfl rfl) rfl rfl rfl ?_
  refine vm rfl rfl ?_
  refine wl_gval (ov_move rfl) rfl rfl rfl rfl rfl ?_
  refine wl_gval (ov_eql rfl rfl) rfl rfl rfl rfl rfl ?_
  refine wl_spell (d := 110) rfl (bt (by rw [kwd2]; rfl)) ?_
  refine wl_val (ov_pick_t rfl rfl) rfl rfl rfl ?_
  refine vm rfl rfl ?_
  refine wl_gval (ov_move rfl) rfl rfl rfl rfl rfl ?_
  refine wl_gval (ov_eql rfl rfl) rfl rfl rfl rfl rfl ?_
  refine wl_spell (d := 114) rfl (bt (by rw [kop1]; rfl)) ?_
  refine wl_val (ov_pick_t rfl rfl) rfl rfl rfl ?_
  refine vm rfl rfl ?_
  refine wl_gval (ov_move rfl) rfl rfl rfl rfl rfl ?_
  refine wl_gval (ov_eql rfl rfl) rfl rfl rfl rfl rfl ?_
  refine wl_spell (d := 118) rfl (bt (by rw [kop1]; rfl)) ?_
  refine wl_val (ov_pick_t rfl rfl) rfl rfl rfl ?_
  refine vm rfl rfl ?_
  refine wl_gval (ov_move rfl) rfl rfl rfl rfl rfl ?_
  refine wl_gval (ov_eql rfl rfl) rfl rfl rfl rfl rfl ?_
  refine wl_spell (d := 122) rfl (bt (by rw [kop2]; rfl)) ?_
  refine wl_val (ov_pick_t rfl rfl) rfl rfl rfl ?_
  refine va rfl rfl ?_
  refine q_nil (k_then (q_ret ?_))
  refine e_ret rfl rfl ?_
  exact ⟨rfl, hE⟩

end Go.Proofs.YtohnkjjjejnkpaaDoor
