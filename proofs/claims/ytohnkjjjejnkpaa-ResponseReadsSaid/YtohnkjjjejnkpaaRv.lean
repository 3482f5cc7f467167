/-
  The walk of ResponseReads.
-/
import Derived.Test.YtohnkjjjejnkpaaRu
import Derived.Test.YtohnkjjjejnkpaaRspS
import Derived.Test.YtohnkjjjejnkpaaRj
namespace Go.Proofs.Ytohnkjjjejnkpaa
open Go.RowKit
set_option linter.unusedVariables false
set_option maxRecDepth 4000
theorem cl18 : callable Try.prog 18 = true := by kernel_rfl
theorem cl9 : callable Try.prog 9 = true := by kernel_rfl
theorem sz5 : (Try.prog.info? 5).map (·.size) = some 1 := by kernel_rfl

theorem rreads8_a (w : World) (lo hi : Nat) (x : UInt8) (A : Option Addr) (c : Nat) (l : List UInt8) (hr : RdB w lo hi A c l) (h : 1000 < l.length) :
    Fn Try.prog 4 #[(.agg #[(.int .u8 (↑x.toNat : Int)), (.slice A l.length c)])] w (fun v w' => v = .bool true ∧ Ext w w')  := by
  replace hr := hr.top
  have hE := ext_refl w
  refine fn_enter (args := [(.agg #[(.int .u8 (↑x.toNat : Int)), (.slice A l.length c)])]) Try.func4 rfl rfl rfl ?_
  show WC _ _ _ _ [(0, (.agg #[(.int .u8 (↑x.toNat : Int)), (.slice A l.length c)]))] _
  refine wc_seq (wc_regionL ?_)
  refine wl_step (or_box (cs := [(.int .u8 (↑x.toNat : Int)), (.slice A l.length c)]) rfl rfl) rfl rfl rfl ?_
  rintro v w1 ⟨g1, rfl, hb_g1, he1, hl1, hu1⟩
  replace hr := hr.ext he1
  replace hE := hE.tr he1
  have hz_he1 := he1.size
  refine va rfl rfl ?_
  refine q_nil (k_then (wc_seq (wc_seq (wc_regionL ?_))))
  refine wl_val (ov_field0 (off := 1) fo34_1 rfl) rfl rfl rfl ?_
  refine wl_val (ov_loadAt oc32 rfl hb_g1 rfl) rfl rfl rfl ?_
  refine wl_val (ov_len Try.underlying32 rfl) rfl rfl rfl ?_
  refine wl_val (ov_gtr rfl rfl) rfl rfl rfl ?_
  refine q_nil (k_then ?_)
  refine wc_cond_T rfl (decide_eq_true (by omega)) ?_
  refine wc_seq (wc_regionL ?_)
  refine wl_step (or_call0 cl9 rfl rfl (known08_any _)) rfl rfl rfl ?_
  rintro v w2 ⟨rfl, he13⟩
  replace hr := hr.ext he13
  replace hE := hE.tr he13
  replace hb_g1 := hb_g1.ext he13
  have hz_he13 := he13.size
  refine va rfl rfl ?_
  refine q_nil (k_then (q_ret (k_thenR ?_)))
  refine e_ret rfl rfl ?_
  exact ⟨rfl, hE⟩

theorem rreads8_b (w : World) (lo hi : Nat) (x : UInt8) (A : Option Addr) (c : Nat) (l : List UInt8) (hr : RdB w lo hi A c l) (h : ¬ 1000 < l.length) (hq : ¬ (rdR ((x.toNat : Int) - 64) l).2 = 0) :
    Fn Try.prog 4 #[(.agg #[(.int .u8 (↑x.toNat : Int)), (.slice A l.length c)])] w (fun v w' => v = .bool true ∧ Ext w w')  := by
  replace hr := hr.top
  have hE := ext_refl w
  have hy : refRd ((x.toNat : Int) - 64) l = (rspO 0 0, false) := (refRd_eq _ _).trans (if_neg hq)
  have hrd : rdR ((x.toNat : Int) - 64) l = (rspO 0 0, 6) := rdR_bad fun k => hq (by unfold rdR; rw [if_pos k])
  refine fn_enter (args := [(.agg #[(.int .u8 (↑x.toNat : Int)), (.slice A l.length c)])]) Try.func4 rfl rfl rfl ?_
  show WC _ _ _ _ [(0, (.agg #[(.int .u8 (↑x.toNat : Int)), (.slice A l.length c)]))] _
  refine wc_seq (wc_regionL ?_)
  refine wl_step (or_box (cs := [(.int .u8 (↑x.toNat : Int)), (.slice A l.length c)]) rfl rfl) rfl rfl rfl ?_
  rintro v w1 ⟨g1, rfl, hb_g1, he1, hl1, hu1⟩
  replace hr := hr.ext he1
  replace hE := hE.tr he1
  have hz_he1 := he1.size
  refine va rfl rfl ?_
  refine q_nil (k_then (wc_seq (wc_seq (wc_regionL ?_))))
  refine wl_val (ov_field0 (off := 1) fo34_1 rfl) rfl rfl rfl ?_
  refine wl_val (ov_loadAt oc32 rfl hb_g1 rfl) rfl rfl rfl ?_
  refine wl_val (ov_len Try.underlying32 rfl) rfl rfl rfl ?_
  refine wl_val (ov_gtr rfl rfl) rfl rfl rfl ?_
  refine q_nil (k_then ?_)
  refine wc_cond_F rfl (decide_eq_false (by omega)) ?_
  refine q_skip (k_then (wc_seq (wc_regionL ?_)))
  refine wl_val (ov_loadBlk (cs := [(.int .u8 (↑x.toNat : Int)), (.slice A l.length c)]) ag34_2 rfl hb_g1) rfl rfl rfl ?_
  refine wl_step (or_call0 cl18 rfl rfl (rrd8_any _ x ((x.toNat : Int) - 64) rfl _ _ A c l hr (by first | omega | exact Nat.le_refl _) (by omega))) rfl rfl rfl ?_
  rintro v w2 ⟨xs16, X16, cx16, N16, cn16, rfl, hv16, hx16, hn16, he16⟩
  replace hr := hr.ext he16
  replace hE := hE.tr he16
  replace hb_g1 := hb_g1.ext he16
  have hz_he16 := he16.size
  refine vm rfl rfl ?_
  iterate 2 refine vx rfl rfl rfl ?_
  refine wl_spell (d := 18) rfl (v' := (.bool false)) (by rw [hy]; rfl) ?_
  refine wl_step (or_alloc (cs := [(.int .i64 0), (.int .i64 0), (.slice none 0 0), (.int .u64 0), (.int .i64 0), (.slice none 0 0)]) ze28 rfl) rfl rfl rfl ?_
  rintro v w3 ⟨g3, rfl, hb_g3, he3, hl3, hu3⟩
  replace hr := hr.ext he3
  replace hE := hE.tr he3
  replace hb_g1 := hb_g1.ext he3
  replace hx16 := RdI.ext hx16 he3
  replace hn16 := hn16.ext he3
  have hz_he3 := he3.size
  refine wl_step0 (or_storeBlk (vs := [(.int .i64 (refRd ((x.toNat : Int) - 64) l).1.op), (.int .i64 (refRd ((x.toNat : Int) - 64) l).1.err), (.slice X16 (refRd ((x.toNat : Int) - 64) l).1.items.length cx16), (.int .u64 (↑(refRd ((x.toNat : Int) - 64) l).1.ver : Int)), (.int .i64 (refRd ((x.toNat : Int) - 64) l).1.count), (.slice N16 (refRd ((x.toNat : Int) - 64) l).1.nums.length cn16)]) sz28 rfl rfl (by simp [Value.oneCell']) hb_g3 rfl) rfl rfl ?_
  rintro _ w4 ⟨hN4, hg4⟩
  have hz_hg4 := hg4.size
  replace hr := hr.gr hg4 (fun _ e => by cases e; omega)
  replace hE := hE.gr hg4 (fun _ e => by cases e; omega)
  replace hb_g1 := hb_g1.gr hg4 (by intro e; cases e; omega)
  replace hx16 := RdI.gr hx16 hg4 (fun _ e => by cases e; omega)
  replace hn16 := hn16.gr hg4 (fun _ e => by cases e; omega)
  replace hb_g3 := hN4
  refine va rfl rfl ?_
  refine q_nil (k_then (wc_seq (wc_seq (wc_regionL ?_))))
  refine vm rfl rfl ?_
  refine wl_val (ov_not (b := false) rfl) rfl rfl rfl ?_
  refine q_nil (k_then ?_)
  refine wc_cond_t rfl ?_
  refine wc_seq (wc_regionL ?_)
  refine wl_val (ov_loadBlk (cs := [(.int .u8 (↑x.toNat : Int)), (.slice A l.length c)]) ag34_2 rfl hb_g1) rfl rfl rfl ?_
  refine wl_val (ov_build (cs := [(.int .i64 0), (.int .i64 0), (.slice none 0 0), (.int .u64 0), (.int .i64 0), (.slice none 0 0)]) ze28 pl28 rfl rfl) rfl rfl rfl ?_
  refine wl_step (or_call0 cl19 rfl rfl (lr8 _ _ _ (x) A c l hr (by omega) (rspO 0 0) [] rfl 0 0 none 0 none 0 (RdI.nil _ 0 _) (Rd.nil _ 0 _ _ _ _ (Nat.zero_le _)) 6 _ (by rfl) hrd)) rfl rfl rfl ?_
  rintro v w5 ⟨rfl, he23⟩
  replace hr := hr.ext he23
  replace hE := hE.tr he23
  replace hb_g1 := hb_g1.ext he23
  replace hx16 := RdI.ext hx16 he23
  replace hn16 := hn16.ext he23
  replace hb_g3 := hb_g3.ext he23
  have hz_he23 := he23.size
  refine vm rfl rfl ?_
  refine wl_gstep (or_call0 cl9 rfl rfl (known08_any _)) rfl rfl rfl rfl rfl ?_
  rintro v w6 ⟨rfl, he25⟩
  replace hr := hr.ext he25
  replace hE := hE.tr he25
  replace hb_g1 := hb_g1.ext he25
  replace hx16 := RdI.ext hx16 he25
  replace hn16 := hn16.ext he25
  replace hb_g3 := hb_g3.ext he25
  have hz_he25 := he25.size
  refine wl_val (ov_pick_t rfl rfl) rfl rfl rfl ?_
  refine va rfl rfl ?_
  refine q_nil (k_then (q_ret (k_thenR ?_)))
  refine e_ret rfl rfl ?_
  exact ⟨rfl, hE⟩

theorem rreads8_c (w : World) (lo hi : Nat) (x : UInt8) (A : Option Addr) (c : Nat) (l : List UInt8) (hr : RdB w lo hi A c l) (h : ¬ 1000 < l.length) (hq : (rdR ((x.toNat : Int) - 64) l).2 = 0) :
    Fn Try.prog 4 #[(.agg #[(.int .u8 (↑x.toNat : Int)), (.slice A l.length c)])] w (fun v w' => v = .bool true ∧ Ext w w')  := by
  replace hr := hr.top
  have hE := ext_refl w
  have hy : refRd ((x.toNat : Int) - 64) l = ((rdR ((x.toNat : Int) - 64) l).1, true) := (refRd_eq _ _).trans (if_pos hq)
  refine fn_enter (args := [(.agg #[(.int .u8 (↑x.toNat : Int)), (.slice A l.length c)])]) Try.func4 rfl rfl rfl ?_
  show WC _ _ _ _ [(0, (.agg #[(.int .u8 (↑x.toNat : Int)), (.slice A l.length c)]))] _
  refine wc_seq (wc_regionL ?_)
  refine wl_step (or_box (cs := [(.int .u8 (↑x.toNat : Int)), (.slice A l.length c)]) rfl rfl) rfl rfl rfl ?_
  rintro v w1 ⟨g1, rfl, hb_g1, he1, hl1, hu1⟩
  replace hr := hr.ext he1
  replace hE := hE.tr he1
  have hz_he1 := he1.size
  refine va rfl rfl ?_
  refine q_nil (k_then (wc_seq (wc_seq (wc_regionL ?_))))
  refine wl_val (ov_field0 (off := 1) fo34_1 rfl) rfl rfl rfl ?_
  refine wl_val (ov_loadAt oc32 rfl hb_g1 rfl) rfl rfl rfl ?_
  refine wl_val (ov_len Try.underlying32 rfl) rfl rfl rfl ?_
  refine wl_val (ov_gtr rfl rfl) rfl rfl rfl ?_
  refine q_nil (k_then ?_)
  refine wc_cond_F rfl (decide_eq_false (by omega)) ?_
  refine q_skip (k_then (wc_seq (wc_regionL ?_)))
  refine wl_val (ov_loadBlk (cs := [(.int .u8 (↑x.toNat : Int)), (.slice A l.length c)]) ag34_2 rfl hb_g1) rfl rfl rfl ?_
  refine wl_step (or_call0 cl18 rfl rfl (rrd8_any _ x ((x.toNat : Int) - 64) rfl _ _ A c l hr (by first | omega | exact Nat.le_refl _) (by omega))) rfl rfl rfl ?_
  rintro v w2 ⟨xs16, X16, cx16, N16, cn16, rfl, hv16, hx16, hn16, he16⟩
  replace hr := hr.ext he16
  replace hE := hE.tr he16
  replace hb_g1 := hb_g1.ext he16
  have hz_he16 := he16.size
  refine vm rfl rfl ?_
  iterate 2 refine vx rfl rfl rfl ?_
  refine wl_spell (d := 18) rfl (v' := (.bool true)) (by rw [hy]; rfl) ?_
  refine wl_step (or_alloc (cs := [(.int .i64 0), (.int .i64 0), (.slice none 0 0), (.int .u64 0), (.int .i64 0), (.slice none 0 0)]) ze28 rfl) rfl rfl rfl ?_
  rintro v w3 ⟨g3, rfl, hb_g3, he3, hl3, hu3⟩
  replace hr := hr.ext he3
  replace hE := hE.tr he3
  replace hb_g1 := hb_g1.ext he3
  replace hx16 := RdI.ext hx16 he3
  replace hn16 := hn16.ext he3
  have hz_he3 := he3.size
  refine wl_step0 (or_storeBlk (vs := [(.int .i64 (refRd ((x.toNat : Int) - 64) l).1.op), (.int .i64 (refRd ((x.toNat : Int) - 64) l).1.err), (.slice X16 (refRd ((x.toNat : Int) - 64) l).1.items.length cx16), (.int .u64 (↑(refRd ((x.toNat : Int) - 64) l).1.ver : Int)), (.int .i64 (refRd ((x.toNat : Int) - 64) l).1.count), (.slice N16 (refRd ((x.toNat : Int) - 64) l).1.nums.length cn16)]) sz28 rfl rfl (by simp [Value.oneCell']) hb_g3 rfl) rfl rfl ?_
  rintro _ w4 ⟨hN4, hg4⟩
  have hz_hg4 := hg4.size
  replace hr := hr.gr hg4 (fun _ e => by cases e; omega)
  replace hE := hE.gr hg4 (fun _ e => by cases e; omega)
  replace hb_g1 := hb_g1.gr hg4 (by intro e; cases e; omega)
  replace hx16 := RdI.gr hx16 hg4 (fun _ e => by cases e; omega)
  replace hn16 := hn16.gr hg4 (fun _ e => by cases e; omega)
  replace hb_g3 := hN4
  refine va rfl rfl ?_
  refine q_nil (k_then (wc_seq (wc_seq (wc_regionL ?_))))
  refine vm rfl rfl ?_
  refine wl_val (ov_not (b := true) rfl) rfl rfl rfl ?_
  refine q_nil (k_then ?_)
  refine wc_cond_f rfl ?_
  refine q_skip (k_then (wc_seq ?_))
  refine wc_draw mixed 7 [(27, eqv (.pointer (some ⟨g1, 0, none⟩))), (28, eqv (.int .u8 (↑x.toNat : Int))), (29, eqv (.pointer (some ⟨g1, 1, none⟩))), (30, eqv (.slice A l.length c)), (31, isOwnB w4.heap.size 5 l), (32, (fun v w => ∃ A31 c31, v = (.agg #[(.int .u8 (↑x.toNat : Int)), (.slice A31 l.length c31)]) ∧ OwnB w w4.heap.size 5 A31 c31 l)), (5, (fun v w => ∃ g5, v = .pointer (some ⟨g5, 0, none⟩) ∧ Blk w g5 34 [(.int .u8 0), (.slice none 0 0)] ∧ w4.heap.size ≤ g5))] [[], [0], [], [2], [3], [1, 4], []] _ [] [] (fun _ _ h => h) trivial (by kernel_rfl) rfl ⟨⟨stb_eqv _, fun _ he => by cases he⟩, ⟨stb_eqv _, fun _ he => by cases he⟩, ⟨stb_eqv _, fun _ he => by cases he⟩, ⟨stb_eqv _, fun _ he => by cases he⟩, ⟨stb_isOwnB _ _ _, fun _ he => by cases he⟩, ⟨(fun v w w' ⟨A31, c31, hb, ho31⟩ he => ⟨A31, c31, hb, Own.ext ho31 he⟩), fun _ he => by cases he⟩, ⟨(fun v w w' ⟨g, hv, hb, hl⟩ he => ⟨g, hv, hb.ext he, hl⟩), fun _ he => by cases he⟩, trivial⟩ ⟨?_, ?_, ?_, ?_, ?_, ?_, ?_, trivial⟩ ?_
  · intro wd hxE
    replace hr := hr.ext hxE
    replace hE := hE.tr hxE
    replace hb_g1 := hb_g1.ext hxE
    replace hx16 := RdI.ext hx16 hxE
    replace hn16 := hn16.ext hxE
    replace hb_g3 := hb_g3.ext hxE
    have hz_hxE := hxE.size
    show OpG _ _ _ _ _ _
    exact og_plain rfl (ox_val (ov_field0 (off := 0) fo34_0 rfl))
  · intro wd hxE
    replace hr := hr.ext hxE
    replace hE := hE.tr hxE
    replace hb_g1 := hb_g1.ext hxE
    replace hx16 := RdI.ext hx16 hxE
    replace hn16 := hn16.ext hxE
    replace hb_g3 := hb_g3.ext hxE
    have hz_hxE := hxE.size
    rintro _ rfl
    show OpG _ _ _ _ _ _
    exact og_plain rfl (ox_val (ov_loadAt oc5 rfl hb_g1 rfl))
  · intro wd hxE
    replace hr := hr.ext hxE
    replace hE := hE.tr hxE
    replace hb_g1 := hb_g1.ext hxE
    replace hx16 := RdI.ext hx16 hxE
    replace hn16 := hn16.ext hxE
    replace hb_g3 := hb_g3.ext hxE
    have hz_hxE := hxE.size
    show OpG _ _ _ _ _ _
    exact og_plain rfl (ox_val (ov_field0 (off := 1) fo34_1 rfl))
  · intro wd hxE
    replace hr := hr.ext hxE
    replace hE := hE.tr hxE
    replace hb_g1 := hb_g1.ext hxE
    replace hx16 := RdI.ext hx16 hxE
    replace hn16 := hn16.ext hxE
    replace hb_g3 := hb_g3.ext hxE
    have hz_hxE := hxE.size
    rintro _ rfl
    show OpG _ _ _ _ _ _
    exact og_plain rfl (ox_val (ov_loadAt oc32 rfl hb_g1 rfl))
  · intro wd hxE
    replace hr := hr.ext hxE
    replace hE := hE.tr hxE
    replace hb_g1 := hb_g1.ext hxE
    replace hx16 := RdI.ext hx16 hxE
    replace hn16 := hn16.ext hxE
    replace hb_g3 := hb_g3.ext hxE
    have hz_hxE := hxE.size
    rintro _ rfl
    show OpG _ _ _ _ _ _
    refine og_plain rfl (OpRun.mono (or_bappend0 bt32 rfl rfl hr (by omega)) ?_)
    rintro v w5 ⟨A31, c31, rfl, ho31, he31⟩
    replace hr := hr.ext he31
    replace hE := hE.tr he31
    replace hb_g1 := hb_g1.ext he31
    replace hx16 := RdI.ext hx16 he31
    replace hn16 := hn16.ext he31
    replace hb_g3 := hb_g3.ext he31
    have hz_he31 := he31.size
    have hq_ho31 := fun g e => Own.lt ho31 (g := g) e
    exact ⟨⟨A31, c31, rfl, Own.mono ho31 (by omega)⟩, he31⟩
  · intro wd hxE
    replace hr := hr.ext hxE
    replace hE := hE.tr hxE
    replace hb_g1 := hb_g1.ext hxE
    replace hx16 := RdI.ext hx16 hxE
    replace hn16 := hn16.ext hxE
    replace hb_g3 := hb_g3.ext hxE
    have hz_hxE := hxE.size
    rintro _ rfl
    rintro _ ⟨A31, c31, rfl, ho31⟩
    show OpG _ _ _ _ _ _
    refine og_plain rfl (OpRun.mono (ov_build (cs := [(.int .u8 (↑x.toNat : Int)), (.slice A31 l.length c31)]) ze34 pl34 rfl rfl) ?_)
    rintro v _ ⟨rfl, rfl⟩
    exact ⟨⟨A31, c31, rfl, ho31⟩, ext_refl _⟩
  · intro wd hxE
    replace hr := hr.ext hxE
    replace hE := hE.tr hxE
    replace hb_g1 := hb_g1.ext hxE
    replace hx16 := RdI.ext hx16 hxE
    replace hn16 := hn16.ext hxE
    replace hb_g3 := hb_g3.ext hxE
    have hz_hxE := hxE.size
    show OpG _ _ _ _ _ _
    refine og_plain rfl (OpRun.mono (or_alloc (cs := [(.int .u8 0), (.slice none 0 0)]) ze34 rfl) ?_)
    rintro v w5 ⟨g5, rfl, hb_g5, he5, hl5, hu5⟩
    replace hr := hr.ext he5
    replace hE := hE.tr he5
    replace hb_g1 := hb_g1.ext he5
    replace hx16 := RdI.ext hx16 he5
    replace hn16 := hn16.ext he5
    replace hb_g3 := hb_g3.ext he5
    have hz_he5 := he5.size
    exact ⟨⟨g5, rfl, hb_g5, by omega⟩, he5⟩
  · intro wf6 hf6
    replace hr := hr.ext hf6
    replace hE := hE.tr hf6
    replace hb_g1 := hb_g1.ext hf6
    replace hx16 := RdI.ext hx16 hf6
    replace hn16 := hn16.ext hf6
    replace hb_g3 := hb_g3.ext hf6
    have hz_hf6 := hf6.size
    rintro _ rfl
    rintro _ rfl
    rintro _ rfl
    rintro _ rfl
    rintro _ ⟨A31, c31, rfl, ho31⟩
    rintro _ ⟨A31, c31, rfl, ho31⟩
    rintro _ ⟨g5, rfl, hb_g5, hl5⟩
    have hq_ho31 := fun g e => Own.lt ho31 (g := g) e
    show WL _ _ _ [_] _ _ _
    have hzb5 := hb_g5.lt
    refine wl_step0 (or_storeBlk (vs := [(.int .u8 (↑x.toNat : Int)), (.slice A31 l.length c31)]) sz34 rfl rfl (by simp [Value.oneCell']) hb_g5 rfl) rfl rfl ?_
    rintro _ w5 ⟨hN5, hg5⟩
    have hz_hg5 := hg5.size
    replace hr := hr.gr hg5 (fun _ e => by cases e; omega)
    replace hE := hE.gr hg5 (fun _ e => by cases e; omega)
    replace hb_g1 := hb_g1.gr hg5 (by intro e; cases e; omega)
    replace hx16 := RdI.gr hx16 hg5 (fun _ e => by cases e; omega)
    replace hn16 := hn16.gr hg5 (fun _ e => by cases e; omega)
    replace hb_g3 := hb_g3.gr hg5 (by intro e; cases e; omega)
    replace ho31 := Own.gr ho31 hg5 (by first | exact .inl rfl | (right; intro e; first | (have := hq_ho31 _ e; omega) | (have := Own.lt ho31 e; omega) | exact own_blk_ne ho31 hb_g5 (by decide) e))
    replace hb_g5 := hN5
    refine q_nil (k_then (wc_seq (wc_regionL ?_)))
    refine wl_val (ov_loadBlk (cs := [(.int .u8 (↑x.toNat : Int)), (.slice A31 l.length c31)]) ag34_2 rfl hb_g5) rfl rfl rfl ?_
    refine wl_step (or_call0 cl20 rfl rfl (rd8_read _ x ((x.toNat : Int) - 64) rfl _ _ A31 c31 l (OwnB.rd ho31) (by first | omega | decide | (simp; done)))) rfl rfl rfl ?_
    rintro v w6 ⟨X35, cx35, N35, cn35, xs35, rfl, hv35, hx35, hn35, he35⟩
    replace hr := hr.ext he35
    replace hE := hE.tr he35
    replace hb_g1 := hb_g1.ext he35
    replace hx16 := RdI.ext hx16 he35
    replace hn16 := hn16.ext he35
    replace hb_g3 := hb_g3.ext he35
    replace ho31 := Own.ext ho31 he35
    replace hb_g5 := hb_g5.ext he35
    have hz_he35 := he35.size
    refine vm rfl rfl ?_
    iterate 2 refine vx rfl rfl rfl ?_
    refine wl_step (or_alloc (cs := [(.int .i64 0), (.int .i64 0), (.slice none 0 0), (.int .u64 0), (.int .i64 0), (.slice none 0 0)]) ze28 rfl) rfl rfl rfl ?_
    rintro v w7 ⟨g6, rfl, hb_g6, he6, hl6, hu6⟩
    replace hr := hr.ext he6
    replace hE := hE.tr he6
    replace hb_g1 := hb_g1.ext he6
    replace hx16 := RdI.ext hx16 he6
    replace hn16 := hn16.ext he6
    replace hb_g3 := hb_g3.ext he6
    replace ho31 := Own.ext ho31 he6
    replace hb_g5 := hb_g5.ext he6
    replace hx35 := RdI.ext hx35 he6
    replace hn35 := hn35.ext he6
    have hz_he6 := he6.size
    refine wl_step0 (or_storeBlk (vs := [(.int .i64 (rdR ((x.toNat : Int) - 64) l).1.op), (.int .i64 (rdR ((x.toNat : Int) - 64) l).1.err), (.slice X35 (rdR ((x.toNat : Int) - 64) l).1.items.length cx35), (.int .u64 (↑(rdR ((x.toNat : Int) - 64) l).1.ver : Int)), (.int .i64 (rdR ((x.toNat : Int) - 64) l).1.count), (.slice N35 (rdR ((x.toNat : Int) - 64) l).1.nums.length cn35)]) sz28 rfl rfl (by simp [Value.oneCell']) hb_g6 rfl) rfl rfl ?_
    rintro _ w8 ⟨hN8, hg8⟩
    have hz_hg8 := hg8.size
    replace hr := hr.gr hg8 (fun _ e => by cases e; omega)
    replace hE := hE.gr hg8 (fun _ e => by cases e; omega)
    replace hb_g1 := hb_g1.gr hg8 (by intro e; cases e; omega)
    replace hx16 := RdI.gr hx16 hg8 (fun _ e => by cases e; omega)
    replace hn16 := hn16.gr hg8 (fun _ e => by cases e; omega)
    replace hb_g3 := hb_g3.gr hg8 (by intro e; cases e; omega)
    replace ho31 := Own.gr ho31 hg8 (by first | exact .inl rfl | (right; intro e; first | (have := hq_ho31 _ e; omega) | (have := Own.lt ho31 e; omega) | exact own_blk_ne ho31 hb_g6 (by decide) e))
    replace hb_g5 := hb_g5.gr hg8 (by intro e; cases e; omega)
    replace hx35 := RdI.gr hx35 hg8 (fun _ e => by cases e; omega)
    replace hn35 := hn35.gr hg8 (fun _ e => by cases e; omega)
    replace hb_g6 := hN8
    refine va rfl rfl ?_
    refine q_nil (k_then (wc_seq (wc_seq (wc_regionL ?_))))
    refine wl_val (ov_field0 (off := 1) fo34_1 rfl) rfl rfl rfl ?_
    refine wl_val (ov_loadAt oc32 rfl hb_g5 rfl) rfl rfl rfl ?_
    refine wl_val (ov_len Try.underlying32 rfl) rfl rfl rfl ?_
    refine vm rfl rfl ?_
    refine q_nil (k_then ?_)
    have hcap_5 := RdB.cap (OwnB.rd ho31)
    have hbl_5 := hb_g5.lt
    refine wc_block ?_
    refine wc_loop (σ := Nat × List UInt8) (fun s => l.length - s.1) (fun s => [(41, .int .i64 (s.1 : Int)), (2, (.bool false)), (3, (.pointer (some ⟨g3, 0, none⟩))), (5, (.pointer (some ⟨g5, 0, none⟩))), (6, (.pointer (some ⟨g6, 0, none⟩))), (7, (.int .i64 (↑(rdR ((x.toNat : Int) - 64) l).2 : Int))), (40, (.int .i64 (↑l.length : Int)))]) (fun s w' => OwnB w' w4.heap.size 5 A31 c31 s.2 ∧ Gr w8 w' (blk A31) ∧ s.2.length = l.length ∧ s.1 ≤ l.length ∧ Blk w' g5 34 [(.int .u8 (↑x.toNat : Int)), (.slice A31 l.length c31)]) (0, l) (⟨ho31, (ext_refl _).row _, rfl, Nat.zero_le _, hb_g5⟩) (⟨rfl, rfl, rfl, rfl, rfl, rfl, rfl, trivial⟩) ?_
    rintro ⟨k_5, l_5⟩ w9 ⟨ho_5, hG_5, hL_5, hk_5, hb_g5⟩
    simp only at hL_5 hk_5
    replace ho_5 : OwnB _ _ _ _ _ l_5 := ho_5
    show WC _ _ _ _ [(41, (.int .i64 (↑k_5 : Int))), (2, (.bool false)), (3, (.pointer (some ⟨g3, 0, none⟩))), (5, (.pointer (some ⟨g5, 0, none⟩))), (6, (.pointer (some ⟨g6, 0, none⟩))), (7, (.int .i64 (↑(rdR ((x.toNat : Int) - 64) l).2 : Int))), (40, (.int .i64 (↑l.length : Int)))] _
    refine wc_seq (wc_regionL ?_)
    refine wl_val (ov_lss rfl rfl) rfl rfl rfl ?_
    refine q_nil (k_then (wc_seq ?_))
    refine wc_cond_d rfl (fun hc3 => ?_) (fun hc3 => ?_)
    · obtain ⟨g_5, hA_5, hg1_5, hgu_5⟩ := Own.addr ho_5 (by omega)
      subst hA_5
      refine q_skip (k_then (wc_seq (wc_block (wc_seq (wc_regionL ?_)))))
      refine vm rfl rfl ?_
      refine va rfl rfl ?_
      refine q_nil (k_then (wc_regionL ?_))
      refine wl_val (ov_field0 (off := 1) fo34_1 rfl) rfl rfl rfl ?_
      refine wl_val (ov_loadAt oc32 rfl hb_g5 rfl) rfl rfl rfl ?_
      refine vm rfl rfl ?_
      refine wl_val (ov_oindex bt32.s rfl rfl rfl (by omega)) rfl rfl rfl ?_
      refine wl_val (ov_load oc5 rfl (OwnB.cellAt ho_5 (by omega))) rfl rfl rfl ?_
      refine wl_val (ov_add rfl rfl (wu8_succ _)) rfl rfl rfl ?_
      refine wl_val (ov_oindex bt32.s rfl rfl rfl (by omega)) rfl rfl rfl ?_
      refine wl_step0 (or_storeOwn sz5 rfl rfl ho_5 (by omega)) rfl rfl ?_
      rintro _ w10 ⟨ho2_5, hg2_5⟩
      have hz2_5 := hg2_5.size
      replace hb_g5 := hb_g5.gr hg2_5 (by first | (intro e; cases e; have := hq_ho31 _ rfl; omega) | exact own_blk_ne ho_5 hb_g5 (by decide))
      refine q_nil (k_block (k_then (wc_regionL ?_)))
      refine wl_val (ov_add rfl rfl (wi64 (by omega) (by omega))) rfl rfl rfl ?_
      refine vm rfl rfl ?_
      refine q_nil ?_
      refine k_loop ((k_5 + 1, l_5.set k_5 ((l_5.getD k_5 0) + 1))) (by show l.length - (k_5 + 1) < l.length - k_5; omega) (⟨rfl, rfl, rfl, rfl, rfl, rfl, rfl, trivial⟩) (⟨ho2_5, hG_5.gr hg2_5 (fun g e => .inl e), by show (List.set _ _ _).length = _; rw [List.length_set]; exact hL_5, by show k_5 + 1 ≤ _; omega, hb_g5⟩)
    · have hz_hG_5 := hG_5.size
      replace hr := hr.gr hG_5 (fun g e => by have := hq_ho31 g e; omega)
      replace hE := hE.gr hG_5 (fun g e => by have := hq_ho31 g e; omega)
      replace hb_g1 := hb_g1.gr hG_5 (by first | (intro e; have := hq_ho31 _ e; omega) | exact own_blk_ne ho31 hb_g1 (by decide))
      replace hx16 := RdI.gr hx16 hG_5 (fun g e => by have := hq_ho31 g e; omega)
      replace hn16 := hn16.gr hG_5 (fun g e => by have := hq_ho31 g e; omega)
      replace hb_g3 := hb_g3.gr hG_5 (by first | (intro e; have := hq_ho31 _ e; omega) | exact own_blk_ne ho31 hb_g3 (by decide))
      replace hx35 := RdI.gr hx35 hG_5 (fun g e => by have := hq_ho31 g e; omega)
      replace hn35 := hn35.gr hG_5 (fun g e => by have := hq_ho31 g e; omega)
      replace hb_g6 := hb_g6.gr hG_5 (by first | (intro e; have := hq_ho31 _ e; omega) | exact own_blk_ne ho31 hb_g6 (by decide))
      refine q_exit (k_thenX (k_thenX (k_blockE (k_then (wc_seq (wc_regionL ?_))))))
      refine wl_val (ov_loadBlk (cs := [(.int .i64 (rdR ((x.toNat : Int) - 64) l).1.op), (.int .i64 (rdR ((x.toNat : Int) - 64) l).1.err), (.slice X35 (rdR ((x.toNat : Int) - 64) l).1.items.length cx35), (.int .u64 (↑(rdR ((x.toNat : Int) - 64) l).1.ver : Int)), (.int .i64 (rdR ((x.toNat : Int) - 64) l).1.count), (.slice N35 (rdR ((x.toNat : Int) - 64) l).1.nums.length cn35)]) ag28_6 rfl hb_g6) rfl rfl rfl ?_
      refine wl_val (ov_loadBlk (cs := [(.int .i64 (refRd ((x.toNat : Int) - 64) l).1.op), (.int .i64 (refRd ((x.toNat : Int) - 64) l).1.err), (.slice X16 (refRd ((x.toNat : Int) - 64) l).1.items.length cx16), (.int .u64 (↑(refRd ((x.toNat : Int) - 64) l).1.ver : Int)), (.int .i64 (refRd ((x.toNat : Int) - 64) l).1.count), (.slice N16 (refRd ((x.toNat : Int) - 64) l).1.nums.length cn16)]) ag28_6 rfl hb_g3) rfl rfl rfl ?_
      refine wl_step (or_call0 cl14 rfl rfl (req8_any _ (rdR ((x.toNat : Int) - 64) l).1 xs35 hv35 _ _ X35 cx35 N35 cn35 hx35 hn35 (refRd ((x.toNat : Int) - 64) l).1 xs16 hv16 _ _ X16 cx16 N16 cn16 hx16 hn16)) rfl rfl rfl ?_
      rintro v w210 ⟨rfl, he54⟩
      replace hr := hr.ext he54
      replace hE := hE.tr he54
      replace hb_g1 := hb_g1.ext he54
      replace hx16 := RdI.ext hx16 he54
      replace hn16 := hn16.ext he54
      replace hb_g3 := hb_g3.ext he54
      replace hb_g5 := hb_g5.ext he54
      replace hx35 := RdI.ext hx35 he54
      replace hn35 := hn35.ext he54
      replace hb_g6 := hb_g6.ext he54
      have hz_he54 := he54.size
      refine wl_spell (d := 54) rfl (bt (by rw [hy])) ?_
      refine vm rfl rfl ?_
      refine wl_gval (ov_move rfl) rfl rfl rfl rfl rfl ?_
      refine wl_gval (ov_eql rfl rfl) rfl rfl rfl rfl rfl ?_
      refine wl_spell (d := 57) rfl (bt (by rw [hq]; rfl)) ?_
      refine wl_val (ov_pick_t rfl rfl) rfl rfl rfl ?_
      refine vm rfl rfl ?_
      refine wl_gstep (or_call0 cl9 rfl rfl (known08_any _)) rfl rfl rfl rfl rfl ?_
      rintro v w211 ⟨rfl, he60⟩
      replace hr := hr.ext he60
      replace hE := hE.tr he60
      replace hb_g1 := hb_g1.ext he60
      replace hx16 := RdI.ext hx16 he60
      replace hn16 := hn16.ext he60
      replace hb_g3 := hb_g3.ext he60
      replace hb_g5 := hb_g5.ext he60
      replace hx35 := RdI.ext hx35 he60
      replace hn35 := hn35.ext he60
      replace hb_g6 := hb_g6.ext he60
      have hz_he60 := he60.size
      refine wl_val (ov_pick_t rfl rfl) rfl rfl rfl ?_
      refine va rfl rfl ?_
      refine q_nil (k_then (q_ret ?_))
      refine e_ret rfl rfl ?_
      exact ⟨rfl, hE⟩

theorem responseReads_walk (w : World) (lo hi : Nat) (x : UInt8) (A : Option Addr) (c : Nat) (l : List UInt8) (hr : RdB w lo hi A c l) :
    Fn Try.prog 4 #[.agg #[.int .u8 (x.toNat : Int), .slice A l.length c]] w (fun v w' => v = .bool true ∧ Ext w w') := by
  by_cases h : 1000 < l.length
  · exact rreads8_a w lo hi x A c l hr h
  · by_cases hq : (rdR ((x.toNat : Int) - 64) l).2 = 0
    · exact rreads8_c w lo hi x A c l hr h hq
    · exact rreads8_b w lo hi x A c l hr h hq

end Go.Proofs.Ytohnkjjjejnkpaa
