/-
  The reference: valid commands; parts and commands written.
-/
import Derived.Test.YtohnkjjjejnkpaaDoorQi
namespace Go.Proofs.YtohnkjjjejnkpaaDoor
open Go.RowKit
set_option linter.unusedVariables false
set_option maxRecDepth 4000
theorem cl18 : callable Tryd.prog 18 = true := by kernel_rfl
theorem cl28 : callable Tryd.prog 28 = true := by kernel_rfl
theorem cl30 : callable Tryd.prog 30 = true := by kernel_rfl
theorem cl33 : callable Tryd.prog 33 = true := by kernel_rfl
theorem cl50 : callable Tryd.prog 50 = true := by kernel_rfl
theorem cl51 : callable Tryd.prog 51 = true := by kernel_rfl

theorem rvalid_lo (w : World) (c : Cmd) (lo hi : Nat) (K : Option Addr) (ck : Nat) (V : Option Addr) (cv : Nat) (T : Option Addr) (ct : Nat) (hK : RdS w lo hi K ck c.keys) (hV : RdB w lo hi V cv c.value) (hT : RdS w lo hi T ct c.tags) (h1 : c.op < 1) :
    Fn Tryd.prog 14 #[(.agg #[(.int .i64 c.op), (.string (strB c.key)), (.slice K c.keys.length ck), (.slice V c.value.length cv), (.slice T c.tags.length ct), (.int .u64 (↑c.life : Int)), (.int .u64 (↑c.ver : Int)), (.string (strB c.tag)), (.string (strB c.pre)), (.string (strB c.child))])] w (fun v w' => v = .bool (rvalid c) ∧ Ext w w')  := by
  replace hK := hK.top
  replace hV := hV.top
  replace hT := hT.top
  have hE := ext_refl w
  refine fn_enter (args := [(.agg #[(.int .i64 c.op), (.string (strB c.key)), (.slice K c.keys.length ck), (.slice V c.value.length cv), (.slice T c.tags.length ct), (.int .u64 (↑c.life : Int)), (.int .u64 (↑c.ver : Int)), (.string (strB c.tag)), (.string (strB c.pre)), (.string (strB c.child))])]) Tryd.func14 rfl rfl rfl ?_
  show WC _ _ _ _ [(0, (.agg #[(.int .i64 c.op), (.string (strB c.key)), (.slice K c.keys.length ck), (.slice V c.value.length cv), (.slice T c.tags.length ct), (.int .u64 (↑c.life : Int)), (.int .u64 (↑c.ver : Int)), (.string (strB c.tag)), (.string (strB c.pre)), (.string (strB c.child))]))] _
  refine wc_seq (wc_regionL ?_)
  refine wl_step (or_box (cs := [(.int .i64 c.op), (.string (strB c.key)), (.slice K c.keys.length ck), (.slice V c.value.length cv), (.slice T c.tags.length ct), (.int .u64 (↑c.life : Int)), (.int .u64 (↑c.ver : Int)), (.string (strB c.tag)), (.string (strB c.pre)), (.string (strB c.child))]) rfl rfl) rfl rfl rfl ?_
  rintro v w1 ⟨g1, rfl, hb_g1, he1, hl1, hu1⟩
  replace hK := hK.ext he1
  replace hV := hV.ext he1
  replace hT := hT.ext he1
  replace hE := hE.tr he1
  have hz_he1 := he1.size
  refine va rfl rfl ?_
  refine q_nil (k_then (wc_seq (wc_seq ?_)))
  refine wc_draw mixed 12 [(5, eqv (.pointer (some ⟨g1, 0, none⟩))), (6, eqv (.int .i64 c.op)), (7, eqv (.bool true)), (8, eqv (.bool true)), (9, eqv undef), (10, eqv undef), (11, eqv undef), (12, eqv (.bool true)), (13, eqv (.bool true)), (14, eqv undef), (15, eqv undef), (16, eqv undef)] [[], [0], [1], [2], [3], [3, 4], [3, 5], [3, 6], [7], [8], [8], [8, 10]] _ [] [] (fun _ _ h => h) trivial (by kernel_rfl) rfl ⟨⟨stb_eqv _, fun _ he => by cases he⟩, ⟨stb_eqv _, fun _ he => by cases he⟩, ⟨stb_eqv _, fun _ he => by cases he⟩, ⟨stb_eqv _, fun _ he => by cases he⟩, ⟨stb_eqv _, fun _ he => by cases he⟩, ⟨stb_eqv _, fun _ he => by cases he⟩, ⟨stb_eqv _, fun _ he => by cases he⟩, ⟨stb_eqv _, fun _ he => by cases he⟩, ⟨stb_eqv _, fun _ he => by cases he⟩, ⟨stb_eqv _, fun _ he => by cases he⟩, ⟨stb_eqv _, fun _ he => by cases he⟩, ⟨stb_eqv _, fun _ he => by cases he⟩, trivial⟩ ⟨?_, ?_, ?_, ?_, ?_, ?_, ?_, ?_, ?_, ?_, ?_, ?_, trivial⟩ ?_
  · intro wd hxE
    replace hK := hK.ext hxE
    replace hV := hV.ext hxE
    replace hT := hT.ext hxE
    replace hE := hE.tr hxE
    replace hb_g1 := hb_g1.ext hxE
    have hz_hxE := hxE.size
    show OpG _ _ _ _ _ _
    exact og_plain rfl (ox_val (ov_field0 (off := 0) fo36_0 rfl))
  · intro wd hxE
    replace hK := hK.ext hxE
    replace hV := hV.ext hxE
    replace hT := hT.ext hxE
    replace hE := hE.tr hxE
    replace hb_g1 := hb_g1.ext hxE
    have hz_hxE := hxE.size
    rintro _ rfl
    show OpG _ _ _ _ _ _
    exact og_plain rfl (ox_val (ov_loadAt oc22 rfl hb_g1 rfl))
  · intro wd hxE
    replace hK := hK.ext hxE
    replace hV := hV.ext hxE
    replace hT := hT.ext hxE
    replace hE := hE.tr hxE
    replace hb_g1 := hb_g1.ext hxE
    have hz_hxE := hxE.size
    rintro _ rfl
    show OpG _ _ _ _ _ _
    exact og_plain rfl (ox_T (by omega) (ov_lss rfl rfl))
  · intro wd hxE
    replace hK := hK.ext hxE
    replace hV := hV.ext hxE
    replace hT := hT.ext hxE
    replace hE := hE.tr hxE
    replace hb_g1 := hb_g1.ext hxE
    have hz_hxE := hxE.size
    rintro _ rfl
    show OpG _ _ _ _ _ _
    exact og_plain rfl (ox_val (ov_move rfl))
  · intro wd hxE
    replace hK := hK.ext hxE
    replace hV := hV.ext hxE
    replace hT := hT.ext hxE
    replace hE := hE.tr hxE
    replace hb_g1 := hb_g1.ext hxE
    have hz_hxE := hxE.size
    rintro _ rfl
    show OpG _ _ _ _ _ _
    exact og_off rfl rfl rfl rfl ⟨rfl, ext_refl _⟩
  · intro wd hxE
    replace hK := hK.ext hxE
    replace hV := hV.ext hxE
    replace hT := hT.ext hxE
    replace hE := hE.tr hxE
    replace hb_g1 := hb_g1.ext hxE
    have hz_hxE := hxE.size
    rintro _ rfl
    rintro _ rfl
    show OpG _ _ _ _ _ _
    exact og_off rfl rfl rfl rfl ⟨rfl, ext_refl _⟩
  · intro wd hxE
    replace hK := hK.ext hxE
    replace hV := hV.ext hxE
    replace hT := hT.ext hxE
    replace hE := hE.tr hxE
    replace hb_g1 := hb_g1.ext hxE
    have hz_hxE := hxE.size
    rintro _ rfl
    rintro _ rfl
    show OpG _ _ _ _ _ _
    exact og_off rfl rfl rfl rfl ⟨rfl, ext_refl _⟩
  · intro wd hxE
    replace hK := hK.ext hxE
    replace hV := hV.ext hxE
    replace hT := hT.ext hxE
    replace hE := hE.tr hxE
    replace hb_g1 := hb_g1.ext hxE
    have hz_hxE := hxE.size
    rintro _ rfl
    rintro _ rfl
    show OpG _ _ _ _ _ _
    exact og_plain rfl (ox_val (ov_pick_t rfl rfl))
  · intro wd hxE
    replace hK := hK.ext hxE
    replace hV := hV.ext hxE
    replace hT := hT.ext hxE
    replace hE := hE.tr hxE
    replace hb_g1 := hb_g1.ext hxE
    have hz_hxE := hxE.size
    rintro _ rfl
    show OpG _ _ _ _ _ _
    exact og_plain rfl (ox_val (ov_move rfl))
  · intro wd hxE
    replace hK := hK.ext hxE
    replace hV := hV.ext hxE
    replace hT := hT.ext hxE
    replace hE := hE.tr hxE
    replace hb_g1 := hb_g1.ext hxE
    have hz_hxE := hxE.size
    rintro _ rfl
    show OpG _ _ _ _ _ _
    exact og_off rfl rfl rfl rfl ⟨rfl, ext_refl _⟩
  · intro wd hxE
    replace hK := hK.ext hxE
    replace hV := hV.ext hxE
    replace hT := hT.ext hxE
    replace hE := hE.tr hxE
    replace hb_g1 := hb_g1.ext hxE
    have hz_hxE := hxE.size
    rintro _ rfl
    show OpG _ _ _ _ _ _
    exact og_off rfl rfl rfl rfl ⟨rfl, ext_refl _⟩
  · intro wd hxE
    replace hK := hK.ext hxE
    replace hV := hV.ext hxE
    replace hT := hT.ext hxE
    replace hE := hE.tr hxE
    replace hb_g1 := hb_g1.ext hxE
    have hz_hxE := hxE.size
    rintro _ rfl
    rintro _ rfl
    show OpG _ _ _ _ _ _
    exact og_off rfl rfl rfl rfl ⟨rfl, ext_refl _⟩
  · intro wf1 hf1
    replace hK := hK.ext hf1
    replace hV := hV.ext hf1
    replace hT := hT.ext hf1
    replace hE := hE.tr hf1
    replace hb_g1 := hb_g1.ext hf1
    have hz_hf1 := hf1.size
    rintro _ rfl
    rintro _ rfl
    rintro _ rfl
    rintro _ rfl
    rintro _ rfl
    rintro _ rfl
    rintro _ rfl
    rintro _ rfl
    rintro _ rfl
    rintro _ rfl
    rintro _ rfl
    rintro _ rfl
    show WL _ _ _ [_, _, _] _ _ _
    iterate 2 refine wl_gskip rfl rfl rfl rfl rfl rfl ?_
    refine wl_val (ov_pick_t rfl rfl) rfl rfl rfl ?_
    refine q_nil (k_then ?_)
    refine wc_cond_t rfl ?_
    refine wc_seq (wc_regionL ?_)
    refine va rfl rfl ?_
    refine q_nil (k_then (q_ret (k_thenR ?_)))
    refine e_ret rfl rfl ?_
    have ef : rvalid c = false := by unfold rvalid; rw [decide_eq_false (by omega)]; rfl
    rw [ef]
    exact ⟨rfl, hE⟩

theorem rvalid_hi (w : World) (c : Cmd) (lo hi : Nat) (K : Option Addr) (ck : Nat) (V : Option Addr) (cv : Nat) (T : Option Addr) (ct : Nat) (hK : RdS w lo hi K ck c.keys) (hV : RdB w lo hi V cv c.value) (hT : RdS w lo hi T ct c.tags) (h1 : 15 < c.op) :
    Fn Tryd.prog 14 #[(.agg #[(.int .i64 c.op), (.string (strB c.key)), (.slice K c.keys.length ck), (.slice V c.value.length cv), (.slice T c.tags.length ct), (.int .u64 (↑c.life : Int)), (.int .u64 (↑c.ver : Int)), (.string (strB c.tag)), (.string (strB c.pre)), (.string (strB c.child))])] w (fun v w' => v = .bool (rvalid c) ∧ Ext w w')  := by
  replace hK := hK.top
  replace hV := hV.top
  replace hT := hT.top
  have hE := ext_refl w
  refine fn_enter (args := [(.agg #[(.int .i64 c.op), (.string (strB c.key)), (.slice K c.keys.length ck), (.slice V c.value.length cv), (.slice T c.tags.length ct), (.int .u64 (↑c.life : Int)), (.int .u64 (↑c.ver : Int)), (.string (strB c.tag)), (.string (strB c.pre)), (.string (strB c.child))])]) Tryd.func14 rfl rfl rfl ?_
  show WC _ _ _ _ [(0, (.agg #[(.int .i64 c.op), (.string (strB c.key)), (.slice K c.keys.length ck), (.slice V c.value.length cv), (.slice T c.tags.length ct), (.int .u64 (↑c.life : Int)), (.int .u64 (↑c.ver : Int)), (.string (strB c.tag)), (.string (strB c.pre)), (.string (strB c.child))]))] _
  refine wc_seq (wc_regionL ?_)
  refine wl_step (or_box (cs := [(.int .i64 c.op), (.string (strB c.key)), (.slice K c.keys.length ck), (.slice V c.value.length cv), (.slice T c.tags.length ct), (.int .u64 (↑c.life : Int)), (.int .u64 (↑c.ver : Int)), (.string (strB c.tag)), (.string (strB c.pre)), (.string (strB c.child))]) rfl rfl) rfl rfl rfl ?_
  rintro v w1 ⟨g1, rfl, hb_g1, he1, hl1, hu1⟩
  replace hK := hK.ext he1
  replace hV := hV.ext he1
  replace hT := hT.ext he1
  replace hE := hE.tr he1
  have hz_he1 := he1.size
  refine va rfl rfl ?_
  refine q_nil (k_then (wc_seq (wc_seq ?_)))
  refine wc_draw mixed 12 [(5, eqv (.pointer (some ⟨g1, 0, none⟩))), (6, eqv (.int .i64 c.op)), (7, eqv (.bool false)), (8, eqv (.bool false)), (9, eqv (.pointer (some ⟨g1, 0, none⟩))), (10, eqv (.int .i64 c.op)), (11, eqv (.bool true)), (12, eqv (.bool true)), (13, eqv (.bool true)), (14, eqv undef), (15, eqv undef), (16, eqv undef)] [[], [0], [1], [2], [3], [3, 4], [3, 5], [3, 6], [7], [8], [8], [8, 10]] _ [] [] (fun _ _ h => h) trivial (by kernel_rfl) rfl ⟨⟨stb_eqv _, fun _ he => by cases he⟩, ⟨stb_eqv _, fun _ he => by cases he⟩, ⟨stb_eqv _, fun _ he => by cases he⟩, ⟨stb_eqv _, fun _ he => by cases he⟩, ⟨stb_eqv _, fun _ he => by cases he⟩, ⟨stb_eqv _, fun _ he => by cases he⟩, ⟨stb_eqv _, fun _ he => by cases he⟩, ⟨stb_eqv _, fun _ he => by cases he⟩, ⟨stb_eqv _, fun _ he => by cases he⟩, ⟨stb_eqv _, fun _ he => by cases he⟩, ⟨stb_eqv _, fun _ he => by cases he⟩, ⟨stb_eqv _, fun _ he => by cases he⟩, trivial⟩ ⟨?_, ?_, ?_, ?_, ?_, ?_, ?_, ?_, ?_, ?_, ?_, ?_, trivial⟩ ?_
  · intro wd hxE
    replace hK := hK.ext hxE
    replace hV := hV.ext hxE
    replace hT := hT.ext hxE
    replace hE := hE.tr hxE
    replace hb_g1 := hb_g1.ext hxE
    have hz_hxE := hxE.size
    show OpG _ _ _ _ _ _
    exact og_plain rfl (ox_val (ov_field0 (off := 0) fo36_0 rfl))
  · intro wd hxE
    replace hK := hK.ext hxE
    replace hV := hV.ext hxE
    replace hT := hT.ext hxE
    replace hE := hE.tr hxE
    replace hb_g1 := hb_g1.ext hxE
    have hz_hxE := hxE.size
    rintro _ rfl
    show OpG _ _ _ _ _ _
    exact og_plain rfl (ox_val (ov_loadAt oc22 rfl hb_g1 rfl))
  · intro wd hxE
    replace hK := hK.ext hxE
    replace hV := hV.ext hxE
    replace hT := hT.ext hxE
    replace hE := hE.tr hxE
    replace hb_g1 := hb_g1.ext hxE
    have hz_hxE := hxE.size
    rintro _ rfl
    show OpG _ _ _ _ _ _
    exact og_plain rfl (ox_F (by omega) (ov_lss rfl rfl))
  · intro wd hxE
    replace hK := hK.ext hxE
    replace hV := hV.ext hxE
    replace hT := hT.ext hxE
    replace hE := hE.tr hxE
    replace hb_g1 := hb_g1.ext hxE
    have hz_hxE := hxE.size
    rintro _ rfl
    show OpG _ _ _ _ _ _
    exact og_plain rfl (ox_val (ov_move rfl))
  · intro wd hxE
    replace hK := hK.ext hxE
    replace hV := hV.ext hxE
    replace hT := hT.ext hxE
    replace hE := hE.tr hxE
    replace hb_g1 := hb_g1.ext hxE
    have hz_hxE := hxE.size
    rintro _ rfl
    show OpG _ _ _ _ _ _
    exact og_on rfl rfl rfl (ox_val (ov_field0 (off := 0) fo36_0 rfl))
  · intro wd hxE
    replace hK := hK.ext hxE
    replace hV := hV.ext hxE
    replace hT := hT.ext hxE
    replace hE := hE.tr hxE
    replace hb_g1 := hb_g1.ext hxE
    have hz_hxE := hxE.size
    rintro _ rfl
    rintro _ rfl
    show OpG _ _ _ _ _ _
    exact og_on rfl rfl rfl (ox_val (ov_loadAt oc22 rfl hb_g1 rfl))
  · intro wd hxE
    replace hK := hK.ext hxE
    replace hV := hV.ext hxE
    replace hT := hT.ext hxE
    replace hE := hE.tr hxE
    replace hb_g1 := hb_g1.ext hxE
    have hz_hxE := hxE.size
    rintro _ rfl
    rintro _ rfl
    show OpG _ _ _ _ _ _
    exact og_on rfl rfl rfl (ox_T (by omega) (ov_gtr rfl rfl))
  · intro wd hxE
    replace hK := hK.ext hxE
    replace hV := hV.ext hxE
    replace hT := hT.ext hxE
    replace hE := hE.tr hxE
    replace hb_g1 := hb_g1.ext hxE
    have hz_hxE := hxE.size
    rintro _ rfl
    rintro _ rfl
    show OpG _ _ _ _ _ _
    exact og_plain rfl (ox_val (ov_pick_f rfl rfl))
  · intro wd hxE
    replace hK := hK.ext hxE
    replace hV := hV.ext hxE
    replace hT := hT.ext hxE
    replace hE := hE.tr hxE
    replace hb_g1 := hb_g1.ext hxE
    have hz_hxE := hxE.size
    rintro _ rfl
    show OpG _ _ _ _ _ _
    exact og_plain rfl (ox_val (ov_move rfl))
  · intro wd hxE
    replace hK := hK.ext hxE
    replace hV := hV.ext hxE
    replace hT := hT.ext hxE
    replace hE := hE.tr hxE
    replace hb_g1 := hb_g1.ext hxE
    have hz_hxE := hxE.size
    rintro _ rfl
    show OpG _ _ _ _ _ _
    exact og_off rfl rfl rfl rfl ⟨rfl, ext_refl _⟩
  · intro wd hxE
    replace hK := hK.ext hxE
    replace hV := hV.ext hxE
    replace hT := hT.ext hxE
    replace hE := hE.tr hxE
    replace hb_g1 := hb_g1.ext hxE
    have hz_hxE := hxE.size
    rintro _ rfl
    show OpG _ _ _ _ _ _
    exact og_off rfl rfl rfl rfl ⟨rfl, ext_refl _⟩
  · intro wd hxE
    replace hK := hK.ext hxE
    replace hV := hV.ext hxE
    replace hT := hT.ext hxE
    replace hE := hE.tr hxE
    replace hb_g1 := hb_g1.ext hxE
    have hz_hxE := hxE.size
    rintro _ rfl
    rintro _ rfl
    show OpG _ _ _ _ _ _
    exact og_off rfl rfl rfl rfl ⟨rfl, ext_refl _⟩
  · intro wf1 hf1
    replace hK := hK.ext hf1
    replace hV := hV.ext hf1
    replace hT := hT.ext hf1
    replace hE := hE.tr hf1
    replace hb_g1 := hb_g1.ext hf1
    have hz_hf1 := hf1.size
    rintro _ rfl
    rintro _ rfl
    rintro _ rfl
    rintro _ rfl
    rintro _ rfl
    rintro _ rfl
    rintro _ rfl
    rintro _ rfl
    rintro _ rfl
    rintro _ rfl
    rintro _ rfl
    rintro _ rfl
    show WL _ _ _ [_, _, _] _ _ _
    iterate 2 refine wl_gskip rfl rfl rfl rfl rfl rfl ?_
    refine wl_val (ov_pick_t rfl rfl) rfl rfl rfl ?_
    refine q_nil (k_then ?_)
    refine wc_cond_t rfl ?_
    refine wc_seq (wc_regionL ?_)
    refine va rfl rfl ?_
    refine q_nil (k_then (q_ret (k_thenR ?_)))
    refine e_ret rfl rfl ?_
    have ef : rvalid c = false := by unfold rvalid; rw [decide_eq_false (by omega)]; rfl
    rw [ef]
    exact ⟨rfl, hE⟩

theorem rvalid_ne (w : World) (c : Cmd) (lo hi : Nat) (K : Option Addr) (ck : Nat) (V : Option Addr) (cv : Nat) (T : Option Addr) (ct : Nat) (hK : RdS w lo hi K ck c.keys) (hV : RdB w lo hi V cv c.value) (hT : RdS w lo hi T ct c.tags) (h1 : 1 ≤ c.op) (h2 : c.op ≤ 15) (h3 : ¬ c = onlyC c) :
    Fn Tryd.prog 14 #[(.agg #[(.int .i64 c.op), (.string (strB c.key)), (.slice K c.keys.length ck), (.slice V c.value.length cv), (.slice T c.tags.length ct), (.int .u64 (↑c.life : Int)), (.int .u64 (↑c.ver : Int)), (.string (strB c.tag)), (.string (strB c.pre)), (.string (strB c.child))])] w (fun v w' => v = .bool (rvalid c) ∧ Ext w w')  := by
  replace hK := hK.top
  replace hV := hV.top
  replace hT := hT.top
  have hE := ext_refl w
  refine fn_enter (args := [(.agg #[(.int .i64 c.op), (.string (strB c.key)), (.slice K c.keys.length ck), (.slice V c.value.length cv), (.slice T c.tags.length ct), (.int .u64 (↑c.life : Int)), (.int .u64 (↑c.ver : Int)), (.string (strB c.tag)), (.string (strB c.pre)), (.string (strB c.child))])]) Tryd.func14 rfl rfl rfl ?_
  show WC _ _ _ _ [(0, (.agg #[(.int .i64 c.op), (.string (strB c.key)), (.slice K c.keys.length ck), (.slice V c.value.length cv), (.slice T c.tags.length ct), (.int .u64 (↑c.life : Int)), (.int .u64 (↑c.ver : Int)), (.string (strB c.tag)), (.string (strB c.pre)), (.string (strB c.child))]))] _
  refine wc_seq (wc_regionL ?_)
  refine wl_step (or_box (cs := [(.int .i64 c.op), (.string (strB c.key)), (.slice K c.keys.length ck), (.slice V c.value.length cv), (.slice T c.tags.length ct), (.int .u64 (↑c.life : Int)), (.int .u64 (↑c.ver : Int)), (.string (strB c.tag)), (.string (strB c.pre)), (.string (strB c.child))]) rfl rfl) rfl rfl rfl ?_
  rintro v w1 ⟨g1, rfl, hb_g1, he1, hl1, hu1⟩
  replace hK := hK.ext he1
  replace hV := hV.ext he1
  replace hT := hT.ext he1
  replace hE := hE.tr he1
  have hz_he1 := he1.size
  refine va rfl rfl ?_
  refine q_nil (k_then (wc_seq (wc_seq ?_)))
  refine wc_draw mixed 12 [(5, eqv (.pointer (some ⟨g1, 0, none⟩))), (6, eqv (.int .i64 c.op)), (7, eqv (.bool false)), (8, eqv (.bool false)), (9, eqv (.pointer (some ⟨g1, 0, none⟩))), (10, eqv (.int .i64 c.op)), (11, eqv (.bool false)), (12, eqv (.bool false)), (13, eqv (.bool false)), (14, eqv (.agg #[(.int .i64 c.op), (.string (strB c.key)), (.slice K c.keys.length ck), (.slice V c.value.length cv), (.slice T c.tags.length ct), (.int .u64 (↑c.life : Int)), (.int .u64 (↑c.ver : Int)), (.string (strB c.tag)), (.string (strB c.pre)), (.string (strB c.child))])), (15, eqv (.agg #[(.int .i64 c.op), (.string (strB c.key)), (.slice K c.keys.length ck), (.slice V c.value.length cv), (.slice T c.tags.length ct), (.int .u64 (↑c.life : Int)), (.int .u64 (↑c.ver : Int)), (.string (strB c.tag)), (.string (strB c.pre)), (.string (strB c.child))])), (16, (fun v wz => ∃ K1 k1 V1 v1 T1 t1, v = .agg (cmdc (onlyC c) K1 k1 V1 v1 T1 t1).toArray ∧ RdS wz lo wz.heap.size K1 k1 (onlyC c).keys ∧ RdB wz lo wz.heap.size V1 v1 (onlyC c).value ∧ RdS wz lo wz.heap.size T1 t1 (onlyC c).tags))] [[], [0], [1], [2], [3], [3, 4], [3, 5], [3, 6], [7], [8], [8], [8, 10]] _ [] [] (fun _ _ h => h) trivial (by kernel_rfl) rfl ⟨⟨stb_eqv _, fun _ he => by cases he⟩, ⟨stb_eqv _, fun _ he => by cases he⟩, ⟨stb_eqv _, fun _ he => by cases he⟩, ⟨stb_eqv _, fun _ he => by cases he⟩, ⟨stb_eqv _, fun _ he => by cases he⟩, ⟨stb_eqv _, fun _ he => by cases he⟩, ⟨stb_eqv _, fun _ he => by cases he⟩, ⟨stb_eqv _, fun _ he => by cases he⟩, ⟨stb_eqv _, fun _ he => by cases he⟩, ⟨stb_eqv _, fun _ he => by cases he⟩, ⟨stb_eqv _, fun _ he => by cases he⟩, ⟨(fun v w1 w2 ⟨K1, k1, V1, v1, T1, t1, hv, a, b, c⟩ he => ⟨K1, k1, V1, v1, T1, t1, hv, (a.ext he).mono (Nat.le_refl _) he.size, (b.ext he).mono (Nat.le_refl _) he.size, (c.ext he).mono (Nat.le_refl _) he.size⟩), fun _ he => by cases he⟩, trivial⟩ ⟨?_, ?_, ?_, ?_, ?_, ?_, ?_, ?_, ?_, ?_, ?_, ?_, trivial⟩ ?_
  · intro wd hxE
    replace hK := hK.ext hxE
    replace hV := hV.ext hxE
    replace hT := hT.ext hxE
    replace hE := hE.tr hxE
    replace hb_g1 := hb_g1.ext hxE
    have hz_hxE := hxE.size
    show OpG _ _ _ _ _ _
    exact og_plain rfl (ox_val (ov_field0 (off := 0) fo36_0 rfl))
  · intro wd hxE
    replace hK := hK.ext hxE
    replace hV := hV.ext hxE
    replace hT := hT.ext hxE
    replace hE := hE.tr hxE
    replace hb_g1 := hb_g1.ext hxE
    have hz_hxE := hxE.size
    rintro _ rfl
    show OpG _ _ _ _ _ _
    exact og_plain rfl (ox_val (ov_loadAt oc22 rfl hb_g1 rfl))
  · intro wd hxE
    replace hK := hK.ext hxE
    replace hV := hV.ext hxE
    replace hT := hT.ext hxE
    replace hE := hE.tr hxE
    replace hb_g1 := hb_g1.ext hxE
    have hz_hxE := hxE.size
    rintro _ rfl
    show OpG _ _ _ _ _ _
    exact og_plain rfl (ox_F (by omega) (ov_lss rfl rfl))
  · intro wd hxE
    replace hK := hK.ext hxE
    replace hV := hV.ext hxE
    replace hT := hT.ext hxE
    replace hE := hE.tr hxE
    replace hb_g1 := hb_g1.ext hxE
    have hz_hxE := hxE.size
    rintro _ rfl
    show OpG _ _ _ _ _ _
    exact og_plain rfl (ox_val (ov_move rfl))
  · intro wd hxE
    replace hK := hK.ext hxE
    replace hV := hV.ext hxE
    replace hT := hT.ext hxE
    replace hE := hE.tr hxE
    replace hb_g1 := hb_g1.ext hxE
    have hz_hxE := hxE.size
    rintro _ rfl
    show OpG _ _ _ _ _ _
    exact og_on rfl rfl rfl (ox_val (ov_field0 (off := 0) fo36_0 rfl))
  · intro wd hxE
    replace hK := hK.ext hxE
    replace hV := hV.ext hxE
    replace hT := hT.ext hxE
    replace hE := hE.tr hxE
    replace hb_g1 := hb_g1.ext hxE
    have hz_hxE := hxE.size
    rintro _ rfl
    rintro _ rfl
    show OpG _ _ _ _ _ _
    exact og_on rfl rfl rfl (ox_val (ov_loadAt oc22 rfl hb_g1 rfl))
  · intro wd hxE
    replace hK := hK.ext hxE
    replace hV := hV.ext hxE
    replace hT := hT.ext hxE
    replace hE := hE.tr hxE
    replace hb_g1 := hb_g1.ext hxE
    have hz_hxE := hxE.size
    rintro _ rfl
    rintro _ rfl
    show OpG _ _ _ _ _ _
    exact og_on rfl rfl rfl (ox_F (by omega) (ov_gtr rfl rfl))
  · intro wd hxE
    replace hK := hK.ext hxE
    replace hV := hV.ext hxE
    replace hT := hT.ext hxE
    replace hE := hE.tr hxE
    replace hb_g1 := hb_g1.ext hxE
    have hz_hxE := hxE.size
    rintro _ rfl
    rintro _ rfl
    show OpG _ _ _ _ _ _
    exact og_plain rfl (ox_val (ov_pick_f rfl rfl))
  · intro wd hxE
    replace hK := hK.ext hxE
    replace hV := hV.ext hxE
    replace hT := hT.ext hxE
    replace hE := hE.tr hxE
    replace hb_g1 := hb_g1.ext hxE
    have hz_hxE := hxE.size
    rintro _ rfl
    show OpG _ _ _ _ _ _
    exact og_plain rfl (ox_val (ov_move rfl))
  · intro wd hxE
    replace hK := hK.ext hxE
    replace hV := hV.ext hxE
    replace hT := hT.ext hxE
    replace hE := hE.tr hxE
    replace hb_g1 := hb_g1.ext hxE
    have hz_hxE := hxE.size
    rintro _ rfl
    show OpG _ _ _ _ _ _
    exact og_on rfl rfl rfl (ox_val (ov_loadBlk (cs := [(.int .i64 c.op), (.string (strB c.key)), (.slice K c.keys.length ck), (.slice V c.value.length cv), (.slice T c.tags.length ct), (.int .u64 (↑c.life : Int)), (.int .u64 (↑c.ver : Int)), (.string (strB c.tag)), (.string (strB c.pre)), (.string (strB c.child))]) ag36_10 rfl hb_g1))
  · intro wd hxE
    replace hK := hK.ext hxE
    replace hV := hV.ext hxE
    replace hT := hT.ext hxE
    replace hE := hE.tr hxE
    replace hb_g1 := hb_g1.ext hxE
    have hz_hxE := hxE.size
    rintro _ rfl
    show OpG _ _ _ _ _ _
    exact og_on rfl rfl rfl (ox_val (ov_loadBlk (cs := [(.int .i64 c.op), (.string (strB c.key)), (.slice K c.keys.length ck), (.slice V c.value.length cv), (.slice T c.tags.length ct), (.int .u64 (↑c.life : Int)), (.int .u64 (↑c.ver : Int)), (.string (strB c.tag)), (.string (strB c.pre)), (.string (strB c.child))]) ag36_10 rfl hb_g1))
  · intro wd hxE
    replace hK := hK.ext hxE
    replace hV := hV.ext hxE
    replace hT := hT.ext hxE
    replace hE := hE.tr hxE
    replace hb_g1 := hb_g1.ext hxE
    have hz_hxE := hxE.size
    rintro _ rfl
    rintro _ rfl
    show OpG _ _ _ _ _ _
    refine og_on rfl rfl rfl (OpRun.mono (or_call0 cl28 rfl rfl (only_any _ c _ _ K ck V cv T ct hK hV hT)) ?_)
    rintro v w2 ⟨Ko, ko, Vo, vo, To, to, rfl, hKo, hVo, hTo, he16⟩
    replace hK := hK.ext he16
    replace hV := hV.ext he16
    replace hT := hT.ext he16
    replace hE := hE.tr he16
    replace hb_g1 := hb_g1.ext he16
    have hz_he16 := he16.size
    exact ⟨⟨Ko, ko, Vo, vo, To, to, rfl, hKo.mono (Nat.le_refl _) (by omega), hVo.mono (Nat.le_refl _) (by omega), hTo.mono (Nat.le_refl _) (by omega)⟩, he16⟩
  · intro wf1 hf1
    replace hK := hK.ext hf1
    replace hV := hV.ext hf1
    replace hT := hT.ext hf1
    replace hE := hE.tr hf1
    replace hb_g1 := hb_g1.ext hf1
    have hz_hf1 := hf1.size
    rintro _ rfl
    rintro _ rfl
    rintro _ rfl
    rintro _ rfl
    rintro _ rfl
    rintro _ rfl
    rintro _ rfl
    rintro _ rfl
    rintro _ rfl
    rintro _ rfl
    rintro _ rfl
    rintro _ ⟨Ko, ko, Vo, vo, To, to, rfl, hKo, hVo, hTo⟩
    show WL _ _ _ [_, _, _] _ _ _
    refine wl_gstep (or_call0 cl18 rfl rfl (requal_any _ c _ _ K ck V cv T ct hK hV hT (onlyC c) _ _ Ko ko Vo vo To to hKo hVo hTo)) rfl rfl rfl rfl rfl ?_
    rintro v w2 ⟨rfl, he17⟩
    replace hK := hK.ext he17
    replace hV := hV.ext he17
    replace hT := hT.ext he17
    replace hE := hE.tr he17
    replace hb_g1 := hb_g1.ext he17
    replace hKo := hKo.ext he17
    replace hVo := hVo.ext he17
    replace hTo := hTo.ext he17
    have hz_he17 := he17.size
    refine wl_spell (d := 17) rfl (bf (h3)) ?_
    refine wl_gval (ov_not (b := false) rfl) rfl rfl rfl rfl rfl ?_
    refine wl_val (ov_pick_f rfl rfl) rfl rfl rfl ?_
    refine q_nil (k_then ?_)
    refine wc_cond_t rfl ?_
    refine wc_seq (wc_regionL ?_)
    refine va rfl rfl ?_
    refine q_nil (k_then (q_ret (k_thenR ?_)))
    refine e_ret rfl rfl ?_
    have ef : rvalid c = false := by unfold rvalid; rw [decide_eq_false h3, Bool.and_false, Bool.false_and]
    rw [ef]
    exact ⟨rfl, hE⟩

theorem rvalid_eq (w : World) (c : Cmd) (lo hi : Nat) (K : Option Addr) (ck : Nat) (V : Option Addr) (cv : Nat) (T : Option Addr) (ct : Nat) (hK : RdS w lo hi K ck c.keys) (hV : RdB w lo hi V cv c.value) (hT : RdS w lo hi T ct c.tags) (h1 : 1 ≤ c.op) (h2 : c.op ≤ 15) (h3 : c = onlyC c) :
    Fn Tryd.prog 14 #[(.agg #[(.int .i64 c.op), (.string (strB c.key)), (.slice K c.keys.length ck), (.slice V c.value.length cv), (.slice T c.tags.length ct), (.int .u64 (↑c.life : Int)), (.int .u64 (↑c.ver : Int)), (.string (strB c.tag)), (.string (strB c.pre)), (.string (strB c.child))])] w (fun v w' => v = .bool (rvalid c) ∧ Ext w w')  := by
  replace hK := hK.top
  replace hV := hV.top
  replace hT := hT.top
  have hE := ext_refl w
  refine fn_enter (args := [(.agg #[(.int .i64 c.op), (.string (strB c.key)), (.slice K c.keys.length ck), (.slice V c.value.length cv), (.slice T c.tags.length ct), (.int .u64 (↑c.life : Int)), (.int .u64 (↑c.ver : Int)), (.string (strB c.tag)), (.string (strB c.pre)), (.string (strB c.child))])]) Tryd.func14 rfl rfl rfl ?_
  show WC _ _ _ _ [(0, (.agg #[(.int .i64 c.op), (.string (strB c.key)), (.slice K c.keys.length ck), (.slice V c.value.length cv), (.slice T c.tags.length ct), (.int .u64 (↑c.life : Int)), (.int .u64 (↑c.ver : Int)), (.string (strB c.tag)), (.string (strB c.pre)), (.string (strB c.child))]))] _
  refine wc_seq (wc_regionL ?_)
  refine wl_step (or_box (cs := [(.int .i64 c.op), (.string (strB c.key)), (.slice K c.keys.length ck), (.slice V c.value.length cv), (.slice T c.tags.length ct), (.int .u64 (↑c.life : Int)), (.int .u64 (↑c.ver : Int)), (.string (strB c.tag)), (.string (strB c.pre)), (.string (strB c.child))]) rfl rfl) rfl rfl rfl ?_
  rintro v w1 ⟨g1, rfl, hb_g1, he1, hl1, hu1⟩
  replace hK := hK.ext he1
  replace hV := hV.ext he1
  replace hT := hT.ext he1
  replace hE := hE.tr he1
  have hz_he1 := he1.size
  refine va rfl rfl ?_
  refine q_nil (k_then (wc_seq (wc_seq ?_)))
  refine wc_draw mixed 12 [(5, eqv (.pointer (some ⟨g1, 0, none⟩))), (6, eqv (.int .i64 c.op)), (7, eqv (.bool false)), (8, eqv (.bool false)), (9, eqv (.pointer (some ⟨g1, 0, none⟩))), (10, eqv (.int .i64 c.op)), (11, eqv (.bool false)), (12, eqv (.bool false)), (13, eqv (.bool false)), (14, eqv (.agg #[(.int .i64 c.op), (.string (strB c.key)), (.slice K c.keys.length ck), (.slice V c.value.length cv), (.slice T c.tags.length ct), (.int .u64 (↑c.life : Int)), (.int .u64 (↑c.ver : Int)), (.string (strB c.tag)), (.string (strB c.pre)), (.string (strB c.child))])), (15, eqv (.agg #[(.int .i64 c.op), (.string (strB c.key)), (.slice K c.keys.length ck), (.slice V c.value.length cv), (.slice T c.tags.length ct), (.int .u64 (↑c.life : Int)), (.int .u64 (↑c.ver : Int)), (.string (strB c.tag)), (.string (strB c.pre)), (.string (strB c.child))])), (16, (fun v wz => ∃ K1 k1 V1 v1 T1 t1, v = .agg (cmdc (onlyC c) K1 k1 V1 v1 T1 t1).toArray ∧ RdS wz lo wz.heap.size K1 k1 (onlyC c).keys ∧ RdB wz lo wz.heap.size V1 v1 (onlyC c).value ∧ RdS wz lo wz.heap.size T1 t1 (onlyC c).tags))] [[], [0], [1], [2], [3], [3, 4], [3, 5], [3, 6], [7], [8], [8], [8, 10]] _ [] [] (fun _ _ h => h) trivial (by kernel_rfl) rfl ⟨⟨stb_eqv _, fun _ he => by cases he⟩, ⟨stb_eqv _, fun _ he => by cases he⟩, ⟨stb_eqv _, fun _ he => by cases he⟩, ⟨stb_eqv _, fun _ he => by cases he⟩, ⟨stb_eqv _, fun _ he => by cases he⟩, ⟨stb_eqv _, fun _ he => by cases he⟩, ⟨stb_eqv _, fun _ he => by cases he⟩, ⟨stb_eqv _, fun _ he => by cases he⟩, ⟨stb_eqv _, fun _ he => by cases he⟩, ⟨stb_eqv _, fun _ he => by cases he⟩, ⟨stb_eqv _, fun _ he => by cases he⟩, ⟨(fun v w1 w2 ⟨K1, k1, V1, v1, T1, t1, hv, a, b, c⟩ he => ⟨K1, k1, V1, v1, T1, t1, hv, (a.ext he).mono (Nat.le_refl _) he.size, (b.ext he).mono (Nat.le_refl _) he.size, (c.ext he).mono (Nat.le_refl _) he.size⟩), fun _ he => by cases he⟩, trivial⟩ ⟨?_, ?_, ?_, ?_, ?_, ?_, ?_, ?_, ?_, ?_, ?_, ?_, trivial⟩ ?_
  · intro wd hxE
    replace hK := hK.ext hxE
    replace hV := hV.ext hxE
    replace hT := hT.ext hxE
    replace hE := hE.tr hxE
    replace hb_g1 := hb_g1.ext hxE
    have hz_hxE := hxE.size
    show OpG _ _ _ _ _ _
    exact og_plain rfl (ox_val (ov_field0 (off := 0) fo36_0 rfl))
  · intro wd hxE
    replace hK := hK.ext hxE
    replace hV := hV.ext hxE
    replace hT := hT.ext hxE
    replace hE := hE.tr hxE
    replace hb_g1 := hb_g1.ext hxE
    have hz_hxE := hxE.size
    rintro _ rfl
    show OpG _ _ _ _ _ _
    exact og_plain rfl (ox_val (ov_loadAt oc22 rfl hb_g1 rfl))
  · intro wd hxE
    replace hK := hK.ext hxE
    replace hV := hV.ext hxE
    replace hT := hT.ext hxE
    replace hE := hE.tr hxE
    replace hb_g1 := hb_g1.ext hxE
    have hz_hxE := hxE.size
    rintro _ rfl
    show OpG _ _ _ _ _ _
    exact og_plain rfl (ox_F (by omega) (ov_lss rfl rfl))
  · intro wd hxE
    replace hK := hK.ext hxE
    replace hV := hV.ext hxE
    replace hT := hT.ext hxE
    replace hE := hE.tr hxE
    replace hb_g1 := hb_g1.ext hxE
    have hz_hxE := hxE.size
    rintro _ rfl
    show OpG _ _ _ _ _ _
    exact og_plain rfl (ox_val (ov_move rfl))
  · intro wd hxE
    replace hK := hK.ext hxE
    replace hV := hV.ext hxE
    replace hT := hT.ext hxE
    replace hE := hE.tr hxE
    replace hb_g1 := hb_g1.ext hxE
    have hz_hxE := hxE.size
    rintro _ rfl
    show OpG _ _ _ _ _ _
    exact og_on rfl rfl rfl (ox_val (ov_field0 (off := 0) fo36_0 rfl))
  · intro wd hxE
    replace hK := hK.ext hxE
    replace hV := hV.ext hxE
    replace hT := hT.ext hxE
    replace hE := hE.tr hxE
    replace hb_g1 := hb_g1.ext hxE
    have hz_hxE := hxE.size
    rintro _ rfl
    rintro _ rfl
    show OpG _ _ _ _ _ _
    exact og_on rfl rfl rfl (ox_val (ov_loadAt oc22 rfl hb_g1 rfl))
  · intro wd hxE
    replace hK := hK.ext hxE
    replace hV := hV.ext hxE
    replace hT := hT.ext hxE
    replace hE := hE.tr hxE
    replace hb_g1 := hb_g1.ext hxE
    have hz_hxE := hxE.size
    rintro _ rfl
    rintro _ rfl
    show OpG _ _ _ _ _ _
    exact og_on rfl rfl rfl (ox_F (by omega) (ov_gtr rfl rfl))
  · intro wd hxE
    replace hK := hK.ext hxE
    replace hV := hV.ext hxE
    replace hT := hT.ext hxE
    replace hE := hE.tr hxE
    replace hb_g1 := hb_g1.ext hxE
    have hz_hxE := hxE.size
    rintro _ rfl
    rintro _ rfl
    show OpG _ _ _ _ _ _
    exact og_plain rfl (ox_val (ov_pick_f rfl rfl))
  · intro wd hxE
    replace hK := hK.ext hxE
    replace hV := hV.ext hxE
    replace hT := hT.ext hxE
    replace hE := hE.tr hxE
    replace hb_g1 := hb_g1.ext hxE
    have hz_hxE := hxE.size
    rintro _ rfl
    show OpG _ _ _ _ _ _
    exact og_plain rfl (ox_val (ov_move rfl))
  · intro wd hxE
    replace hK := hK.ext hxE
    replace hV := hV.ext hxE
    replace hT := hT.ext hxE
    replace hE := hE.tr hxE
    replace hb_g1 := hb_g1.ext hxE
    have hz_hxE := hxE.size
    rintro _ rfl
    show OpG _ _ _ _ _ _
    exact og_on rfl rfl rfl (ox_val (ov_loadBlk (cs := [(.int .i64 c.op), (.string (strB c.key)), (.slice K c.keys.length ck), (.slice V c.value.length cv), (.slice T c.tags.length ct), (.int .u64 (↑c.life : Int)), (.int .u64 (↑c.ver : Int)), (.string (strB c.tag)), (.string (strB c.pre)), (.string (strB c.child))]) ag36_10 rfl hb_g1))
  · intro wd hxE
    replace hK := hK.ext hxE
    replace hV := hV.ext hxE
    replace hT := hT.ext hxE
    replace hE := hE.tr hxE
    replace hb_g1 := hb_g1.ext hxE
    have hz_hxE := hxE.size
    rintro _ rfl
    show OpG _ _ _ _ _ _
    exact og_on rfl rfl rfl (ox_val (ov_loadBlk (cs := [(.int .i64 c.op), (.string (strB c.key)), (.slice K c.keys.length ck), (.slice V c.value.length cv), (.slice T c.tags.length ct), (.int .u64 (↑c.life : Int)), (.int .u64 (↑c.ver : Int)), (.string (strB c.tag)), (.string (strB c.pre)), (.string (strB c.child))]) ag36_10 rfl hb_g1))
  · intro wd hxE
    replace hK := hK.ext hxE
    replace hV := hV.ext hxE
    replace hT := hT.ext hxE
    replace hE := hE.tr hxE
    replace hb_g1 := hb_g1.ext hxE
    have hz_hxE := hxE.size
    rintro _ rfl
    rintro _ rfl
    show OpG _ _ _ _ _ _
    refine og_on rfl rfl rfl (OpRun.mono (or_call0 cl28 rfl rfl (only_any _ c _ _ K ck V cv T ct hK hV hT)) ?_)
    rintro v w2 ⟨Ko, ko, Vo, vo, To, to, rfl, hKo, hVo, hTo, he16⟩
    replace hK := hK.ext he16
    replace hV := hV.ext he16
    replace hT := hT.ext he16
    replace hE := hE.tr he16
    replace hb_g1 := hb_g1.ext he16
    have hz_he16 := he16.size
    exact ⟨⟨Ko, ko, Vo, vo, To, to, rfl, hKo.mono (Nat.le_refl _) (by omega), hVo.mono (Nat.le_refl _) (by omega), hTo.mono (Nat.le_refl _) (by omega)⟩, he16⟩
  · intro wf1 hf1
    replace hK := hK.ext hf1
    replace hV := hV.ext hf1
    replace hT := hT.ext hf1
    replace hE := hE.tr hf1
    replace hb_g1 := hb_g1.ext hf1
    have hz_hf1 := hf1.size
    rintro _ rfl
    rintro _ rfl
    rintro _ rfl
    rintro _ rfl
    rintro _ rfl
    rintro _ rfl
    rintro _ rfl
    rintro _ rfl
    rintro _ rfl
    rintro _ rfl
    rintro _ rfl
    rintro _ ⟨Ko, ko, Vo, vo, To, to, rfl, hKo, hVo, hTo⟩
    show WL _ _ _ [_, _, _] _ _ _
    refine wl_gstep (or_call0 cl18 rfl rfl (requal_any _ c _ _ K ck V cv T ct hK hV hT (onlyC c) _ _ Ko ko Vo vo To to hKo hVo hTo)) rfl rfl rfl rfl rfl ?_
    rintro v w2 ⟨rfl, he17⟩
    replace hK := hK.ext he17
    replace hV := hV.ext he17
    replace hT := hT.ext he17
    replace hE := hE.tr he17
    replace hb_g1 := hb_g1.ext he17
    replace hKo := hKo.ext he17
    replace hVo := hVo.ext he17
    replace hTo := hTo.ext he17
    have hz_he17 := he17.size
    refine wl_spell (d := 17) rfl (bt (h3)) ?_
    refine wl_gval (ov_not (b := true) rfl) rfl rfl rfl rfl rfl ?_
    refine wl_val (ov_pick_f rfl rfl) rfl rfl rfl ?_
    refine q_nil (k_then ?_)
    refine wc_cond_f rfl ?_
    refine q_skip (k_then (wc_seq (wc_regionL ?_)))
    refine wl_val (ov_field0 (off := 0) fo36_0 rfl) rfl rfl rfl ?_
    refine wl_val (ov_loadAt oc22 rfl hb_g1 rfl) rfl rfl rfl ?_
    refine wl_val (or_call0 cl29 rfl rfl (rneeds_any _ c.op)) rfl rfl rfl ?_
    refine va rfl rfl ?_
    refine q_nil (k_then (wc_seq (wc_seq (wc_regionL ?_))))
    refine va rfl rfl ?_
    refine q_nil (k_then (wc_block ?_))
    refine wc_loop (σ := Nat) (fun i => (needs c.op).length - i) (fun i => [(1, .pointer (some ⟨g1, 0, none⟩)), (3, .string (strB (needs c.op))), (4, .int .i64 (i : Int))]) (fun i w' => i ≤ (needs c.op).length ∧ (needs c.op).all (alC c) = ((needs c.op).drop i).all (alC c) ∧ Blk w' g1 36 (cmdc c K ck V cv T ct) ∧ RdS w' lo w.heap.size K ck c.keys ∧ RdB w' lo w.heap.size V cv c.value ∧ RdS w' lo w.heap.size T ct c.tags ∧ Ext w w') (0) (⟨Nat.zero_le _, rfl, hb_g1, hK, hV, hT, hE⟩) (⟨rfl, rfl, rfl, trivial⟩) ?_
    rintro i wq ⟨hi0, hal, hb_g1, hK, hV, hT, hE⟩
    show WC _ _ _ _ [(1, (.pointer (some ⟨g1, 0, none⟩))), (3, (.string (strB (needs c.op)))), (4, (.int .i64 (↑i : Int)))] _
    have hl5 := needs_len c.op
    replace hb_g1 : Blk wq g1 36 [(.int .i64 c.op), (.string (strB c.key)), (.slice K c.keys.length ck), (.slice V c.value.length cv), (.slice T c.tags.length ct), (.int .u64 (↑c.life : Int)), (.int .u64 (↑c.ver : Int)), (.string (strB c.tag)), (.string (strB c.pre)), (.string (strB c.child))] := hb_g1
    refine wc_seq (wc_seq (wc_regionL ?_))
    iterate 2 refine vm rfl rfl ?_
    refine wl_val (ov_slen Tryd.underlying9 rfl) rfl rfl rfl ?_
    refine wl_val (ov_lss rfl rfl) rfl rfl rfl ?_
    refine q_nil (k_then ?_)
    refine wc_cond_d rfl (fun hc2 => ?_) (fun hc2 => ?_)
    · have hid := drop_getD (ps := (needs c.op)) (i := i) (by omega)
      refine q_skip (k_then (wc_seq (wc_block (wc_seq ?_))))
      refine wc_draw mixed 4 [(29, eqv (.agg #[(.int .i64 c.op), (.string (strB c.key)), (.slice K c.keys.length ck), (.slice V c.value.length cv), (.slice T c.tags.length ct), (.int .u64 (↑c.life : Int)), (.int .u64 (↑c.ver : Int)), (.string (strB c.tag)), (.string (strB c.pre)), (.string (strB c.child))])), (30, eqv (.string (strB (needs c.op)))), (31, eqv (.int .i64 (↑i : Int))), (32, eqv (.int .u8 (↑((needs c.op).getD i 0).toNat : Int)))] [[], [], [], [1, 2]] _ [] [] (fun _ _ h => h) trivial (by kernel_rfl) rfl ⟨⟨stb_eqv _, fun _ he => by cases he⟩, ⟨stb_eqv _, fun _ he => by cases he⟩, ⟨stb_eqv _, fun _ he => by cases he⟩, ⟨stb_eqv _, fun _ he => by cases he⟩, trivial⟩ ⟨?_, ?_, ?_, ?_, trivial⟩ ?_
      · intro wd hxE
        replace hK := hK.ext hxE
        replace hV := hV.ext hxE
        replace hT := hT.ext hxE
        replace hb_g1 := hb_g1.ext hxE
        replace hE := hE.tr hxE
        have hz_hxE := hxE.size
        show OpG _ _ _ _ _ _
        exact og_plain rfl (ox_val (ov_loadBlk (cs := [(.int .i64 c.op), (.string (strB c.key)), (.slice K c.keys.length ck), (.slice V c.value.length cv), (.slice T c.tags.length ct), (.int .u64 (↑c.life : Int)), (.int .u64 (↑c.ver : Int)), (.string (strB c.tag)), (.string (strB c.pre)), (.string (strB c.child))]) ag36_10 rfl hb_g1))
      · intro wd hxE
        replace hK := hK.ext hxE
        replace hV := hV.ext hxE
        replace hT := hT.ext hxE
        replace hb_g1 := hb_g1.ext hxE
        replace hE := hE.tr hxE
        have hz_hxE := hxE.size
        show OpG _ _ _ _ _ _
        exact og_plain rfl (ox_val (ov_move rfl))
      · intro wd hxE
        replace hK := hK.ext hxE
        replace hV := hV.ext hxE
        replace hT := hT.ext hxE
        replace hb_g1 := hb_g1.ext hxE
        replace hE := hE.tr hxE
        have hz_hxE := hxE.size
        show OpG _ _ _ _ _ _
        exact og_plain rfl (ox_val (ov_move rfl))
      · intro wd hxE
        replace hK := hK.ext hxE
        replace hV := hV.ext hxE
        replace hT := hT.ext hxE
        replace hb_g1 := hb_g1.ext hxE
        replace hE := hE.tr hxE
        have hz_hxE := hxE.size
        rintro _ rfl
        rintro _ rfl
        show OpG _ _ _ _ _ _
        exact og_plain rfl (ox_val (ov_sindex (l := (needs c.op)) (i := (↑i : Int)) Tryd.underlying9 rfl rfl (by omega) (by omega)))
      · intro wf7 hf7
        replace hK := hK.ext hf7
        replace hV := hV.ext hf7
        replace hT := hT.ext hf7
        replace hb_g1 := hb_g1.ext hf7
        replace hE := hE.tr hf7
        have hz_hf7 := hf7.size
        rintro _ rfl
        rintro _ rfl
        rintro _ rfl
        rintro _ rfl
        show WL _ _ _ [_, _] _ _ _
        refine wl_step (or_call0 cl30 rfl rfl (allowed_any _ c _ _ K ck V cv T ct hK hV hT ((needs c.op).getD i 0))) rfl rfl rfl ?_
        rintro v w3 ⟨rfl, he33⟩
        replace hK := hK.ext he33
        replace hV := hV.ext he33
        replace hT := hT.ext he33
        replace hb_g1 := hb_g1.ext he33
        replace hE := hE.tr he33
        have hz_he33 := he33.size
        refine wl_val (ov_not rfl) rfl rfl rfl ?_
        refine q_nil (k_then ?_)
        refine wc_cond rfl (fun hc3 => ?_) (fun hc3 => ?_)
        · have hv0 : rvalid c = false := by unfold rvalid; rw [hal, hid, List.all_cons, show alC c ((needs c.op).getD i 0) = false by simpa using hc3, Bool.false_and, Bool.and_false]
          refine wc_seq (wc_regionL ?_)
          refine va rfl rfl ?_
          refine q_nil (k_then (q_ret (k_blockR (k_thenR (k_thenR (k_blockR (k_thenR ?_)))))))
          refine e_ret rfl rfl ?_
          exact ⟨by rw [hv0], hE⟩
        · refine q_skip (k_block (k_then (wc_regionL ?_)))
          refine vm rfl rfl ?_
          refine wl_val (ov_add rfl rfl (wi64 (by omega) (by omega))) rfl rfl rfl ?_
          refine va rfl rfl ?_
          refine q_nil ?_
          refine k_loop (i + 1) (by show (needs c.op).length - (i + 1) < (needs c.op).length - i; omega) (⟨rfl, rfl, rfl, trivial⟩) (⟨by omega, by rw [hal, drop_getD (by omega), List.all_cons]; rw [show alC c ((needs c.op).getD i 0) = true by simpa using hc3, Bool.true_and], hb_g1, hK, hV, hT, hE⟩)
    · have hv0 : rvalid c = true := by unfold rvalid; rw [decide_eq_true (show 1 ≤ c.op ∧ c.op ≤ 15 by omega), decide_eq_true h3, hal, List.drop_of_length_le (by omega)]; rfl
      refine q_exit (k_thenX (k_thenX (k_blockE (k_then (wc_seq (wc_regionL ?_))))))
      refine va rfl rfl ?_
      refine q_nil (k_then (q_ret ?_))
      refine e_ret rfl rfl ?_
      exact ⟨by rw [hv0], hE⟩

theorem rvalid_any (w : World) (c : Cmd) (lo hi : Nat) (K : Option Addr) (ck : Nat) (V : Option Addr) (cv : Nat) (T : Option Addr) (ct : Nat) (hK : RdS w lo hi K ck c.keys) (hV : RdB w lo hi V cv c.value) (hT : RdS w lo hi T ct c.tags) :
    Fn Tryd.prog 14 #[.agg (cmdc c K ck V cv T ct).toArray] w (fun v w' => v = .bool (rvalid c) ∧ Ext w w') := by
  have a := 0
  by_cases h1 : c.op < 1
  · exact rvalid_lo w c lo hi K ck V cv T ct hK hV hT h1
  · by_cases h2 : 15 < c.op
    · exact rvalid_hi w c lo hi K ck V cv T ct hK hV hT h2
    · by_cases h3 : c = onlyC c
      · exact rvalid_eq w c lo hi K ck V cv T ct hK hV hT (by omega) (by omega) h3
      · exact rvalid_ne w c lo hi K ck V cv T ct hK hV hT (by omega) (by omega) h3

theorem rlist_any (w : World) (lo hi : Nat) (K : Option Addr) (ck : Nat) (xs : List (List UInt8)) (hK : RdS w lo hi K ck xs) (hsz : (wl xs).length ≤ 35184372088832) :
    Fn Tryd.prog 51 #[(.slice K xs.length ck)] w (fun v w' => ∃ A c', v = .slice A (wl xs).length c' ∧ OwnB w' w.heap.size 5 A c' (wl xs) ∧ Ext w w')  := by
  replace hK := hK.top
  have hE := ext_refl w
  have hcx := hK.1
  have hcx2 := hK.2.1
  simp only [maxLen] at hcx2
  refine fn_enter (args := [(.slice K xs.length ck)]) Tryd.func51 rfl rfl rfl ?_
  show WC _ _ _ _ [(0, (.slice K xs.length ck))] _
  refine wc_seq (wc_regionL ?_)
  refine va rfl rfl ?_
  refine q_nil (k_then (wc_seq (wc_regionL ?_)))
  refine vm rfl rfl ?_
  refine wl_val (ov_len Tryd.underlying27 rfl) rfl rfl rfl ?_
  refine wl_val (ov_conv Tryd.underlying3 Tryd.underlying33 rfl (wu64 (by omega) (by omega))) rfl rfl rfl ?_
  refine wl_step (or_call0 cl52 rfl rfl (rput_any (xs.length) _ (by omega))) rfl rfl rfl ?_
  rintro v w1 ⟨A8, c8, rfl, ho8, he8⟩
  replace hK := hK.ext he8
  replace hE := hE.tr he8
  have hz_he8 := he8.size
  have hq_ho8 := fun g e => Own.lt ho8 (g := g) e
  refine va rfl rfl ?_
  refine q_nil (k_then (wc_seq (wc_seq (wc_regionL ?_))))
  refine va rfl rfl ?_
  refine q_nil (k_then (wc_block ?_))
  refine wc_loop (σ := Nat × Option Addr × Nat) (fun s => xs.length - s.1) (fun s => [(0, .slice K xs.length ck), (3, .slice s.2.1 (enc xs.length ++ (xs.take s.1).flatMap pb).length s.2.2), (4, .int .i64 (s.1 : Int))]) (fun s w' => s.1 ≤ xs.length ∧ OwnB w' w.heap.size 5 s.2.1 s.2.2 (enc xs.length ++ (xs.take s.1).flatMap pb) ∧ RdS w' lo w.heap.size K ck xs ∧ Ext w w') ((0, A8, c8)) (⟨Nat.zero_le _, by show OwnB _ _ _ _ _ (enc xs.length ++ (xs.take 0).flatMap pb); rw [List.take_zero, List.flatMap_nil, List.append_nil]; exact Own.mono ho8 (by omega), hK, hE⟩) (⟨rfl, by show _ = some (Value.slice A8 (enc xs.length ++ (xs.take 0).flatMap pb).length c8); rw [List.take_zero, List.flatMap_nil, List.append_nil]; rfl, rfl, trivial⟩) ?_
  rintro ⟨i, Ai, ci⟩ wq ⟨hi0, hoi, hK, hE⟩
  show WC _ _ _ _ [(0, (.slice K xs.length ck)), (3, (.slice Ai (enc xs.length ++ (xs.take i).flatMap pb).length ci)), (4, (.int .i64 (↑i : Int)))] _
  simp only at hi0
  replace hoi : OwnB wq w.heap.size 5 Ai ci (enc xs.length ++ (xs.take i).flatMap pb) := hoi
  have hz_E := hE.size
  have hq_hoi := fun g e => Own.lt hoi (g := g) e
  have hfl := flat_le xs i
  have hwl := wl_len xs
  have hol2 : (enc xs.length ++ (xs.take i).flatMap pb).length = (enc xs.length).length + ((xs.take i).flatMap pb).length := List.length_append
  refine wc_seq (wc_seq (wc_regionL ?_))
  iterate 2 refine vm rfl rfl ?_
  refine wl_val (ov_len Tryd.underlying27 rfl) rfl rfl rfl ?_
  refine wl_val (ov_lss rfl rfl) rfl rfl rfl ?_
  refine q_nil (k_then ?_)
  refine wc_cond_d rfl (fun hc1 => ?_) (fun hc1 => ?_)
  · obtain ⟨s, hk⟩ : ∃ s, xs[i]? = some s := ⟨_, List.getElem?_eq_getElem (by omega)⟩
    have hms := mem_flat (List.mem_of_getElem? hk)
    have hlp := len_pb s
    have hel := enc_len s.length
    refine q_skip (k_then (wc_seq (wc_block (wc_regionL ?_))))
    iterate 3 refine vm rfl rfl ?_
    refine wl_step (or_rindex (m := (i)) sl27 rfl rfl hK (fun _ _ => rfl) hk) rfl rfl rfl ?_
    rintro v _ ⟨rfl, p18, rfl, hp18, hpl18, hph18⟩
    refine wl_val (ov_load oc9 rfl (cell_zero hp18 rfl)) rfl rfl rfl ?_
    refine wl_step (or_strBytes bt32 Tryd.underlying9 rfl (by simp only [maxLen]; omega)) rfl rfl rfl ?_
    rintro v w2 ⟨A20, c20, rfl, hr20, he20⟩
    replace hK := hK.ext he20
    replace hoi := Own.ext hoi he20
    replace hE := hE.tr he20
    have hz_he20 := he20.size
    refine wl_step (or_call0 cl50 rfl rfl (rputbytes_any _ _ _ _ _ s hr20 (by omega))) rfl rfl rfl ?_
    rintro v w3 ⟨A21, c21, rfl, ho21, he21⟩
    replace hK := hK.ext he21
    replace hoi := Own.ext hoi he21
    replace hE := hE.tr he21
    replace hr20 := hr20.ext he21
    have hz_he21 := he21.size
    have hq_ho21 := fun g e => Own.lt ho21 (g := g) e
    refine wl_step (or_bappend bt32 rfl hoi rfl (OwnB.rd ho21) (by show _ + (pb s).length ≤ _; omega) (by omega)) rfl rfl rfl ?_
    rintro v w4 ⟨A22, c22, rfl, ho22, hg22, ha22⟩
    have hq22 := fun g e => Own.lt hoi (g := g) e
    have hz_hg22 := hg22.size
    replace hK := hK.gr hg22 (fun g e => by have := hq22 g e; omega)
    replace hE := hE.gr hg22 (fun g e => by have := hq22 g e; omega)
    have hq_ho22 := fun g e => Own.lt ho22 (g := g) e
    rw [show (enc xs.length ++ (xs.take i).flatMap pb) ++ (enc s.length ++ s) = (enc xs.length ++ (xs.take (i + 1)).flatMap pb) from by rw [take_flat hk]; simp only [pb, List.append_assoc]] at ho22; rw [show (enc xs.length ++ (xs.take i).flatMap pb) ++ (enc s.length ++ s) = (enc xs.length ++ (xs.take (i + 1)).flatMap pb) from by rw [take_flat hk]; simp only [pb, List.append_assoc]]
    refine va rfl rfl ?_
    refine q_nil (k_block (k_then (wc_regionL ?_)))
    refine vm rfl rfl ?_
    refine wl_val (ov_add rfl rfl (wi64 (by omega) (by omega))) rfl rfl rfl ?_
    refine va rfl rfl ?_
    refine q_nil ?_
    refine k_loop ((i + 1, A22, c22)) (by show xs.length - (i + 1) < xs.length - i; omega) (⟨rfl, rfl, rfl, trivial⟩) (⟨by show i + 1 ≤ _; omega, ho22, hK, hE⟩)
  · have hix : (enc xs.length ++ (xs.take i).flatMap pb) = wl xs := by rw [List.take_of_length_le (by omega)]; rfl
    rw [hix] at hoi
    refine wc_spell (d := 3) rfl (v' := .slice Ai (wl xs).length ci) (by rw [hix]) ?_
    refine q_exit (k_thenX (k_thenX (k_blockE (k_then (wc_seq (wc_regionL ?_))))))
    refine vm rfl rfl ?_
    refine va rfl rfl ?_
    refine q_nil (k_then (q_ret ?_))
    refine e_ret rfl rfl ?_
    exact ⟨Ai, ci, rfl, hoi, hE⟩

theorem rbytes07_any (w : World) (c : Cmd) (lo hi : Nat) (K : Option Addr) (ck : Nat) (V : Option Addr) (cv : Nat) (T : Option Addr) (ct : Nat) (hK : RdS w lo hi K ck c.keys) (hV : RdB w lo hi V cv c.value) (hT : RdS w lo hi T ct c.tags) (p : UInt8) (hlf : c.life < 18446744073709551616) (hvr : c.ver < 18446744073709551616) (hsz : csz c ≤ 17592186044416) :
    Fn Tryd.prog 33 #[(.agg #[(.int .i64 c.op), (.string (strB c.key)), (.slice K c.keys.length ck), (.slice V c.value.length cv), (.slice T c.tags.length ct), (.int .u64 (↑c.life : Int)), (.int .u64 (↑c.ver : Int)), (.string (strB c.tag)), (.string (strB c.pre)), (.string (strB c.child))]), (.int .u8 (↑p.toNat : Int))] w (fun v w' => ∃ A c', v = .slice A (bC c p).length c' ∧ OwnB w' w.heap.size 5 A c' (bC c p) ∧ Ext w w')  := by
  replace hK := hK.top
  replace hV := hV.top
  replace hT := hT.top
  have hE := ext_refl w
  simp only [csz] at hsz
  refine fn_enter (args := [(.agg #[(.int .i64 c.op), (.string (strB c.key)), (.slice K c.keys.length ck), (.slice V c.value.length cv), (.slice T c.tags.length ct), (.int .u64 (↑c.life : Int)), (.int .u64 (↑c.ver : Int)), (.string (strB c.tag)), (.string (strB c.pre)), (.string (strB c.child))]), (.int .u8 (↑p.toNat : Int))]) Tryd.func33 rfl rfl rfl ?_
  show WC _ _ _ _ [(0, (.agg #[(.int .i64 c.op), (.string (strB c.key)), (.slice K c.keys.length ck), (.slice V c.value.length cv), (.slice T c.tags.length ct), (.int .u64 (↑c.life : Int)), (.int .u64 (↑c.ver : Int)), (.string (strB c.tag)), (.string (strB c.pre)), (.string (strB c.child))])), (1, (.int .u8 (↑p.toNat : Int)))] _
  refine wc_seq (wc_regionL ?_)
  refine wl_step (or_box (cs := [(.int .i64 c.op), (.string (strB c.key)), (.slice K c.keys.length ck), (.slice V c.value.length cv), (.slice T c.tags.length ct), (.int .u64 (↑c.life : Int)), (.int .u64 (↑c.ver : Int)), (.string (strB c.tag)), (.string (strB c.pre)), (.string (strB c.child))]) rfl rfl) rfl rfl rfl ?_
  rintro v w1 ⟨g2, rfl, hb_g2, he2, hl2, hu2⟩
  replace hK := hK.ext he2
  replace hV := hV.ext he2
  replace hT := hT.ext he2
  replace hE := hE.tr he2
  have hz_he2 := he2.size
  refine va rfl rfl ?_
  refine q_nil (k_then (wc_seq (wc_seq (wc_regionL ?_))))
  refine vm rfl rfl ?_
  refine q_nil (k_then (wc_block (wc_seq (wc_regionL ?_))))
  refine ve rfl rfl rfl ?_
  refine va rfl rfl ?_
  refine q_nil (k_then ?_)
  refine wc_cond_d rfl (fun hc1 => ?_) (fun hc1 => ?_)
  · have eb : bC c p = pb c.key := by rw [show p = 107 from toNat_inj hc1]; rfl
    refine wc_seq (wc_regionL ?_)
    refine wl_val (ov_field0 (off := 1) fo36_1 rfl) rfl rfl rfl ?_
    refine wl_val (ov_loadAt oc9 rfl hb_g2 rfl) rfl rfl rfl ?_
    refine wl_step (or_strBytes bt32 Tryd.underlying9 rfl (by simp only [maxLen]; omega)) rfl rfl rfl ?_
    rintro v w2 ⟨A10, c10, rfl, hr10, he10⟩
    replace hK := hK.ext he10
    replace hV := hV.ext he10
    replace hT := hT.ext he10
    replace hE := hE.tr he10
    replace hb_g2 := hb_g2.ext he10
    have hz_he10 := he10.size
    refine wl_step (or_call0 cl50 rfl rfl (rputbytes_any _ _ _ _ _ c.key hr10 (by omega))) rfl rfl rfl ?_
    rintro v w3 ⟨A11, c11, rfl, ho11, he11⟩
    replace hK := hK.ext he11
    replace hV := hV.ext he11
    replace hT := hT.ext he11
    replace hE := hE.tr he11
    replace hb_g2 := hb_g2.ext he11
    replace hr10 := hr10.ext he11
    have hz_he11 := he11.size
    have hq_ho11 := fun g e => Own.lt ho11 (g := g) e
    refine va rfl rfl ?_
    refine q_nil (k_then (q_ret (k_blockR (k_thenR ?_))))
    refine e_ret rfl rfl ?_
    rw [eb]
    exact ⟨A11, c11, rfl, Own.mono ho11 (by omega), hE⟩
  · have nb107 : ¬ p = 107 := fun e => hc1 (by rw [e]; rfl)
    refine wc_seq (wc_regionL ?_)
    refine ve rfl rfl rfl ?_
    refine va rfl rfl ?_
    refine q_nil (k_then ?_)
    refine wc_cond_d rfl (fun hc2 => ?_) (fun hc2 => ?_)
    · have eb : bC c p = pb c.value := by rw [show p = 118 from toNat_inj hc2]; rfl
      refine wc_seq (wc_regionL ?_)
      refine wl_val (ov_field0 (off := 3) fo36_3 rfl) rfl rfl rfl ?_
      refine wl_val (ov_loadAt oc32 rfl hb_g2 rfl) rfl rfl rfl ?_
      refine wl_step (or_call0 cl50 rfl rfl (rputbytes_any _ _ _ _ _ c.value hV (by omega))) rfl rfl rfl ?_
      rintro v w202 ⟨A16, c16, rfl, ho16, he16⟩
      replace hK := hK.ext he16
      replace hV := hV.ext he16
      replace hT := hT.ext he16
      replace hE := hE.tr he16
      replace hb_g2 := hb_g2.ext he16
      have hz_he16 := he16.size
      have hq_ho16 := fun g e => Own.lt ho16 (g := g) e
      refine va rfl rfl ?_
      refine q_nil (k_then (q_ret (k_blockR (k_thenR ?_))))
      refine e_ret rfl rfl ?_
      rw [eb]
      exact ⟨A16, c16, rfl, Own.mono ho16 (by omega), hE⟩
    · have nb118 : ¬ p = 118 := fun e => hc2 (by rw [e]; rfl)
      refine wc_seq (wc_regionL ?_)
      refine ve rfl rfl rfl ?_
      refine va rfl rfl ?_
      refine q_nil (k_then ?_)
      refine wc_cond_d rfl (fun hc3 => ?_) (fun hc3 => ?_)
      · have eb : bC c p = wl c.tags := by rw [show p = 116 from toNat_inj hc3]; rfl
        refine wc_seq (wc_regionL ?_)
        refine wl_val (ov_field0 (off := 4) fo36_4 rfl) rfl rfl rfl ?_
        refine wl_val (ov_loadAt oc27 rfl hb_g2 rfl) rfl rfl rfl ?_
        refine wl_step (or_call0 cl51 rfl rfl (rlist_any _ _ _ T ct c.tags hT (by omega))) rfl rfl rfl ?_
        rintro v w202 ⟨A21, c21, rfl, ho21, he21⟩
        replace hK := hK.ext he21
        replace hV := hV.ext he21
        replace hT := hT.ext he21
        replace hE := hE.tr he21
        replace hb_g2 := hb_g2.ext he21
        have hz_he21 := he21.size
        have hq_ho21 := fun g e => Own.lt ho21 (g := g) e
        refine va rfl rfl ?_
        refine q_nil (k_then (q_ret (k_blockR (k_thenR ?_))))
        refine e_ret rfl rfl ?_
        rw [eb]
        exact ⟨A21, c21, rfl, Own.mono ho21 (by omega), hE⟩
      · have nb116 : ¬ p = 116 := fun e => hc3 (by rw [e]; rfl)
        refine wc_seq (wc_regionL ?_)
        refine ve rfl rfl rfl ?_
        refine va rfl rfl ?_
        refine q_nil (k_then ?_)
        refine wc_cond_d rfl (fun hc4 => ?_) (fun hc4 => ?_)
        · have eb : bC c p = enc c.life := by rw [show p = 108 from toNat_inj hc4]; rfl
          refine wc_seq (wc_regionL ?_)
          refine wl_val (ov_field0 (off := 5) fo36_5 rfl) rfl rfl rfl ?_
          refine wl_val (ov_loadAt oc34 rfl hb_g2 rfl) rfl rfl rfl ?_
          refine wl_step (or_call0 cl52 rfl rfl (rput_any (c.life) _ (by omega))) rfl rfl rfl ?_
          rintro v w202 ⟨A26, c26, rfl, ho26, he26⟩
          replace hK := hK.ext he26
          replace hV := hV.ext he26
          replace hT := hT.ext he26
          replace hE := hE.tr he26
          replace hb_g2 := hb_g2.ext he26
          have hz_he26 := he26.size
          have hq_ho26 := fun g e => Own.lt ho26 (g := g) e
          refine va rfl rfl ?_
          refine q_nil (k_then (q_ret (k_blockR (k_thenR ?_))))
          refine e_ret rfl rfl ?_
          rw [eb]
          exact ⟨A26, c26, rfl, Own.mono ho26 (by omega), hE⟩
        · have nb108 : ¬ p = 108 := fun e => hc4 (by rw [e]; rfl)
          refine wc_seq (wc_regionL ?_)
          refine ve rfl rfl rfl ?_
          refine va rfl rfl ?_
          refine q_nil (k_then ?_)
          refine wc_cond_d rfl (fun hc5 => ?_) (fun hc5 => ?_)
          · have eb : bC c p = enc c.ver := by rw [show p = 110 from toNat_inj hc5]; rfl
            refine wc_seq (wc_regionL ?_)
            refine wl_val (ov_field0 (off := 6) fo36_6 rfl) rfl rfl rfl ?_
            refine wl_val (ov_loadAt oc33 rfl hb_g2 rfl) rfl rfl rfl ?_
            refine wl_step (or_call0 cl52 rfl rfl (rput_any (c.ver) _ (by omega))) rfl rfl rfl ?_
            rintro v w202 ⟨A31, c31, rfl, ho31, he31⟩
            replace hK := hK.ext he31
            replace hV := hV.ext he31
            replace hT := hT.ext he31
            replace hE := hE.tr he31
            replace hb_g2 := hb_g2.ext he31
            have hz_he31 := he31.size
            have hq_ho31 := fun g e => Own.lt ho31 (g := g) e
            refine va rfl rfl ?_
            refine q_nil (k_then (q_ret (k_blockR (k_thenR ?_))))
            refine e_ret rfl rfl ?_
            rw [eb]
            exact ⟨A31, c31, rfl, Own.mono ho31 (by omega), hE⟩
          · have nb110 : ¬ p = 110 := fun e => hc5 (by rw [e]; rfl)
            refine wc_seq (wc_regionL ?_)
            refine ve rfl rfl rfl ?_
            refine va rfl rfl ?_
            refine q_nil (k_then ?_)
            refine wc_cond_d rfl (fun hc6 => ?_) (fun hc6 => ?_)
            · have eb : bC c p = wl c.keys := by rw [show p = 109 from toNat_inj hc6]; rfl
              refine wc_seq (wc_regionL ?_)
              refine wl_val (ov_field0 (off := 2) fo36_2 rfl) rfl rfl rfl ?_
              refine wl_val (ov_loadAt oc27 rfl hb_g2 rfl) rfl rfl rfl ?_
              refine wl_step (or_call0 cl51 rfl rfl (rlist_any _ _ _ K ck c.keys hK (by omega))) rfl rfl rfl ?_
              rintro v w202 ⟨A36, c36, rfl, ho36, he36⟩
              replace hK := hK.ext he36
              replace hV := hV.ext he36
              replace hT := hT.ext he36
              replace hE := hE.tr he36
              replace hb_g2 := hb_g2.ext he36
              have hz_he36 := he36.size
              have hq_ho36 := fun g e => Own.lt ho36 (g := g) e
              refine va rfl rfl ?_
              refine q_nil (k_then (q_ret (k_blockR (k_thenR ?_))))
              refine e_ret rfl rfl ?_
              rw [eb]
              exact ⟨A36, c36, rfl, Own.mono ho36 (by omega), hE⟩
            · have nb109 : ¬ p = 109 := fun e => hc6 (by rw [e]; rfl)
              refine wc_seq (wc_regionL ?_)
              refine ve rfl rfl rfl ?_
              refine va rfl rfl ?_
              refine q_nil (k_then ?_)
              refine wc_cond_d rfl (fun hc7 => ?_) (fun hc7 => ?_)
              · have eb : bC c p = pb c.tag := by rw [show p = 103 from toNat_inj hc7]; rfl
                refine wc_seq (wc_regionL ?_)
                refine wl_val (ov_field0 (off := 7) fo36_7 rfl) rfl rfl rfl ?_
                refine wl_val (ov_loadAt oc9 rfl hb_g2 rfl) rfl rfl rfl ?_
                refine wl_step (or_strBytes bt32 Tryd.underlying9 rfl (by simp only [maxLen]; omega)) rfl rfl rfl ?_
                rintro v w202 ⟨A41, c41, rfl, hr41, he41⟩
                replace hK := hK.ext he41
                replace hV := hV.ext he41
                replace hT := hT.ext he41
                replace hE := hE.tr he41
                replace hb_g2 := hb_g2.ext he41
                have hz_he41 := he41.size
                refine wl_step (or_call0 cl50 rfl rfl (rputbytes_any _ _ _ _ _ c.tag hr41 (by omega))) rfl rfl rfl ?_
                rintro v w203 ⟨A42, c42, rfl, ho42, he42⟩
                replace hK := hK.ext he42
                replace hV := hV.ext he42
                replace hT := hT.ext he42
                replace hE := hE.tr he42
                replace hb_g2 := hb_g2.ext he42
                replace hr41 := hr41.ext he42
                have hz_he42 := he42.size
                have hq_ho42 := fun g e => Own.lt ho42 (g := g) e
                refine va rfl rfl ?_
                refine q_nil (k_then (q_ret (k_blockR (k_thenR ?_))))
                refine e_ret rfl rfl ?_
                rw [eb]
                exact ⟨A42, c42, rfl, Own.mono ho42 (by omega), hE⟩
              · have nb103 : ¬ p = 103 := fun e => hc7 (by rw [e]; rfl)
                refine wc_seq (wc_regionL ?_)
                refine ve rfl rfl rfl ?_
                refine va rfl rfl ?_
                refine q_nil (k_then ?_)
                refine wc_cond_d rfl (fun hc8 => ?_) (fun hc8 => ?_)
                · have eb : bC c p = pb c.pre := by rw [show p = 112 from toNat_inj hc8]; rfl
                  refine wc_seq (wc_regionL ?_)
                  refine wl_val (ov_field0 (off := 8) fo36_8 rfl) rfl rfl rfl ?_
                  refine wl_val (ov_loadAt oc9 rfl hb_g2 rfl) rfl rfl rfl ?_
                  refine wl_step (or_strBytes bt32 Tryd.underlying9 rfl (by simp only [maxLen]; omega)) rfl rfl rfl ?_
                  rintro v w202 ⟨A47, c47, rfl, hr47, he47⟩
                  replace hK := hK.ext he47
                  replace hV := hV.ext he47
                  replace hT := hT.ext he47
                  replace hE := hE.tr he47
                  replace hb_g2 := hb_g2.ext he47
                  have hz_he47 := he47.size
                  refine wl_step (or_call0 cl50 rfl rfl (rputbytes_any _ _ _ _ _ c.pre hr47 (by omega))) rfl rfl rfl ?_
                  rintro v w203 ⟨A48, c48, rfl, ho48, he48⟩
                  replace hK := hK.ext he48
                  replace hV := hV.ext he48
                  replace hT := hT.ext he48
                  replace hE := hE.tr he48
                  replace hb_g2 := hb_g2.ext he48
                  replace hr47 := hr47.ext he48
                  have hz_he48 := he48.size
                  have hq_ho48 := fun g e => Own.lt ho48 (g := g) e
                  refine va rfl rfl ?_
                  refine q_nil (k_then (q_ret (k_blockR (k_thenR ?_))))
                  refine e_ret rfl rfl ?_
                  rw [eb]
                  exact ⟨A48, c48, rfl, Own.mono ho48 (by omega), hE⟩
                · have nb112 : ¬ p = 112 := fun e => hc8 (by rw [e]; rfl)
                  have eb : bC c p = pb c.child := by unfold bC; rw [if_neg nb107, if_neg nb118, if_neg nb116, if_neg nb108, if_neg nb110, if_neg nb109, if_neg nb103, if_neg nb112]
                  refine q_skip (k_block (k_then (wc_seq (wc_regionL ?_))))
                  refine wl_val (ov_field0 (off := 9) fo36_9 rfl) rfl rfl rfl ?_
                  refine wl_val (ov_loadAt oc9 rfl hb_g2 rfl) rfl rfl rfl ?_
                  refine wl_step (or_strBytes bt32 Tryd.underlying9 rfl (by simp only [maxLen]; omega)) rfl rfl rfl ?_
                  rintro v w202 ⟨A51, c51, rfl, hr51, he51⟩
                  replace hK := hK.ext he51
                  replace hV := hV.ext he51
                  replace hT := hT.ext he51
                  replace hE := hE.tr he51
                  replace hb_g2 := hb_g2.ext he51
                  have hz_he51 := he51.size
                  refine wl_step (or_call0 cl50 rfl rfl (rputbytes_any _ _ _ _ _ c.child hr51 (by omega))) rfl rfl rfl ?_
                  rintro v w203 ⟨A52, c52, rfl, ho52, he52⟩
                  replace hK := hK.ext he52
                  replace hV := hV.ext he52
                  replace hT := hT.ext he52
                  replace hE := hE.tr he52
                  replace hb_g2 := hb_g2.ext he52
                  replace hr51 := hr51.ext he52
                  have hz_he52 := he52.size
                  have hq_ho52 := fun g e => Own.lt ho52 (g := g) e
                  refine va rfl rfl ?_
                  refine q_nil (k_then (q_ret ?_))
                  refine e_ret rfl rfl ?_
                  rw [eb]
                  exact ⟨A52, c52, rfl, Own.mono ho52 (by omega), hE⟩

theorem take_bC {c : Cmd} {ps : List UInt8} {i : Nat} (h : i < ps.length) : (ps.take (i + 1)).flatMap (bC c) = (ps.take i).flatMap (bC c) ++ bC c (ps.getD i 0) := by
  rw [List.take_add_one, List.getElem?_eq_getElem h, List.flatMap_append, List.getD_eq_getElem?_getD, List.getElem?_eq_getElem h]; simp
theorem wu8_code (c : Cmd) (h1 : -9223372036854775808 ≤ c.op) (h2 : c.op ≤ 9223372036854775807) : ∃ x : UInt8, IntKind.u8.wrap c.op = (x.toNat : Int) ∧ (1 ≤ c.op → c.op ≤ 15 → x = codeOf c) := by
  refine ⟨UInt8.ofNat (c.op % 256).toNat, ?_, fun a b => ?_⟩
  · rw [wu8m, UInt8.toNat_ofNat']; omega
  · unfold codeOf; congr 2; omega

theorem outC_take (c : Cmd) (i : Nat) : (((needs c.op).take i).flatMap (bC c)).length ≤ 5 * (csz c + 10) := by
  have h1 := outC_len c ((needs c.op).take i)
  have h2 := needs_len c.op
  have h3 : ((needs c.op).take i).length * (csz c + 10) ≤ 5 * (csz c + 10) := Nat.mul_le_mul_right _ (by rw [List.length_take]; omega)
  omega
theorem outC_bC (c : Cmd) (p : UInt8) : (bC c p).length ≤ csz c + 10 := by
  have h1 := outC_len c [p]
  simpa using h1

theorem rwrite07_any (w : World) (c : Cmd) (lo hi : Nat) (K : Option Addr) (ck : Nat) (V : Option Addr) (cv : Nat) (T : Option Addr) (ct : Nat) (hK : RdS w lo hi K ck c.keys) (hV : RdB w lo hi V cv c.value) (hT : RdS w lo hi T ct c.tags) (hlf : c.life < 18446744073709551616) (hvr : c.ver < 18446744073709551616) (hsz : csz c ≤ 17592186044416) (h1 : 1 ≤ c.op) (h2 : c.op ≤ 15) :
    Fn Tryd.prog 21 #[(.agg #[(.int .i64 c.op), (.string (strB c.key)), (.slice K c.keys.length ck), (.slice V c.value.length cv), (.slice T c.tags.length ct), (.int .u64 (↑c.life : Int)), (.int .u64 (↑c.ver : Int)), (.string (strB c.tag)), (.string (strB c.pre)), (.string (strB c.child))])] w (fun v w' => ∃ A c', v = .agg #[.int .u8 ((codeOf c).toNat : Int), .slice A (outC c).length c'] ∧ OwnB w' w.heap.size 5 A c' (outC c) ∧ Ext w w')  := by
  replace hK := hK.top
  replace hV := hV.top
  replace hT := hT.top
  have hE := ext_refl w
  have hol := outC_len c
  refine fn_enter (args := [(.agg #[(.int .i64 c.op), (.string (strB c.key)), (.slice K c.keys.length ck), (.slice V c.value.length cv), (.slice T c.tags.length ct), (.int .u64 (↑c.life : Int)), (.int .u64 (↑c.ver : Int)), (.string (strB c.tag)), (.string (strB c.pre)), (.string (strB c.child))])]) Tryd.func21 rfl rfl rfl ?_
  show WC _ _ _ _ [(0, (.agg #[(.int .i64 c.op), (.string (strB c.key)), (.slice K c.keys.length ck), (.slice V c.value.length cv), (.slice T c.tags.length ct), (.int .u64 (↑c.life : Int)), (.int .u64 (↑c.ver : Int)), (.string (strB c.tag)), (.string (strB c.pre)), (.string (strB c.child))]))] _
  refine wc_seq (wc_regionL ?_)
  refine wl_step (or_box (cs := [(.int .i64 c.op), (.string (strB c.key)), (.slice K c.keys.length ck), (.slice V c.value.length cv), (.slice T c.tags.length ct), (.int .u64 (↑c.life : Int)), (.int .u64 (↑c.ver : Int)), (.string (strB c.tag)), (.string (strB c.pre)), (.string (strB c.child))]) rfl rfl) rfl rfl rfl ?_
  rintro v w1 ⟨g1, rfl, hb_g1, he1, hl1, hu1⟩
  replace hK := hK.ext he1
  replace hV := hV.ext he1
  replace hT := hT.ext he1
  replace hE := hE.tr he1
  have hz_he1 := he1.size
  refine wl_step (or_alloc (cs := [(.int .u8 0), (.slice none 0 0)]) ze40 rfl) rfl rfl rfl ?_
  rintro v w2 ⟨g2, rfl, hb_g2, he2, hl2, hu2⟩
  replace hK := hK.ext he2
  replace hV := hV.ext he2
  replace hT := hT.ext he2
  replace hE := hE.tr he2
  replace hb_g1 := hb_g1.ext he2
  have hz_he2 := he2.size
  refine q_nil (k_then (wc_seq (wc_regionL ?_)))
  refine wl_val (ov_field0 (off := 0) fo36_0 rfl) rfl rfl rfl ?_
  refine wl_val (ov_loadAt oc22 rfl hb_g1 rfl) rfl rfl rfl ?_
  refine wl_val (ov_conv Tryd.underlying22 Tryd.underlying5 rfl (wu8_op h1 h2)) rfl rfl rfl ?_
  refine wl_val (ov_build (cs := [(.int .u8 (↑(codeOf c).toNat : Int)), (.slice none 0 0)]) ze40 pl40 rfl rfl) rfl rfl rfl ?_
  refine wl_step (or_alloc (cs := [(.int .u8 0), (.slice none 0 0)]) ze40 rfl) rfl rfl rfl ?_
  rintro v w3 ⟨g3, rfl, hb_g3, he3, hl3, hu3⟩
  replace hK := hK.ext he3
  replace hV := hV.ext he3
  replace hT := hT.ext he3
  replace hE := hE.tr he3
  replace hb_g1 := hb_g1.ext he3
  replace hb_g2 := hb_g2.ext he3
  have hz_he3 := he3.size
  refine wl_step0 (or_storeBlk (vs := [(.int .u8 (↑(codeOf c).toNat : Int)), (.slice none 0 0)]) sz40 rfl rfl (by simp [Value.oneCell']) hb_g3 rfl) rfl rfl ?_
  rintro _ w4 ⟨hN4, hg4⟩
  have hz_hg4 := hg4.size
  replace hK := hK.gr hg4 (fun _ e => by cases e; omega)
  replace hV := hV.gr hg4 (fun _ e => by cases e; omega)
  replace hT := hT.gr hg4 (fun _ e => by cases e; omega)
  replace hE := hE.gr hg4 (fun _ e => by cases e; omega)
  replace hb_g1 := hb_g1.gr hg4 (by intro e; cases e; omega)
  replace hb_g2 := hb_g2.gr hg4 (by intro e; cases e; omega)
  replace hb_g3 := hN4
  refine q_nil (k_then (wc_seq (wc_regionL ?_)))
  refine wl_val (ov_field0 (off := 0) fo36_0 rfl) rfl rfl rfl ?_
  refine wl_val (ov_loadAt oc22 rfl hb_g1 rfl) rfl rfl rfl ?_
  refine wl_val (or_call0 cl29 rfl rfl (rneeds_any _ c.op)) rfl rfl rfl ?_
  refine va rfl rfl ?_
  refine q_nil (k_then (wc_seq (wc_seq (wc_regionL ?_))))
  refine va rfl rfl ?_
  refine q_nil (k_then (wc_block ?_))
  refine wc_loop (σ := Nat × Option Addr × Nat) (fun s => (needs c.op).length - s.1) (fun s => [(1, .pointer (some ⟨g1, 0, none⟩)), (2, .pointer (some ⟨g2, 0, none⟩)), (3, .pointer (some ⟨g3, 0, none⟩)), (4, .string (strB (needs c.op))), (5, .int .i64 (s.1 : Int))]) (fun s w' => s.1 ≤ (needs c.op).length ∧ Blk w' g1 36 (cmdc c K ck V cv T ct) ∧ Blk w' g2 40 [.int .u8 0, .slice none 0 0] ∧ Blk w' g3 40 [.int .u8 ((codeOf c).toNat : Int), .slice s.2.1 (((needs c.op).take s.1).flatMap (bC c)).length s.2.2] ∧ OwnB w' w.heap.size 5 s.2.1 s.2.2 (((needs c.op).take s.1).flatMap (bC c)) ∧ RdS w' lo w.heap.size K ck c.keys ∧ RdB w' lo w.heap.size V cv c.value ∧ RdS w' lo w.heap.size T ct c.tags ∧ Ext w w') ((0, none, 0)) (⟨Nat.zero_le _, hb_g1, hb_g2, hb_g3, Own.nil_ _ _ _ _, hK, hV, hT, hE⟩) (⟨rfl, rfl, rfl, rfl, rfl, trivial⟩) ?_
  rintro ⟨i, Ai, ci⟩ wq ⟨hi0, hb_g1, hb_g2, hb_g3, hoi, hK, hV, hT, hE⟩
  show WC _ _ _ _ [(1, (.pointer (some ⟨g1, 0, none⟩))), (2, (.pointer (some ⟨g2, 0, none⟩))), (3, (.pointer (some ⟨g3, 0, none⟩))), (4, (.string (strB (needs c.op)))), (5, (.int .i64 (↑i : Int)))] _
  simp only at hi0
  have hl5 := needs_len c.op
  replace hb_g1 : Blk wq g1 36 [(.int .i64 c.op), (.string (strB c.key)), (.slice K c.keys.length ck), (.slice V c.value.length cv), (.slice T c.tags.length ct), (.int .u64 (↑c.life : Int)), (.int .u64 (↑c.ver : Int)), (.string (strB c.tag)), (.string (strB c.pre)), (.string (strB c.child))] := hb_g1
  replace hb_g3 : Blk wq g3 40 [.int .u8 ((codeOf c).toNat : Int), .slice Ai (((needs c.op).take i).flatMap (bC c)).length ci] := hb_g3
  replace hoi : OwnB wq w.heap.size 5 Ai ci (((needs c.op).take i).flatMap (bC c)) := hoi
  have hz_E := hE.size
  have hzb1 := hb_g1.lt
  have hzb2 := hb_g2.lt
  have hzb3 := hb_g3.lt
  have hq_hoi := fun g e => Own.lt hoi (g := g) e
  refine wc_seq (wc_seq (wc_regionL ?_))
  iterate 2 refine vm rfl rfl ?_
  refine wl_val (ov_slen Tryd.underlying9 rfl) rfl rfl rfl ?_
  refine wl_val (ov_lss rfl rfl) rfl rfl rfl ?_
  refine q_nil (k_then ?_)
  refine wc_cond_d rfl (fun hc1 => ?_) (fun hc1 => ?_)
  · refine q_skip (k_then (wc_seq (wc_block ?_)))
    refine wc_draw mixed 7 [(19, eqv (.pointer (some ⟨g3, 1, none⟩))), (20, eqv (.slice Ai (((needs c.op).take i).flatMap (bC c)).length ci)), (21, eqv (.agg #[(.int .i64 c.op), (.string (strB c.key)), (.slice K c.keys.length ck), (.slice V c.value.length cv), (.slice T c.tags.length ct), (.int .u64 (↑c.life : Int)), (.int .u64 (↑c.ver : Int)), (.string (strB c.tag)), (.string (strB c.pre)), (.string (strB c.child))])), (22, eqv (.string (strB (needs c.op)))), (23, eqv (.int .i64 (↑i : Int))), (24, eqv (.int .u8 (↑((needs c.op).getD i 0).toNat : Int))), (25, isOwnB wq.heap.size 5 (bC c ((needs c.op).getD i 0)))] [[], [0], [], [], [], [3, 4], [2, 5]] _ [] [] (fun _ _ h => h) trivial (by kernel_rfl) rfl ⟨⟨stb_eqv _, fun _ he => by cases he⟩, ⟨stb_eqv _, fun _ he => by cases he⟩, ⟨stb_eqv _, fun _ he => by cases he⟩, ⟨stb_eqv _, fun _ he => by cases he⟩, ⟨stb_eqv _, fun _ he => by cases he⟩, ⟨stb_eqv _, fun _ he => by cases he⟩, ⟨stb_isOwnB _ _ _, fun _ he => by cases he⟩, trivial⟩ ⟨?_, ?_, ?_, ?_, ?_, ?_, ?_, trivial⟩ ?_
    · intro wd hxE
      replace hK := hK.ext hxE
      replace hV := hV.ext hxE
      replace hT := hT.ext hxE
      replace hb_g1 := hb_g1.ext hxE
      replace hb_g2 := hb_g2.ext hxE
      replace hb_g3 := hb_g3.ext hxE
      replace hoi := Own.ext hoi hxE
      replace hE := hE.tr hxE
      have hz_hxE := hxE.size
      show OpG _ _ _ _ _ _
      exact og_plain rfl (ox_val (ov_field0 (off := 1) fo40_1 rfl))
    · intro wd hxE
      replace hK := hK.ext hxE
      replace hV := hV.ext hxE
      replace hT := hT.ext hxE
      replace hb_g1 := hb_g1.ext hxE
      replace hb_g2 := hb_g2.ext hxE
      replace hb_g3 := hb_g3.ext hxE
      replace hoi := Own.ext hoi hxE
      replace hE := hE.tr hxE
      have hz_hxE := hxE.size
      rintro _ rfl
      show OpG _ _ _ _ _ _
      exact og_plain rfl (ox_val (ov_loadAt oc32 rfl hb_g3 rfl))
    · intro wd hxE
      replace hK := hK.ext hxE
      replace hV := hV.ext hxE
      replace hT := hT.ext hxE
      replace hb_g1 := hb_g1.ext hxE
      replace hb_g2 := hb_g2.ext hxE
      replace hb_g3 := hb_g3.ext hxE
      replace hoi := Own.ext hoi hxE
      replace hE := hE.tr hxE
      have hz_hxE := hxE.size
      show OpG _ _ _ _ _ _
      exact og_plain rfl (ox_val (ov_loadBlk (cs := [(.int .i64 c.op), (.string (strB c.key)), (.slice K c.keys.length ck), (.slice V c.value.length cv), (.slice T c.tags.length ct), (.int .u64 (↑c.life : Int)), (.int .u64 (↑c.ver : Int)), (.string (strB c.tag)), (.string (strB c.pre)), (.string (strB c.child))]) ag36_10 rfl hb_g1))
    · intro wd hxE
      replace hK := hK.ext hxE
      replace hV := hV.ext hxE
      replace hT := hT.ext hxE
      replace hb_g1 := hb_g1.ext hxE
      replace hb_g2 := hb_g2.ext hxE
      replace hb_g3 := hb_g3.ext hxE
      replace hoi := Own.ext hoi hxE
      replace hE := hE.tr hxE
      have hz_hxE := hxE.size
      show OpG _ _ _ _ _ _
      exact og_plain rfl (ox_val (ov_move rfl))
    · intro wd hxE
      replace hK := hK.ext hxE
      replace hV := hV.ext hxE
      replace hT := hT.ext hxE
      replace hb_g1 := hb_g1.ext hxE
      replace hb_g2 := hb_g2.ext hxE
      replace hb_g3 := hb_g3.ext hxE
      replace hoi := Own.ext hoi hxE
      replace hE := hE.tr hxE
      have hz_hxE := hxE.size
      show OpG _ _ _ _ _ _
      exact og_plain rfl (ox_val (ov_move rfl))
    · intro wd hxE
      replace hK := hK.ext hxE
      replace hV := hV.ext hxE
      replace hT := hT.ext hxE
      replace hb_g1 := hb_g1.ext hxE
      replace hb_g2 := hb_g2.ext hxE
      replace hb_g3 := hb_g3.ext hxE
      replace hoi := Own.ext hoi hxE
      replace hE := hE.tr hxE
      have hz_hxE := hxE.size
      rintro _ rfl
      rintro _ rfl
      show OpG _ _ _ _ _ _
      exact og_plain rfl (ox_val (ov_sindex (l := (needs c.op)) (i := (↑i : Int)) Tryd.underlying9 rfl rfl (by omega) (by omega)))
    · intro wd hxE
      replace hK := hK.ext hxE
      replace hV := hV.ext hxE
      replace hT := hT.ext hxE
      replace hb_g1 := hb_g1.ext hxE
      replace hb_g2 := hb_g2.ext hxE
      replace hb_g3 := hb_g3.ext hxE
      replace hoi := Own.ext hoi hxE
      replace hE := hE.tr hxE
      have hz_hxE := hxE.size
      rintro _ rfl
      rintro _ rfl
      show OpG _ _ _ _ _ _
      refine og_plain rfl (OpRun.mono (or_call0 cl33 rfl rfl (rbytes07_any _ c _ _ K ck V cv T ct hK hV hT ((needs c.op).getD i 0) hlf hvr hsz)) ?_)
      rintro v w5 ⟨A25, c25, rfl, ho25, he25⟩
      replace hK := hK.ext he25
      replace hV := hV.ext he25
      replace hT := hT.ext he25
      replace hb_g1 := hb_g1.ext he25
      replace hb_g2 := hb_g2.ext he25
      replace hb_g3 := hb_g3.ext he25
      replace hoi := Own.ext hoi he25
      replace hE := hE.tr he25
      have hz_he25 := he25.size
      have hq_ho25 := fun g e => Own.lt ho25 (g := g) e
      exact ⟨⟨A25, c25, rfl, Own.mono ho25 (by omega)⟩, he25⟩
    · intro wf6 hf6
      replace hK := hK.ext hf6
      replace hV := hV.ext hf6
      replace hT := hT.ext hf6
      replace hb_g1 := hb_g1.ext hf6
      replace hb_g2 := hb_g2.ext hf6
      replace hb_g3 := hb_g3.ext hf6
      replace hoi := Own.ext hoi hf6
      replace hE := hE.tr hf6
      have hz_hf6 := hf6.size
      rintro _ rfl
      rintro _ rfl
      rintro _ rfl
      rintro _ rfl
      rintro _ rfl
      rintro _ rfl
      rintro _ ⟨A25, c25, rfl, ho25⟩
      have hq_ho25 := fun g e => Own.lt ho25 (g := g) e
      show WL _ _ _ [_, _, _] _ _ _
      refine wl_step (or_bappend bt32 rfl hoi rfl (OwnB.rd ho25) (by have := outC_take c i; have := outC_bC c ((needs c.op).getD i 0); omega) (by omega)) rfl rfl rfl ?_
      rintro v w5 ⟨A26, c26, rfl, ho26, hg26, ha26⟩
      have hq26 := fun g e => Own.lt hoi (g := g) e
      have hz_hg26 := hg26.size
      replace hK := hK.gr hg26 (fun g e => by have := hq26 g e; omega)
      replace hV := hV.gr hg26 (fun g e => by have := hq26 g e; omega)
      replace hT := hT.gr hg26 (fun g e => by have := hq26 g e; omega)
      replace hb_g1 := hb_g1.gr hg26 (by first | (intro e; have := hq26 _ e; omega) | exact own_blk_ne hoi hb_g1 (by decide))
      replace hb_g2 := hb_g2.gr hg26 (by first | (intro e; have := hq26 _ e; omega) | exact own_blk_ne hoi hb_g2 (by decide))
      replace hb_g3 := hb_g3.gr hg26 (by first | (intro e; have := hq26 _ e; omega) | exact own_blk_ne hoi hb_g3 (by decide))
      replace hE := hE.gr hg26 (fun g e => by have := hq26 g e; omega)
      have hq_ho26 := fun g e => Own.lt ho26 (g := g) e
      refine wl_val (ov_field0 (off := 1) fo40_1 rfl) rfl rfl rfl ?_
      refine wl_step0 (or_storeAt (cs' := [(.int .u8 (↑(codeOf c).toNat : Int)), (.slice A26 ((((needs c.op).take i).flatMap (bC c)) ++ (bC c ((needs c.op).getD i 0))).length c26)]) sz32 rfl rfl rfl hb_g3 rfl rfl) rfl rfl ?_
      rintro _ w6 ⟨hN6, hg6⟩
      have hz_hg6 := hg6.size
      replace hK := hK.gr hg6 (fun _ e => by cases e; omega)
      replace hV := hV.gr hg6 (fun _ e => by cases e; omega)
      replace hT := hT.gr hg6 (fun _ e => by cases e; omega)
      replace hb_g1 := hb_g1.gr hg6 (by intro e; cases e; omega)
      replace hb_g2 := hb_g2.gr hg6 (by intro e; cases e; omega)
      replace hE := hE.gr hg6 (fun _ e => by cases e; omega)
      replace ho26 := Own.gr ho26 hg6 (by first | exact .inl rfl | (right; intro e; first | (have := hq_ho26 _ e; omega) | (have := Own.lt ho26 e; omega) | exact own_blk_ne ho26 hb_g3 (by decide) e))
      replace hb_g3 := hN6
      refine q_nil (k_block (k_then (wc_regionL ?_)))
      refine vm rfl rfl ?_
      refine wl_val (ov_add rfl rfl (wi64 (by omega) (by omega))) rfl rfl rfl ?_
      refine va rfl rfl ?_
      refine q_nil ?_
      refine k_loop ((i + 1, A26, c26)) (by show (needs c.op).length - (i + 1) < (needs c.op).length - i; omega) (⟨rfl, rfl, rfl, rfl, rfl, trivial⟩) (⟨by show i + 1 ≤ _; omega, hb_g1, hb_g2, by show Blk _ _ _ [_, .slice _ (((needs c.op).take (i + 1)).flatMap (bC c)).length _]; rw [take_bC (by omega)]; exact hb_g3, by show OwnB _ _ _ _ _ (((needs c.op).take (i + 1)).flatMap (bC c)); rw [take_bC (by omega)]; exact ho26, hK, hV, hT, hE⟩)
  · have hix : (((needs c.op).take i).flatMap (bC c)) = outC c := by rw [List.take_of_length_le (by omega)]; rfl
    rw [hix] at hoi hb_g3
    refine q_exit (k_thenX (k_thenX (k_blockE (k_then (wc_seq (wc_regionL ?_))))))
    refine wl_val (ov_loadBlk (cs := [(.int .u8 (↑(codeOf c).toNat : Int)), (.slice Ai (outC c).length ci)]) ag40_2 rfl hb_g3) rfl rfl rfl ?_
    refine wl_step0 (or_storeBlk (vs := [(.int .u8 (↑(codeOf c).toNat : Int)), (.slice Ai (outC c).length ci)]) sz40 rfl rfl (by simp [Value.oneCell']) hb_g2 rfl) rfl rfl ?_
    rintro _ w205 ⟨hN205, hg205⟩
    have hz_hg205 := hg205.size
    replace hK := hK.gr hg205 (fun _ e => by cases e; omega)
    replace hV := hV.gr hg205 (fun _ e => by cases e; omega)
    replace hT := hT.gr hg205 (fun _ e => by cases e; omega)
    replace hb_g1 := hb_g1.gr hg205 (by intro e; cases e; omega)
    replace hb_g3 := hb_g3.gr hg205 (by intro e; cases e; omega)
    replace hoi := Own.gr hoi hg205 (by first | exact .inl rfl | (right; intro e; first | (have := hq_hoi _ e; omega) | (have := Own.lt hoi e; omega) | exact own_blk_ne hoi hb_g2 (by decide) e))
    replace hE := hE.gr hg205 (fun _ e => by cases e; omega)
    replace hb_g2 := hN205
    refine q_nil (k_then (q_ret ?_))
    refine e_retL (rs := [.cell 2 40]) (vs := [.agg #[(.int .u8 (↑(codeOf c).toNat : Int)), (.slice Ai (outC c).length ci)]]) rfl ⟨⟨_, _, [(.int .u8 (↑(codeOf c).toNat : Int)), (.slice Ai (outC c).length ci)], rfl, ag40_2, hb_g2, rfl⟩, trivial⟩ ?_
    exact ⟨Ai, ci, rfl, hoi, hE⟩

end Go.Proofs.YtohnkjjjejnkpaaDoor
