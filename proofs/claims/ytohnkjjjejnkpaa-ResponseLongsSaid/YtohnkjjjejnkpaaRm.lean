/-
  The reference: Valid.
-/
import Derived.Test.YtohnkjjjejnkpaaRl
namespace Go.Proofs.Ytohnkjjjejnkpaa
open Go.RowKit
set_option linter.unusedVariables false
set_option maxRecDepth 4000
theorem cl14 : callable Try.prog 14 = true := by kernel_rfl
theorem cl25 : callable Try.prog 25 = true := by kernel_rfl

theorem rv8_a (w : World) (r : Rsp) (xs : List IT) (hv : vals xs = r.items) (lo hi : Nat) (X : Option Addr) (cx : Nat) (N : Option Addr) (cn : Nat) (hx : RdI w lo hi X cx xs) (hn : RdN w lo hi N cn r.nums) (h : r.op < 0) :
    Fn Try.prog 10 #[(.agg #[(.int .i64 r.op), (.int .i64 r.err), (.slice X r.items.length cx), (.int .u64 (↑r.ver : Int)), (.int .i64 r.count), (.slice N r.nums.length cn)])] w (fun v w' => v = .bool (decide (RV r)) ∧ Ext w w')  := by
  replace hx := hx.top
  replace hn := Rd.top hn
  have hE := ext_refl w
  obtain ⟨hi, hh1⟩ : ∃ n, n = w.heap.size := ⟨_, rfl⟩
  rw [← hh1] at hx hn
  have hvl := vals_len xs
  rw [hv] at hvl
  have hcx := hx.1.2.1
  have hcx1 := hx.1.1
  have hcn := hn.2.1
  have hcn1 := hn.1
  simp only [maxLen] at hcx hcn
  have hbad : ¬ RV r := fun q => by have := q.o1; omega
  refine fn_enter (args := [(.agg #[(.int .i64 r.op), (.int .i64 r.err), (.slice X r.items.length cx), (.int .u64 (↑r.ver : Int)), (.int .i64 r.count), (.slice N r.nums.length cn)])]) Try.func10 rfl rfl rfl ?_
  show WC _ _ _ _ [(0, (.agg #[(.int .i64 r.op), (.int .i64 r.err), (.slice X r.items.length cx), (.int .u64 (↑r.ver : Int)), (.int .i64 r.count), (.slice N r.nums.length cn)]))] _
  refine wc_seq (wc_regionL ?_)
  refine wl_step (or_box (cs := [(.int .i64 r.op), (.int .i64 r.err), (.slice X r.items.length cx), (.int .u64 (↑r.ver : Int)), (.int .i64 r.count), (.slice N r.nums.length cn)]) rfl rfl) rfl rfl rfl ?_
  rintro v w1 ⟨g1, rfl, hb_g1, he1, hl1, hu1⟩
  replace hx := RdI.ext hx he1
  replace hn := hn.ext he1
  replace hE := hE.tr he1
  have hz_he1 := he1.size
  refine va rfl rfl ?_
  refine q_nil (k_then (wc_seq (wc_seq ?_)))
  refine wc_draw mixed 32 [(5, eqv (.pointer (some ⟨g1, 0, none⟩))), (6, eqv (.int .i64 r.op)), (7, eqv (.bool true)), (8, eqv (.bool true)), (9, eqv undef), (10, eqv undef), (11, eqv undef), (12, eqv (.bool true)), (13, eqv (.bool true)), (14, eqv undef), (15, eqv undef), (16, eqv undef), (17, eqv (.bool true)), (18, eqv (.bool true)), (19, eqv undef), (20, eqv undef), (21, eqv undef), (22, eqv (.bool true)), (23, eqv (.bool true)), (24, eqv undef), (25, eqv undef), (26, eqv undef), (27, eqv undef), (28, eqv undef), (29, eqv undef), (30, eqv undef), (31, eqv undef), (32, eqv (.bool true)), (33, eqv (.bool true)), (34, eqv undef), (35, eqv undef), (36, eqv undef)] [[], [0], [1], [2], [3], [3, 4], [3, 5], [3, 6], [7], [8], [8, 9], [8, 10], [8, 11], [12], [13], [13, 14], [13, 15], [13, 16], [17], [18], [18, 19], [18, 20], [18, 21], [22], [22, 23], [22, 24], [18, 22, 25], [18, 26], [27], [28], [28], [28, 30]] _ [] [] (fun _ _ h => h) trivial (by kernel_rfl) rfl ⟨⟨stb_eqv _, fun _ he => by cases he⟩, ⟨stb_eqv _, fun _ he => by cases he⟩, ⟨stb_eqv _, fun _ he => by cases he⟩, ⟨stb_eqv _, fun _ he => by cases he⟩, ⟨stb_eqv _, fun _ he => by cases he⟩, ⟨stb_eqv _, fun _ he => by cases he⟩, ⟨stb_eqv _, fun _ he => by cases he⟩, ⟨stb_eqv _, fun _ he => by cases he⟩, ⟨stb_eqv _, fun _ he => by cases he⟩, ⟨stb_eqv _, fun _ he => by cases he⟩, ⟨stb_eqv _, fun _ he => by cases he⟩, ⟨stb_eqv _, fun _ he => by cases he⟩, ⟨stb_eqv _, fun _ he => by cases he⟩, ⟨stb_eqv _, fun _ he => by cases he⟩, ⟨stb_eqv _, fun _ he => by cases he⟩, ⟨stb_eqv _, fun _ he => by cases he⟩, ⟨stb_eqv _, fun _ he => by cases he⟩, ⟨stb_eqv _, fun _ he => by cases he⟩, ⟨stb_eqv _, fun _ he => by cases he⟩, ⟨stb_eqv _, fun _ he => by cases he⟩, ⟨stb_eqv _, fun _ he => by cases he⟩, ⟨stb_eqv _, fun _ he => by cases he⟩, ⟨stb_eqv _, fun _ he => by cases he⟩, ⟨stb_eqv _, fun _ he => by cases he⟩, ⟨stb_eqv _, fun _ he => by cases he⟩, ⟨stb_eqv _, fun _ he => by cases he⟩, ⟨stb_eqv _, fun _ he => by cases he⟩, ⟨stb_eqv _, fun _ he => by cases he⟩, ⟨stb_eqv _, fun _ he => by cases he⟩, ⟨stb_eqv _, fun _ he => by cases he⟩, ⟨stb_eqv _, fun _ he => by cases he⟩, ⟨stb_eqv _, fun _ he => by cases he⟩, trivial⟩ ⟨?_, ?_, ?_, ?_, ?_, ?_, ?_, ?_, ?_, ?_, ?_, ?_, ?_, ?_, ?_, ?_, ?_, ?_, ?_, ?_, ?_, ?_, ?_, ?_, ?_, ?_, ?_, ?_, ?_, ?_, ?_, ?_, trivial⟩ ?_
  · intro wd hxE
    replace hx := RdI.ext hx hxE
    replace hn := hn.ext hxE
    replace hE := hE.tr hxE
    replace hb_g1 := hb_g1.ext hxE
    have hz_hxE := hxE.size
    show OpG _ _ _ _ _ _
    exact og_plain rfl (ox_val (ov_field0 (off := 0) fo28_0 rfl))
  · intro wd hxE
    replace hx := RdI.ext hx hxE
    replace hn := hn.ext hxE
    replace hE := hE.tr hxE
    replace hb_g1 := hb_g1.ext hxE
    have hz_hxE := hxE.size
    rintro _ rfl
    show OpG _ _ _ _ _ _
    exact og_plain rfl (ox_val (ov_loadAt oc22 rfl hb_g1 rfl))
  · intro wd hxE
    replace hx := RdI.ext hx hxE
    replace hn := hn.ext hxE
    replace hE := hE.tr hxE
    replace hb_g1 := hb_g1.ext hxE
    have hz_hxE := hxE.size
    rintro _ rfl
    show OpG _ _ _ _ _ _
    exact og_plain rfl (ox_T (by omega) (ov_lss rfl rfl))
  · intro wd hxE
    replace hx := RdI.ext hx hxE
    replace hn := hn.ext hxE
    replace hE := hE.tr hxE
    replace hb_g1 := hb_g1.ext hxE
    have hz_hxE := hxE.size
    rintro _ rfl
    show OpG _ _ _ _ _ _
    exact og_plain rfl (ox_val (ov_move rfl))
  · intro wd hxE
    replace hx := RdI.ext hx hxE
    replace hn := hn.ext hxE
    replace hE := hE.tr hxE
    replace hb_g1 := hb_g1.ext hxE
    have hz_hxE := hxE.size
    rintro _ rfl
    show OpG _ _ _ _ _ _
    exact og_off rfl rfl rfl rfl ⟨rfl, ext_refl _⟩
  · intro wd hxE
    replace hx := RdI.ext hx hxE
    replace hn := hn.ext hxE
    replace hE := hE.tr hxE
    replace hb_g1 := hb_g1.ext hxE
    have hz_hxE := hxE.size
    rintro _ rfl
    rintro _ rfl
    show OpG _ _ _ _ _ _
    exact og_off rfl rfl rfl rfl ⟨rfl, ext_refl _⟩
  · intro wd hxE
    replace hx := RdI.ext hx hxE
    replace hn := hn.ext hxE
    replace hE := hE.tr hxE
    replace hb_g1 := hb_g1.ext hxE
    have hz_hxE := hxE.size
    rintro _ rfl
    rintro _ rfl
    show OpG _ _ _ _ _ _
    exact og_off rfl rfl rfl rfl ⟨rfl, ext_refl _⟩
  · intro wd hxE
    replace hx := RdI.ext hx hxE
    replace hn := hn.ext hxE
    replace hE := hE.tr hxE
    replace hb_g1 := hb_g1.ext hxE
    have hz_hxE := hxE.size
    rintro _ rfl
    rintro _ rfl
    show OpG _ _ _ _ _ _
    exact og_plain rfl (ox_val (ov_pick_t rfl rfl))
  · intro wd hxE
    replace hx := RdI.ext hx hxE
    replace hn := hn.ext hxE
    replace hE := hE.tr hxE
    replace hb_g1 := hb_g1.ext hxE
    have hz_hxE := hxE.size
    rintro _ rfl
    show OpG _ _ _ _ _ _
    exact og_plain rfl (ox_val (ov_move rfl))
  · intro wd hxE
    replace hx := RdI.ext hx hxE
    replace hn := hn.ext hxE
    replace hE := hE.tr hxE
    replace hb_g1 := hb_g1.ext hxE
    have hz_hxE := hxE.size
    rintro _ rfl
    show OpG _ _ _ _ _ _
    exact og_off rfl rfl rfl rfl ⟨rfl, ext_refl _⟩
  · intro wd hxE
    replace hx := RdI.ext hx hxE
    replace hn := hn.ext hxE
    replace hE := hE.tr hxE
    replace hb_g1 := hb_g1.ext hxE
    have hz_hxE := hxE.size
    rintro _ rfl
    rintro _ rfl
    show OpG _ _ _ _ _ _
    exact og_off rfl rfl rfl rfl ⟨rfl, ext_refl _⟩
  · intro wd hxE
    replace hx := RdI.ext hx hxE
    replace hn := hn.ext hxE
    replace hE := hE.tr hxE
    replace hb_g1 := hb_g1.ext hxE
    have hz_hxE := hxE.size
    rintro _ rfl
    rintro _ rfl
    show OpG _ _ _ _ _ _
    exact og_off rfl rfl rfl rfl ⟨rfl, ext_refl _⟩
  · intro wd hxE
    replace hx := RdI.ext hx hxE
    replace hn := hn.ext hxE
    replace hE := hE.tr hxE
    replace hb_g1 := hb_g1.ext hxE
    have hz_hxE := hxE.size
    rintro _ rfl
    rintro _ rfl
    show OpG _ _ _ _ _ _
    exact og_plain rfl (ox_val (ov_pick_t rfl rfl))
  · intro wd hxE
    replace hx := RdI.ext hx hxE
    replace hn := hn.ext hxE
    replace hE := hE.tr hxE
    replace hb_g1 := hb_g1.ext hxE
    have hz_hxE := hxE.size
    rintro _ rfl
    show OpG _ _ _ _ _ _
    exact og_plain rfl (ox_val (ov_move rfl))
  · intro wd hxE
    replace hx := RdI.ext hx hxE
    replace hn := hn.ext hxE
    replace hE := hE.tr hxE
    replace hb_g1 := hb_g1.ext hxE
    have hz_hxE := hxE.size
    rintro _ rfl
    show OpG _ _ _ _ _ _
    exact og_off rfl rfl rfl rfl ⟨rfl, ext_refl _⟩
  · intro wd hxE
    replace hx := RdI.ext hx hxE
    replace hn := hn.ext hxE
    replace hE := hE.tr hxE
    replace hb_g1 := hb_g1.ext hxE
    have hz_hxE := hxE.size
    rintro _ rfl
    rintro _ rfl
    show OpG _ _ _ _ _ _
    exact og_off rfl rfl rfl rfl ⟨rfl, ext_refl _⟩
  · intro wd hxE
    replace hx := RdI.ext hx hxE
    replace hn := hn.ext hxE
    replace hE := hE.tr hxE
    replace hb_g1 := hb_g1.ext hxE
    have hz_hxE := hxE.size
    rintro _ rfl
    rintro _ rfl
    show OpG _ _ _ _ _ _
    exact og_off rfl rfl rfl rfl ⟨rfl, ext_refl _⟩
  · intro wd hxE
    replace hx := RdI.ext hx hxE
    replace hn := hn.ext hxE
    replace hE := hE.tr hxE
    replace hb_g1 := hb_g1.ext hxE
    have hz_hxE := hxE.size
    rintro _ rfl
    rintro _ rfl
    show OpG _ _ _ _ _ _
    exact og_plain rfl (ox_val (ov_pick_t rfl rfl))
  · intro wd hxE
    replace hx := RdI.ext hx hxE
    replace hn := hn.ext hxE
    replace hE := hE.tr hxE
    replace hb_g1 := hb_g1.ext hxE
    have hz_hxE := hxE.size
    rintro _ rfl
    show OpG _ _ _ _ _ _
    exact og_plain rfl (ox_val (ov_move rfl))
  · intro wd hxE
    replace hx := RdI.ext hx hxE
    replace hn := hn.ext hxE
    replace hE := hE.tr hxE
    replace hb_g1 := hb_g1.ext hxE
    have hz_hxE := hxE.size
    rintro _ rfl
    show OpG _ _ _ _ _ _
    exact og_off rfl rfl rfl rfl ⟨rfl, ext_refl _⟩
  · intro wd hxE
    replace hx := RdI.ext hx hxE
    replace hn := hn.ext hxE
    replace hE := hE.tr hxE
    replace hb_g1 := hb_g1.ext hxE
    have hz_hxE := hxE.size
    rintro _ rfl
    rintro _ rfl
    show OpG _ _ _ _ _ _
    exact og_off rfl rfl rfl rfl ⟨rfl, ext_refl _⟩
  · intro wd hxE
    replace hx := RdI.ext hx hxE
    replace hn := hn.ext hxE
    replace hE := hE.tr hxE
    replace hb_g1 := hb_g1.ext hxE
    have hz_hxE := hxE.size
    rintro _ rfl
    rintro _ rfl
    show OpG _ _ _ _ _ _
    exact og_off rfl rfl rfl rfl ⟨rfl, ext_refl _⟩
  · intro wd hxE
    replace hx := RdI.ext hx hxE
    replace hn := hn.ext hxE
    replace hE := hE.tr hxE
    replace hb_g1 := hb_g1.ext hxE
    have hz_hxE := hxE.size
    rintro _ rfl
    rintro _ rfl
    show OpG _ _ _ _ _ _
    exact og_off rfl rfl rfl rfl ⟨rfl, ext_refl _⟩
  · intro wd hxE
    replace hx := RdI.ext hx hxE
    replace hn := hn.ext hxE
    replace hE := hE.tr hxE
    replace hb_g1 := hb_g1.ext hxE
    have hz_hxE := hxE.size
    rintro _ rfl
    show OpG _ _ _ _ _ _
    exact og_offU rfl rfl rfl ⟨rfl, ext_refl _⟩
  · intro wd hxE
    replace hx := RdI.ext hx hxE
    replace hn := hn.ext hxE
    replace hE := hE.tr hxE
    replace hb_g1 := hb_g1.ext hxE
    have hz_hxE := hxE.size
    rintro _ rfl
    rintro _ rfl
    show OpG _ _ _ _ _ _
    exact og_offU rfl rfl rfl ⟨rfl, ext_refl _⟩
  · intro wd hxE
    replace hx := RdI.ext hx hxE
    replace hn := hn.ext hxE
    replace hE := hE.tr hxE
    replace hb_g1 := hb_g1.ext hxE
    have hz_hxE := hxE.size
    rintro _ rfl
    rintro _ rfl
    show OpG _ _ _ _ _ _
    exact og_offU rfl rfl rfl ⟨rfl, ext_refl _⟩
  · intro wd hxE
    replace hx := RdI.ext hx hxE
    replace hn := hn.ext hxE
    replace hE := hE.tr hxE
    replace hb_g1 := hb_g1.ext hxE
    have hz_hxE := hxE.size
    rintro _ rfl
    rintro _ rfl
    rintro _ rfl
    show OpG _ _ _ _ _ _
    exact og_off rfl rfl rfl rfl ⟨rfl, ext_refl _⟩
  · intro wd hxE
    replace hx := RdI.ext hx hxE
    replace hn := hn.ext hxE
    replace hE := hE.tr hxE
    replace hb_g1 := hb_g1.ext hxE
    have hz_hxE := hxE.size
    rintro _ rfl
    rintro _ rfl
    show OpG _ _ _ _ _ _
    exact og_plain rfl (ox_val (ov_pick_t rfl rfl))
  · intro wd hxE
    replace hx := RdI.ext hx hxE
    replace hn := hn.ext hxE
    replace hE := hE.tr hxE
    replace hb_g1 := hb_g1.ext hxE
    have hz_hxE := hxE.size
    rintro _ rfl
    show OpG _ _ _ _ _ _
    exact og_plain rfl (ox_val (ov_move rfl))
  · intro wd hxE
    replace hx := RdI.ext hx hxE
    replace hn := hn.ext hxE
    replace hE := hE.tr hxE
    replace hb_g1 := hb_g1.ext hxE
    have hz_hxE := hxE.size
    rintro _ rfl
    show OpG _ _ _ _ _ _
    exact og_off rfl rfl rfl rfl ⟨rfl, ext_refl _⟩
  · intro wd hxE
    replace hx := RdI.ext hx hxE
    replace hn := hn.ext hxE
    replace hE := hE.tr hxE
    replace hb_g1 := hb_g1.ext hxE
    have hz_hxE := hxE.size
    rintro _ rfl
    show OpG _ _ _ _ _ _
    exact og_off rfl rfl rfl rfl ⟨rfl, ext_refl _⟩
  · intro wd hxE
    replace hx := RdI.ext hx hxE
    replace hn := hn.ext hxE
    replace hE := hE.tr hxE
    replace hb_g1 := hb_g1.ext hxE
    have hz_hxE := hxE.size
    rintro _ rfl
    rintro _ rfl
    show OpG _ _ _ _ _ _
    exact og_off rfl rfl rfl rfl ⟨rfl, ext_refl _⟩
  · intro wf1 hf1
    replace hx := RdI.ext hx hf1
    replace hn := hn.ext hf1
    replace hE := hE.tr hf1
    replace hb_g1 := hb_g1.ext hf1
    have hz_hf1 := hf1.size
    rintro _ rfl
    rintro _ rfl
    rintro _ rfl
    rintro _ rfl
    rintro _ rfl
    rintro _ rfl
    rintro _ rfl
    rintro _ rfl
    rintro _ rfl
    rintro _ rfl
    rintro _ rfl
    rintro _ rfl
    rintro _ rfl
    rintro _ rfl
    rintro _ rfl
    rintro _ rfl
    rintro _ rfl
    rintro _ rfl
    rintro _ rfl
    rintro _ rfl
    rintro _ rfl
    rintro _ rfl
    rintro _ rfl
    rintro _ rfl
    rintro _ rfl
    rintro _ rfl
    rintro _ rfl
    rintro _ rfl
    rintro _ rfl
    rintro _ rfl
    rintro _ rfl
    rintro _ rfl
    show WL _ _ _ [_, _, _] _ _ _
    iterate 2 refine wl_gskip rfl rfl rfl rfl rfl rfl ?_
    refine wl_val (ov_pick_t rfl rfl) rfl rfl rfl ?_
    refine q_nil (k_then ?_)
    refine wc_cond_t rfl ?_
    refine wc_seq (wc_regionL ?_)
    refine va rfl rfl ?_
    refine q_nil (k_then (q_ret (k_thenR ?_)))
    refine e_ret rfl rfl ?_
    exact ⟨by rw [decide_eq_false hbad], hE⟩

theorem rv8_b (w : World) (r : Rsp) (xs : List IT) (hv : vals xs = r.items) (lo hi : Nat) (X : Option Addr) (cx : Nat) (N : Option Addr) (cn : Nat) (hx : RdI w lo hi X cx xs) (hn : RdN w lo hi N cn r.nums) (h : 15 < r.op) :
    Fn Try.prog 10 #[(.agg #[(.int .i64 r.op), (.int .i64 r.err), (.slice X r.items.length cx), (.int .u64 (↑r.ver : Int)), (.int .i64 r.count), (.slice N r.nums.length cn)])] w (fun v w' => v = .bool (decide (RV r)) ∧ Ext w w')  := by
  replace hx := hx.top
  replace hn := Rd.top hn
  have hE := ext_refl w
  obtain ⟨hi, hh1⟩ : ∃ n, n = w.heap.size := ⟨_, rfl⟩
  rw [← hh1] at hx hn
  have hvl := vals_len xs
  rw [hv] at hvl
  have hcx := hx.1.2.1
  have hcx1 := hx.1.1
  have hcn := hn.2.1
  have hcn1 := hn.1
  simp only [maxLen] at hcx hcn
  have hbad : ¬ RV r := fun q => by have := q.o2; omega
  refine fn_enter (args := [(.agg #[(.int .i64 r.op), (.int .i64 r.err), (.slice X r.items.length cx), (.int .u64 (↑r.ver : Int)), (.int .i64 r.count), (.slice N r.nums.length cn)])]) Try.func10 rfl rfl rfl ?_
  show WC _ _ _ _ [(0, (.agg #[(.int .i64 r.op), (.int .i64 r.err), (.slice X r.items.length cx), (.int .u64 (↑r.ver : Int)), (.int .i64 r.count), (.slice N r.nums.length cn)]))] _
  refine wc_seq (wc_regionL ?_)
  refine wl_step (or_box (cs := [(.int .i64 r.op), (.int .i64 r.err), (.slice X r.items.length cx), (.int .u64 (↑r.ver : Int)), (.int .i64 r.count), (.slice N r.nums.length cn)]) rfl rfl) rfl rfl rfl ?_
  rintro v w1 ⟨g1, rfl, hb_g1, he1, hl1, hu1⟩
  replace hx := RdI.ext hx he1
  replace hn := hn.ext he1
  replace hE := hE.tr he1
  have hz_he1 := he1.size
  refine va rfl rfl ?_
  refine q_nil (k_then (wc_seq (wc_seq ?_)))
  refine wc_draw mixed 32 [(5, eqv (.pointer (some ⟨g1, 0, none⟩))), (6, eqv (.int .i64 r.op)), (7, eqv (.bool false)), (8, eqv (.bool false)), (9, eqv (.pointer (some ⟨g1, 0, none⟩))), (10, eqv (.int .i64 r.op)), (11, eqv (.bool true)), (12, eqv (.bool true)), (13, eqv (.bool true)), (14, eqv undef), (15, eqv undef), (16, eqv undef), (17, eqv (.bool true)), (18, eqv (.bool true)), (19, eqv undef), (20, eqv undef), (21, eqv undef), (22, eqv (.bool true)), (23, eqv (.bool true)), (24, eqv undef), (25, eqv undef), (26, eqv undef), (27, eqv undef), (28, eqv undef), (29, eqv undef), (30, eqv undef), (31, eqv undef), (32, eqv (.bool true)), (33, eqv (.bool true)), (34, eqv undef), (35, eqv undef), (36, eqv undef)] [[], [0], [1], [2], [3], [3, 4], [3, 5], [3, 6], [7], [8], [8, 9], [8, 10], [8, 11], [12], [13], [13, 14], [13, 15], [13, 16], [17], [18], [18, 19], [18, 20], [18, 21], [22], [22, 23], [22, 24], [18, 22, 25], [18, 26], [27], [28], [28], [28, 30]] _ [] [] (fun _ _ h => h) trivial (by kernel_rfl) rfl ⟨⟨stb_eqv _, fun _ he => by cases he⟩, ⟨stb_eqv _, fun _ he => by cases he⟩, ⟨stb_eqv _, fun _ he => by cases he⟩, ⟨stb_eqv _, fun _ he => by cases he⟩, ⟨stb_eqv _, fun _ he => by cases he⟩, ⟨stb_eqv _, fun _ he => by cases he⟩, ⟨stb_eqv _, fun _ he => by cases he⟩, ⟨stb_eqv _, fun _ he => by cases he⟩, ⟨stb_eqv _, fun _ he => by cases he⟩, ⟨stb_eqv _, fun _ he => by cases he⟩, ⟨stb_eqv _, fun _ he => by cases he⟩, ⟨stb_eqv _, fun _ he => by cases he⟩, ⟨stb_eqv _, fun _ he => by cases he⟩, ⟨stb_eqv _, fun _ he => by cases he⟩, ⟨stb_eqv _, fun _ he => by cases he⟩, ⟨stb_eqv _, fun _ he => by cases he⟩, ⟨stb_eqv _, fun _ he => by cases he⟩, ⟨stb_eqv _, fun _ he => by cases he⟩, ⟨stb_eqv _, fun _ he => by cases he⟩, ⟨stb_eqv _, fun _ he => by cases he⟩, ⟨stb_eqv _, fun _ he => by cases he⟩, ⟨stb_eqv _, fun _ he => by cases he⟩, ⟨stb_eqv _, fun _ he => by cases he⟩, ⟨stb_eqv _, fun _ he => by cases he⟩, ⟨stb_eqv _, fun _ he => by cases he⟩, ⟨stb_eqv _, fun _ he => by cases he⟩, ⟨stb_eqv _, fun _ he => by cases he⟩, ⟨stb_eqv _, fun _ he => by cases he⟩, ⟨stb_eqv _, fun _ he => by cases he⟩, ⟨stb_eqv _, fun _ he => by cases he⟩, ⟨stb_eqv _, fun _ he => by cases he⟩, ⟨stb_eqv _, fun _ he => by cases he⟩, trivial⟩ ⟨?_, ?_, ?_, ?_, ?_, ?_, ?_, ?_, ?_, ?_, ?_, ?_, ?_, ?_, ?_, ?_, ?_, ?_, ?_, ?_, ?_, ?_, ?_, ?_, ?_, ?_, ?_, ?_, ?_, ?_, ?_, ?_, trivial⟩ ?_
  · intro wd hxE
    replace hx := RdI.ext hx hxE
    replace hn := hn.ext hxE
    replace hE := hE.tr hxE
    replace hb_g1 := hb_g1.ext hxE
    have hz_hxE := hxE.size
    show OpG _ _ _ _ _ _
    exact og_plain rfl (ox_val (ov_field0 (off := 0) fo28_0 rfl))
  · intro wd hxE
    replace hx := RdI.ext hx hxE
    replace hn := hn.ext hxE
    replace hE := hE.tr hxE
    replace hb_g1 := hb_g1.ext hxE
    have hz_hxE := hxE.size
    rintro _ rfl
    show OpG _ _ _ _ _ _
    exact og_plain rfl (ox_val (ov_loadAt oc22 rfl hb_g1 rfl))
  · intro wd hxE
    replace hx := RdI.ext hx hxE
    replace hn := hn.ext hxE
    replace hE := hE.tr hxE
    replace hb_g1 := hb_g1.ext hxE
    have hz_hxE := hxE.size
    rintro _ rfl
    show OpG _ _ _ _ _ _
    exact og_plain rfl (ox_F (by omega) (ov_lss rfl rfl))
  · intro wd hxE
    replace hx := RdI.ext hx hxE
    replace hn := hn.ext hxE
    replace hE := hE.tr hxE
    replace hb_g1 := hb_g1.ext hxE
    have hz_hxE := hxE.size
    rintro _ rfl
    show OpG _ _ _ _ _ _
    exact og_plain rfl (ox_val (ov_move rfl))
  · intro wd hxE
    replace hx := RdI.ext hx hxE
    replace hn := hn.ext hxE
    replace hE := hE.tr hxE
    replace hb_g1 := hb_g1.ext hxE
    have hz_hxE := hxE.size
    rintro _ rfl
    show OpG _ _ _ _ _ _
    exact og_on rfl rfl rfl (ox_val (ov_field0 (off := 0) fo28_0 rfl))
  · intro wd hxE
    replace hx := RdI.ext hx hxE
    replace hn := hn.ext hxE
    replace hE := hE.tr hxE
    replace hb_g1 := hb_g1.ext hxE
    have hz_hxE := hxE.size
    rintro _ rfl
    rintro _ rfl
    show OpG _ _ _ _ _ _
    exact og_on rfl rfl rfl (ox_val (ov_loadAt oc22 rfl hb_g1 rfl))
  · intro wd hxE
    replace hx := RdI.ext hx hxE
    replace hn := hn.ext hxE
    replace hE := hE.tr hxE
    replace hb_g1 := hb_g1.ext hxE
    have hz_hxE := hxE.size
    rintro _ rfl
    rintro _ rfl
    show OpG _ _ _ _ _ _
    exact og_on rfl rfl rfl (ox_T (by omega) (ov_gtr rfl rfl))
  · intro wd hxE
    replace hx := RdI.ext hx hxE
    replace hn := hn.ext hxE
    replace hE := hE.tr hxE
    replace hb_g1 := hb_g1.ext hxE
    have hz_hxE := hxE.size
    rintro _ rfl
    rintro _ rfl
    show OpG _ _ _ _ _ _
    exact og_plain rfl (ox_val (ov_pick_f rfl rfl))
  · intro wd hxE
    replace hx := RdI.ext hx hxE
    replace hn := hn.ext hxE
    replace hE := hE.tr hxE
    replace hb_g1 := hb_g1.ext hxE
    have hz_hxE := hxE.size
    rintro _ rfl
    show OpG _ _ _ _ _ _
    exact og_plain rfl (ox_val (ov_move rfl))
  · intro wd hxE
    replace hx := RdI.ext hx hxE
    replace hn := hn.ext hxE
    replace hE := hE.tr hxE
    replace hb_g1 := hb_g1.ext hxE
    have hz_hxE := hxE.size
    rintro _ rfl
    show OpG _ _ _ _ _ _
    exact og_off rfl rfl rfl rfl ⟨rfl, ext_refl _⟩
  · intro wd hxE
    replace hx := RdI.ext hx hxE
    replace hn := hn.ext hxE
    replace hE := hE.tr hxE
    replace hb_g1 := hb_g1.ext hxE
    have hz_hxE := hxE.size
    rintro _ rfl
    rintro _ rfl
    show OpG _ _ _ _ _ _
    exact og_off rfl rfl rfl rfl ⟨rfl, ext_refl _⟩
  · intro wd hxE
    replace hx := RdI.ext hx hxE
    replace hn := hn.ext hxE
    replace hE := hE.tr hxE
    replace hb_g1 := hb_g1.ext hxE
    have hz_hxE := hxE.size
    rintro _ rfl
    rintro _ rfl
    show OpG _ _ _ _ _ _
    exact og_off rfl rfl rfl rfl ⟨rfl, ext_refl _⟩
  · intro wd hxE
    replace hx := RdI.ext hx hxE
    replace hn := hn.ext hxE
    replace hE := hE.tr hxE
    replace hb_g1 := hb_g1.ext hxE
    have hz_hxE := hxE.size
    rintro _ rfl
    rintro _ rfl
    show OpG _ _ _ _ _ _
    exact og_plain rfl (ox_val (ov_pick_t rfl rfl))
  · intro wd hxE
    replace hx := RdI.ext hx hxE
    replace hn := hn.ext hxE
    replace hE := hE.tr hxE
    replace hb_g1 := hb_g1.ext hxE
    have hz_hxE := hxE.size
    rintro _ rfl
    show OpG _ _ _ _ _ _
    exact og_plain rfl (ox_val (ov_move rfl))
  · intro wd hxE
    replace hx := RdI.ext hx hxE
    replace hn := hn.ext hxE
    replace hE := hE.tr hxE
    replace hb_g1 := hb_g1.ext hxE
    have hz_hxE := hxE.size
    rintro _ rfl
    show OpG _ _ _ _ _ _
    exact og_off rfl rfl rfl rfl ⟨rfl, ext_refl _⟩
  · intro wd hxE
    replace hx := RdI.ext hx hxE
    replace hn := hn.ext hxE
    replace hE := hE.tr hxE
    replace hb_g1 := hb_g1.ext hxE
    have hz_hxE := hxE.size
    rintro _ rfl
    rintro _ rfl
    show OpG _ _ _ _ _ _
    exact og_off rfl rfl rfl rfl ⟨rfl, ext_refl _⟩
  · intro wd hxE
    replace hx := RdI.ext hx hxE
    replace hn := hn.ext hxE
    replace hE := hE.tr hxE
    replace hb_g1 := hb_g1.ext hxE
    have hz_hxE := hxE.size
    rintro _ rfl
    rintro _ rfl
    show OpG _ _ _ _ _ _
    exact og_off rfl rfl rfl rfl ⟨rfl, ext_refl _⟩
  · intro wd hxE
    replace hx := RdI.ext hx hxE
    replace hn := hn.ext hxE
    replace hE := hE.tr hxE
    replace hb_g1 := hb_g1.ext hxE
    have hz_hxE := hxE.size
    rintro _ rfl
    rintro _ rfl
    show OpG _ _ _ _ _ _
    exact og_plain rfl (ox_val (ov_pick_t rfl rfl))
  · intro wd hxE
    replace hx := RdI.ext hx hxE
    replace hn := hn.ext hxE
    replace hE := hE.tr hxE
    replace hb_g1 := hb_g1.ext hxE
    have hz_hxE := hxE.size
    rintro _ rfl
    show OpG _ _ _ _ _ _
    exact og_plain rfl (ox_val (ov_move rfl))
  · intro wd hxE
    replace hx := RdI.ext hx hxE
    replace hn := hn.ext hxE
    replace hE := hE.tr hxE
    replace hb_g1 := hb_g1.ext hxE
    have hz_hxE := hxE.size
    rintro _ rfl
    show OpG _ _ _ _ _ _
    exact og_off rfl rfl rfl rfl ⟨rfl, ext_refl _⟩
  · intro wd hxE
    replace hx := RdI.ext hx hxE
    replace hn := hn.ext hxE
    replace hE := hE.tr hxE
    replace hb_g1 := hb_g1.ext hxE
    have hz_hxE := hxE.size
    rintro _ rfl
    rintro _ rfl
    show OpG _ _ _ _ _ _
    exact og_off rfl rfl rfl rfl ⟨rfl, ext_refl _⟩
  · intro wd hxE
    replace hx := RdI.ext hx hxE
    replace hn := hn.ext hxE
    replace hE := hE.tr hxE
    replace hb_g1 := hb_g1.ext hxE
    have hz_hxE := hxE.size
    rintro _ rfl
    rintro _ rfl
    show OpG _ _ _ _ _ _
    exact og_off rfl rfl rfl rfl ⟨rfl, ext_refl _⟩
  · intro wd hxE
    replace hx := RdI.ext hx hxE
    replace hn := hn.ext hxE
    replace hE := hE.tr hxE
    replace hb_g1 := hb_g1.ext hxE
    have hz_hxE := hxE.size
    rintro _ rfl
    rintro _ rfl
    show OpG _ _ _ _ _ _
    exact og_off rfl rfl rfl rfl ⟨rfl, ext_refl _⟩
  · intro wd hxE
    replace hx := RdI.ext hx hxE
    replace hn := hn.ext hxE
    replace hE := hE.tr hxE
    replace hb_g1 := hb_g1.ext hxE
    have hz_hxE := hxE.size
    rintro _ rfl
    show OpG _ _ _ _ _ _
    exact og_offU rfl rfl rfl ⟨rfl, ext_refl _⟩
  · intro wd hxE
    replace hx := RdI.ext hx hxE
    replace hn := hn.ext hxE
    replace hE := hE.tr hxE
    replace hb_g1 := hb_g1.ext hxE
    have hz_hxE := hxE.size
    rintro _ rfl
    rintro _ rfl
    show OpG _ _ _ _ _ _
    exact og_offU rfl rfl rfl ⟨rfl, ext_refl _⟩
  · intro wd hxE
    replace hx := RdI.ext hx hxE
    replace hn := hn.ext hxE
    replace hE := hE.tr hxE
    replace hb_g1 := hb_g1.ext hxE
    have hz_hxE := hxE.size
    rintro _ rfl
    rintro _ rfl
    show OpG _ _ _ _ _ _
    exact og_offU rfl rfl rfl ⟨rfl, ext_refl _⟩
  · intro wd hxE
    replace hx := RdI.ext hx hxE
    replace hn := hn.ext hxE
    replace hE := hE.tr hxE
    replace hb_g1 := hb_g1.ext hxE
    have hz_hxE := hxE.size
    rintro _ rfl
    rintro _ rfl
    rintro _ rfl
    show OpG _ _ _ _ _ _
    exact og_off rfl rfl rfl rfl ⟨rfl, ext_refl _⟩
  · intro wd hxE
    replace hx := RdI.ext hx hxE
    replace hn := hn.ext hxE
    replace hE := hE.tr hxE
    replace hb_g1 := hb_g1.ext hxE
    have hz_hxE := hxE.size
    rintro _ rfl
    rintro _ rfl
    show OpG _ _ _ _ _ _
    exact og_plain rfl (ox_val (ov_pick_t rfl rfl))
  · intro wd hxE
    replace hx := RdI.ext hx hxE
    replace hn := hn.ext hxE
    replace hE := hE.tr hxE
    replace hb_g1 := hb_g1.ext hxE
    have hz_hxE := hxE.size
    rintro _ rfl
    show OpG _ _ _ _ _ _
    exact og_plain rfl (ox_val (ov_move rfl))
  · intro wd hxE
    replace hx := RdI.ext hx hxE
    replace hn := hn.ext hxE
    replace hE := hE.tr hxE
    replace hb_g1 := hb_g1.ext hxE
    have hz_hxE := hxE.size
    rintro _ rfl
    show OpG _ _ _ _ _ _
    exact og_off rfl rfl rfl rfl ⟨rfl, ext_refl _⟩
  · intro wd hxE
    replace hx := RdI.ext hx hxE
    replace hn := hn.ext hxE
    replace hE := hE.tr hxE
    replace hb_g1 := hb_g1.ext hxE
    have hz_hxE := hxE.size
    rintro _ rfl
    show OpG _ _ _ _ _ _
    exact og_off rfl rfl rfl rfl ⟨rfl, ext_refl _⟩
  · intro wd hxE
    replace hx := RdI.ext hx hxE
    replace hn := hn.ext hxE
    replace hE := hE.tr hxE
    replace hb_g1 := hb_g1.ext hxE
    have hz_hxE := hxE.size
    rintro _ rfl
    rintro _ rfl
    show OpG _ _ _ _ _ _
    exact og_off rfl rfl rfl rfl ⟨rfl, ext_refl _⟩
  · intro wf1 hf1
    replace hx := RdI.ext hx hf1
    replace hn := hn.ext hf1
    replace hE := hE.tr hf1
    replace hb_g1 := hb_g1.ext hf1
    have hz_hf1 := hf1.size
    rintro _ rfl
    rintro _ rfl
    rintro _ rfl
    rintro _ rfl
    rintro _ rfl
    rintro _ rfl
    rintro _ rfl
    rintro _ rfl
    rintro _ rfl
    rintro _ rfl
    rintro _ rfl
    rintro _ rfl
    rintro _ rfl
    rintro _ rfl
    rintro _ rfl
    rintro _ rfl
    rintro _ rfl
    rintro _ rfl
    rintro _ rfl
    rintro _ rfl
    rintro _ rfl
    rintro _ rfl
    rintro _ rfl
    rintro _ rfl
    rintro _ rfl
    rintro _ rfl
    rintro _ rfl
    rintro _ rfl
    rintro _ rfl
    rintro _ rfl
    rintro _ rfl
    rintro _ rfl
    show WL _ _ _ [_, _, _] _ _ _
    iterate 2 refine wl_gskip rfl rfl rfl rfl rfl rfl ?_
    refine wl_val (ov_pick_t rfl rfl) rfl rfl rfl ?_
    refine q_nil (k_then ?_)
    refine wc_cond_t rfl ?_
    refine wc_seq (wc_regionL ?_)
    refine va rfl rfl ?_
    refine q_nil (k_then (q_ret (k_thenR ?_)))
    refine e_ret rfl rfl ?_
    exact ⟨by rw [decide_eq_false hbad], hE⟩

theorem rv8_c (w : World) (r : Rsp) (xs : List IT) (hv : vals xs = r.items) (lo hi : Nat) (X : Option Addr) (cx : Nat) (N : Option Addr) (cn : Nat) (hx : RdI w lo hi X cx xs) (hn : RdN w lo hi N cn r.nums) (h1 : 0 ≤ r.op) (h2 : r.op ≤ 15) (h : r.err < 0) :
    Fn Try.prog 10 #[(.agg #[(.int .i64 r.op), (.int .i64 r.err), (.slice X r.items.length cx), (.int .u64 (↑r.ver : Int)), (.int .i64 r.count), (.slice N r.nums.length cn)])] w (fun v w' => v = .bool (decide (RV r)) ∧ Ext w w')  := by
  replace hx := hx.top
  replace hn := Rd.top hn
  have hE := ext_refl w
  obtain ⟨hi, hh1⟩ : ∃ n, n = w.heap.size := ⟨_, rfl⟩
  rw [← hh1] at hx hn
  have hvl := vals_len xs
  rw [hv] at hvl
  have hcx := hx.1.2.1
  have hcx1 := hx.1.1
  have hcn := hn.2.1
  have hcn1 := hn.1
  simp only [maxLen] at hcx hcn
  have hbad : ¬ RV r := fun q => by have := q.e1; omega
  refine fn_enter (args := [(.agg #[(.int .i64 r.op), (.int .i64 r.err), (.slice X r.items.length cx), (.int .u64 (↑r.ver : Int)), (.int .i64 r.count), (.slice N r.nums.length cn)])]) Try.func10 rfl rfl rfl ?_
  show WC _ _ _ _ [(0, (.agg #[(.int .i64 r.op), (.int .i64 r.err), (.slice X r.items.length cx), (.int .u64 (↑r.ver : Int)), (.int .i64 r.count), (.slice N r.nums.length cn)]))] _
  refine wc_seq (wc_regionL ?_)
  refine wl_step (or_box (cs := [(.int .i64 r.op), (.int .i64 r.err), (.slice X r.items.length cx), (.int .u64 (↑r.ver : Int)), (.int .i64 r.count), (.slice N r.nums.length cn)]) rfl rfl) rfl rfl rfl ?_
  rintro v w1 ⟨g1, rfl, hb_g1, he1, hl1, hu1⟩
  replace hx := RdI.ext hx he1
  replace hn := hn.ext he1
  replace hE := hE.tr he1
  have hz_he1 := he1.size
  refine va rfl rfl ?_
  refine q_nil (k_then (wc_seq (wc_seq ?_)))
  refine wc_draw mixed 32 [(5, eqv (.pointer (some ⟨g1, 0, none⟩))), (6, eqv (.int .i64 r.op)), (7, eqv (.bool false)), (8, eqv (.bool false)), (9, eqv (.pointer (some ⟨g1, 0, none⟩))), (10, eqv (.int .i64 r.op)), (11, eqv (.bool false)), (12, eqv (.bool false)), (13, eqv (.bool false)), (14, eqv (.pointer (some ⟨g1, 1, none⟩))), (15, eqv (.int .i64 r.err)), (16, eqv (.bool true)), (17, eqv (.bool true)), (18, eqv (.bool true)), (19, eqv undef), (20, eqv undef), (21, eqv undef), (22, eqv (.bool true)), (23, eqv (.bool true)), (24, eqv undef), (25, eqv undef), (26, eqv undef), (27, eqv undef), (28, eqv undef), (29, eqv undef), (30, eqv undef), (31, eqv undef), (32, eqv (.bool true)), (33, eqv (.bool true)), (34, eqv undef), (35, eqv undef), (36, eqv undef)] [[], [0], [1], [2], [3], [3, 4], [3, 5], [3, 6], [7], [8], [8, 9], [8, 10], [8, 11], [12], [13], [13, 14], [13, 15], [13, 16], [17], [18], [18, 19], [18, 20], [18, 21], [22], [22, 23], [22, 24], [18, 22, 25], [18, 26], [27], [28], [28], [28, 30]] _ [] [] (fun _ _ h => h) trivial (by kernel_rfl) rfl ⟨⟨stb_eqv _, fun _ he => by cases he⟩, ⟨stb_eqv _, fun _ he => by cases he⟩, ⟨stb_eqv _, fun _ he => by cases he⟩, ⟨stb_eqv _, fun _ he => by cases he⟩, ⟨stb_eqv _, fun _ he => by cases he⟩, ⟨stb_eqv _, fun _ he => by cases he⟩, ⟨stb_eqv _, fun _ he => by cases he⟩, ⟨stb_eqv _, fun _ he => by cases he⟩, ⟨stb_eqv _, fun _ he => by cases he⟩, ⟨stb_eqv _, fun _ he => by cases he⟩, ⟨stb_eqv _, fun _ he => by cases he⟩, ⟨stb_eqv _, fun _ he => by cases he⟩, ⟨stb_eqv _, fun _ he => by cases he⟩, ⟨stb_eqv _, fun _ he => by cases he⟩, ⟨stb_eqv _, fun _ he => by cases he⟩, ⟨stb_eqv _, fun _ he => by cases he⟩, ⟨stb_eqv _, fun _ he => by cases he⟩, ⟨stb_eqv _, fun _ he => by cases he⟩, ⟨stb_eqv _, fun _ he => by cases he⟩, ⟨stb_eqv _, fun _ he => by cases he⟩, ⟨stb_eqv _, fun _ he => by cases he⟩, ⟨stb_eqv _, fun _ he => by cases he⟩, ⟨stb_eqv _, fun _ he => by cases he⟩, ⟨stb_eqv _, fun _ he => by cases he⟩, ⟨stb_eqv _, fun _ he => by cases he⟩, ⟨stb_eqv _, fun _ he => by cases he⟩, ⟨stb_eqv _, fun _ he => by cases he⟩, ⟨stb_eqv _, fun _ he => by cases he⟩, ⟨stb_eqv _, fun _ he => by cases he⟩, ⟨stb_eqv _, fun _ he => by cases he⟩, ⟨stb_eqv _, fun _ he => by cases he⟩, ⟨stb_eqv _, fun _ he => by cases he⟩, trivial⟩ ⟨?_, ?_, ?_, ?_, ?_, ?_, ?_, ?_, ?_, ?_, ?_, ?_, ?_, ?_, ?_, ?_, ?_, ?_, ?_, ?_, ?_, ?_, ?_, ?_, ?_, ?_, ?_, ?_, ?_, ?_, ?_, ?_, trivial⟩ ?_
  · intro wd hxE
    replace hx := RdI.ext hx hxE
    replace hn := hn.ext hxE
    replace hE := hE.tr hxE
    replace hb_g1 := hb_g1.ext hxE
    have hz_hxE := hxE.size
    show OpG _ _ _ _ _ _
    exact og_plain rfl (ox_val (ov_field0 (off := 0) fo28_0 rfl))
  · intro wd hxE
    replace hx := RdI.ext hx hxE
    replace hn := hn.ext hxE
    replace hE := hE.tr hxE
    replace hb_g1 := hb_g1.ext hxE
    have hz_hxE := hxE.size
    rintro _ rfl
    show OpG _ _ _ _ _ _
    exact og_plain rfl (ox_val (ov_loadAt oc22 rfl hb_g1 rfl))
  · intro wd hxE
    replace hx := RdI.ext hx hxE
    replace hn := hn.ext hxE
    replace hE := hE.tr hxE
    replace hb_g1 := hb_g1.ext hxE
    have hz_hxE := hxE.size
    rintro _ rfl
    show OpG _ _ _ _ _ _
    exact og_plain rfl (ox_F (by omega) (ov_lss rfl rfl))
  · intro wd hxE
    replace hx := RdI.ext hx hxE
    replace hn := hn.ext hxE
    replace hE := hE.tr hxE
    replace hb_g1 := hb_g1.ext hxE
    have hz_hxE := hxE.size
    rintro _ rfl
    show OpG _ _ _ _ _ _
    exact og_plain rfl (ox_val (ov_move rfl))
  · intro wd hxE
    replace hx := RdI.ext hx hxE
    replace hn := hn.ext hxE
    replace hE := hE.tr hxE
    replace hb_g1 := hb_g1.ext hxE
    have hz_hxE := hxE.size
    rintro _ rfl
    show OpG _ _ _ _ _ _
    exact og_on rfl rfl rfl (ox_val (ov_field0 (off := 0) fo28_0 rfl))
  · intro wd hxE
    replace hx := RdI.ext hx hxE
    replace hn := hn.ext hxE
    replace hE := hE.tr hxE
    replace hb_g1 := hb_g1.ext hxE
    have hz_hxE := hxE.size
    rintro _ rfl
    rintro _ rfl
    show OpG _ _ _ _ _ _
    exact og_on rfl rfl rfl (ox_val (ov_loadAt oc22 rfl hb_g1 rfl))
  · intro wd hxE
    replace hx := RdI.ext hx hxE
    replace hn := hn.ext hxE
    replace hE := hE.tr hxE
    replace hb_g1 := hb_g1.ext hxE
    have hz_hxE := hxE.size
    rintro _ rfl
    rintro _ rfl
    show OpG _ _ _ _ _ _
    exact og_on rfl rfl rfl (ox_F (by omega) (ov_gtr rfl rfl))
  · intro wd hxE
    replace hx := RdI.ext hx hxE
    replace hn := hn.ext hxE
    replace hE := hE.tr hxE
    replace hb_g1 := hb_g1.ext hxE
    have hz_hxE := hxE.size
    rintro _ rfl
    rintro _ rfl
    show OpG _ _ _ _ _ _
    exact og_plain rfl (ox_val (ov_pick_f rfl rfl))
  · intro wd hxE
    replace hx := RdI.ext hx hxE
    replace hn := hn.ext hxE
    replace hE := hE.tr hxE
    replace hb_g1 := hb_g1.ext hxE
    have hz_hxE := hxE.size
    rintro _ rfl
    show OpG _ _ _ _ _ _
    exact og_plain rfl (ox_val (ov_move rfl))
  · intro wd hxE
    replace hx := RdI.ext hx hxE
    replace hn := hn.ext hxE
    replace hE := hE.tr hxE
    replace hb_g1 := hb_g1.ext hxE
    have hz_hxE := hxE.size
    rintro _ rfl
    show OpG _ _ _ _ _ _
    exact og_on rfl rfl rfl (ox_val (ov_field0 (off := 1) fo28_1 rfl))
  · intro wd hxE
    replace hx := RdI.ext hx hxE
    replace hn := hn.ext hxE
    replace hE := hE.tr hxE
    replace hb_g1 := hb_g1.ext hxE
    have hz_hxE := hxE.size
    rintro _ rfl
    rintro _ rfl
    show OpG _ _ _ _ _ _
    exact og_on rfl rfl rfl (ox_val (ov_loadAt oc23 rfl hb_g1 rfl))
  · intro wd hxE
    replace hx := RdI.ext hx hxE
    replace hn := hn.ext hxE
    replace hE := hE.tr hxE
    replace hb_g1 := hb_g1.ext hxE
    have hz_hxE := hxE.size
    rintro _ rfl
    rintro _ rfl
    show OpG _ _ _ _ _ _
    exact og_on rfl rfl rfl (ox_T (by omega) (ov_lss rfl rfl))
  · intro wd hxE
    replace hx := RdI.ext hx hxE
    replace hn := hn.ext hxE
    replace hE := hE.tr hxE
    replace hb_g1 := hb_g1.ext hxE
    have hz_hxE := hxE.size
    rintro _ rfl
    rintro _ rfl
    show OpG _ _ _ _ _ _
    exact og_plain rfl (ox_val (ov_pick_f rfl rfl))
  · intro wd hxE
    replace hx := RdI.ext hx hxE
    replace hn := hn.ext hxE
    replace hE := hE.tr hxE
    replace hb_g1 := hb_g1.ext hxE
    have hz_hxE := hxE.size
    rintro _ rfl
    show OpG _ _ _ _ _ _
    exact og_plain rfl (ox_val (ov_move rfl))
  · intro wd hxE
    replace hx := RdI.ext hx hxE
    replace hn := hn.ext hxE
    replace hE := hE.tr hxE
    replace hb_g1 := hb_g1.ext hxE
    have hz_hxE := hxE.size
    rintro _ rfl
    show OpG _ _ _ _ _ _
    exact og_off rfl rfl rfl rfl ⟨rfl, ext_refl _⟩
  · intro wd hxE
    replace hx := RdI.ext hx hxE
    replace hn := hn.ext hxE
    replace hE := hE.tr hxE
    replace hb_g1 := hb_g1.ext hxE
    have hz_hxE := hxE.size
    rintro _ rfl
    rintro _ rfl
    show OpG _ _ _ _ _ _
    exact og_off rfl rfl rfl rfl ⟨rfl, ext_refl _⟩
  · intro wd hxE
    replace hx := RdI.ext hx hxE
    replace hn := hn.ext hxE
    replace hE := hE.tr hxE
    replace hb_g1 := hb_g1.ext hxE
    have hz_hxE := hxE.size
    rintro _ rfl
    rintro _ rfl
    show OpG _ _ _ _ _ _
    exact og_off rfl rfl rfl rfl ⟨rfl, ext_refl _⟩
  · intro wd hxE
    replace hx := RdI.ext hx hxE
    replace hn := hn.ext hxE
    replace hE := hE.tr hxE
    replace hb_g1 := hb_g1.ext hxE
    have hz_hxE := hxE.size
    rintro _ rfl
    rintro _ rfl
    show OpG _ _ _ _ _ _
    exact og_plain rfl (ox_val (ov_pick_t rfl rfl))
  · intro wd hxE
    replace hx := RdI.ext hx hxE
    replace hn := hn.ext hxE
    replace hE := hE.tr hxE
    replace hb_g1 := hb_g1.ext hxE
    have hz_hxE := hxE.size
    rintro _ rfl
    show OpG _ _ _ _ _ _
    exact og_plain rfl (ox_val (ov_move rfl))
  · intro wd hxE
    replace hx := RdI.ext hx hxE
    replace hn := hn.ext hxE
    replace hE := hE.tr hxE
    replace hb_g1 := hb_g1.ext hxE
    have hz_hxE := hxE.size
    rintro _ rfl
    show OpG _ _ _ _ _ _
    exact og_off rfl rfl rfl rfl ⟨rfl, ext_refl _⟩
  · intro wd hxE
    replace hx := RdI.ext hx hxE
    replace hn := hn.ext hxE
    replace hE := hE.tr hxE
    replace hb_g1 := hb_g1.ext hxE
    have hz_hxE := hxE.size
    rintro _ rfl
    rintro _ rfl
    show OpG _ _ _ _ _ _
    exact og_off rfl rfl rfl rfl ⟨rfl, ext_refl _⟩
  · intro wd hxE
    replace hx := RdI.ext hx hxE
    replace hn := hn.ext hxE
    replace hE := hE.tr hxE
    replace hb_g1 := hb_g1.ext hxE
    have hz_hxE := hxE.size
    rintro _ rfl
    rintro _ rfl
    show OpG _ _ _ _ _ _
    exact og_off rfl rfl rfl rfl ⟨rfl, ext_refl _⟩
  · intro wd hxE
    replace hx := RdI.ext hx hxE
    replace hn := hn.ext hxE
    replace hE := hE.tr hxE
    replace hb_g1 := hb_g1.ext hxE
    have hz_hxE := hxE.size
    rintro _ rfl
    rintro _ rfl
    show OpG _ _ _ _ _ _
    exact og_off rfl rfl rfl rfl ⟨rfl, ext_refl _⟩
  · intro wd hxE
    replace hx := RdI.ext hx hxE
    replace hn := hn.ext hxE
    replace hE := hE.tr hxE
    replace hb_g1 := hb_g1.ext hxE
    have hz_hxE := hxE.size
    rintro _ rfl
    show OpG _ _ _ _ _ _
    exact og_offU rfl rfl rfl ⟨rfl, ext_refl _⟩
  · intro wd hxE
    replace hx := RdI.ext hx hxE
    replace hn := hn.ext hxE
    replace hE := hE.tr hxE
    replace hb_g1 := hb_g1.ext hxE
    have hz_hxE := hxE.size
    rintro _ rfl
    rintro _ rfl
    show OpG _ _ _ _ _ _
    exact og_offU rfl rfl rfl ⟨rfl, ext_refl _⟩
  · intro wd hxE
    replace hx := RdI.ext hx hxE
    replace hn := hn.ext hxE
    replace hE := hE.tr hxE
    replace hb_g1 := hb_g1.ext hxE
    have hz_hxE := hxE.size
    rintro _ rfl
    rintro _ rfl
    show OpG _ _ _ _ _ _
    exact og_offU rfl rfl rfl ⟨rfl, ext_refl _⟩
  · intro wd hxE
    replace hx := RdI.ext hx hxE
    replace hn := hn.ext hxE
    replace hE := hE.tr hxE
    replace hb_g1 := hb_g1.ext hxE
    have hz_hxE := hxE.size
    rintro _ rfl
    rintro _ rfl
    rintro _ rfl
    show OpG _ _ _ _ _ _
    exact og_off rfl rfl rfl rfl ⟨rfl, ext_refl _⟩
  · intro wd hxE
    replace hx := RdI.ext hx hxE
    replace hn := hn.ext hxE
    replace hE := hE.tr hxE
    replace hb_g1 := hb_g1.ext hxE
    have hz_hxE := hxE.size
    rintro _ rfl
    rintro _ rfl
    show OpG _ _ _ _ _ _
    exact og_plain rfl (ox_val (ov_pick_t rfl rfl))
  · intro wd hxE
    replace hx := RdI.ext hx hxE
    replace hn := hn.ext hxE
    replace hE := hE.tr hxE
    replace hb_g1 := hb_g1.ext hxE
    have hz_hxE := hxE.size
    rintro _ rfl
    show OpG _ _ _ _ _ _
    exact og_plain rfl (ox_val (ov_move rfl))
  · intro wd hxE
    replace hx := RdI.ext hx hxE
    replace hn := hn.ext hxE
    replace hE := hE.tr hxE
    replace hb_g1 := hb_g1.ext hxE
    have hz_hxE := hxE.size
    rintro _ rfl
    show OpG _ _ _ _ _ _
    exact og_off rfl rfl rfl rfl ⟨rfl, ext_refl _⟩
  · intro wd hxE
    replace hx := RdI.ext hx hxE
    replace hn := hn.ext hxE
    replace hE := hE.tr hxE
    replace hb_g1 := hb_g1.ext hxE
    have hz_hxE := hxE.size
    rintro _ rfl
    show OpG _ _ _ _ _ _
    exact og_off rfl rfl rfl rfl ⟨rfl, ext_refl _⟩
  · intro wd hxE
    replace hx := RdI.ext hx hxE
    replace hn := hn.ext hxE
    replace hE := hE.tr hxE
    replace hb_g1 := hb_g1.ext hxE
    have hz_hxE := hxE.size
    rintro _ rfl
    rintro _ rfl
    show OpG _ _ _ _ _ _
    exact og_off rfl rfl rfl rfl ⟨rfl, ext_refl _⟩
  · intro wf1 hf1
    replace hx := RdI.ext hx hf1
    replace hn := hn.ext hf1
    replace hE := hE.tr hf1
    replace hb_g1 := hb_g1.ext hf1
    have hz_hf1 := hf1.size
    rintro _ rfl
    rintro _ rfl
    rintro _ rfl
    rintro _ rfl
    rintro _ rfl
    rintro _ rfl
    rintro _ rfl
    rintro _ rfl
    rintro _ rfl
    rintro _ rfl
    rintro _ rfl
    rintro _ rfl
    rintro _ rfl
    rintro _ rfl
    rintro _ rfl
    rintro _ rfl
    rintro _ rfl
    rintro _ rfl
    rintro _ rfl
    rintro _ rfl
    rintro _ rfl
    rintro _ rfl
    rintro _ rfl
    rintro _ rfl
    rintro _ rfl
    rintro _ rfl
    rintro _ rfl
    rintro _ rfl
    rintro _ rfl
    rintro _ rfl
    rintro _ rfl
    rintro _ rfl
    show WL _ _ _ [_, _, _] _ _ _
    iterate 2 refine wl_gskip rfl rfl rfl rfl rfl rfl ?_
    refine wl_val (ov_pick_t rfl rfl) rfl rfl rfl ?_
    refine q_nil (k_then ?_)
    refine wc_cond_t rfl ?_
    refine wc_seq (wc_regionL ?_)
    refine va rfl rfl ?_
    refine q_nil (k_then (q_ret (k_thenR ?_)))
    refine e_ret rfl rfl ?_
    exact ⟨by rw [decide_eq_false hbad], hE⟩

theorem rv8_d (w : World) (r : Rsp) (xs : List IT) (hv : vals xs = r.items) (lo hi : Nat) (X : Option Addr) (cx : Nat) (N : Option Addr) (cn : Nat) (hx : RdI w lo hi X cx xs) (hn : RdN w lo hi N cn r.nums) (h1 : 0 ≤ r.op) (h2 : r.op ≤ 15) (h : 100000 < r.err) :
    Fn Try.prog 10 #[(.agg #[(.int .i64 r.op), (.int .i64 r.err), (.slice X r.items.length cx), (.int .u64 (↑r.ver : Int)), (.int .i64 r.count), (.slice N r.nums.length cn)])] w (fun v w' => v = .bool (decide (RV r)) ∧ Ext w w')  := by
  replace hx := hx.top
  replace hn := Rd.top hn
  have hE := ext_refl w
  obtain ⟨hi, hh1⟩ : ∃ n, n = w.heap.size := ⟨_, rfl⟩
  rw [← hh1] at hx hn
  have hvl := vals_len xs
  rw [hv] at hvl
  have hcx := hx.1.2.1
  have hcx1 := hx.1.1
  have hcn := hn.2.1
  have hcn1 := hn.1
  simp only [maxLen] at hcx hcn
  have hbad : ¬ RV r := fun q => by have := q.e2; omega
  refine fn_enter (args := [(.agg #[(.int .i64 r.op), (.int .i64 r.err), (.slice X r.items.length cx), (.int .u64 (↑r.ver : Int)), (.int .i64 r.count), (.slice N r.nums.length cn)])]) Try.func10 rfl rfl rfl ?_
  show WC _ _ _ _ [(0, (.agg #[(.int .i64 r.op), (.int .i64 r.err), (.slice X r.items.length cx), (.int .u64 (↑r.ver : Int)), (.int .i64 r.count), (.slice N r.nums.length cn)]))] _
  refine wc_seq (wc_regionL ?_)
  refine wl_step (or_box (cs := [(.int .i64 r.op), (.int .i64 r.err), (.slice X r.items.length cx), (.int .u64 (↑r.ver : Int)), (.int .i64 r.count), (.slice N r.nums.length cn)]) rfl rfl) rfl rfl rfl ?_
  rintro v w1 ⟨g1, rfl, hb_g1, he1, hl1, hu1⟩
  replace hx := RdI.ext hx he1
  replace hn := hn.ext he1
  replace hE := hE.tr he1
  have hz_he1 := he1.size
  refine va rfl rfl ?_
  refine q_nil (k_then (wc_seq (wc_seq ?_)))
  refine wc_draw mixed 32 [(5, eqv (.pointer (some ⟨g1, 0, none⟩))), (6, eqv (.int .i64 r.op)), (7, eqv (.bool false)), (8, eqv (.bool false)), (9, eqv (.pointer (some ⟨g1, 0, none⟩))), (10, eqv (.int .i64 r.op)), (11, eqv (.bool false)), (12, eqv (.bool false)), (13, eqv (.bool false)), (14, eqv (.pointer (some ⟨g1, 1, none⟩))), (15, eqv (.int .i64 r.err)), (16, eqv (.bool false)), (17, eqv (.bool false)), (18, eqv (.bool false)), (19, eqv (.pointer (some ⟨g1, 1, none⟩))), (20, eqv (.int .i64 r.err)), (21, eqv (.bool true)), (22, eqv (.bool true)), (23, eqv (.bool true)), (24, eqv undef), (25, eqv undef), (26, eqv undef), (27, eqv undef), (28, eqv undef), (29, eqv undef), (30, eqv undef), (31, eqv undef), (32, eqv (.bool true)), (33, eqv (.bool true)), (34, eqv undef), (35, eqv undef), (36, eqv undef)] [[], [0], [1], [2], [3], [3, 4], [3, 5], [3, 6], [7], [8], [8, 9], [8, 10], [8, 11], [12], [13], [13, 14], [13, 15], [13, 16], [17], [18], [18, 19], [18, 20], [18, 21], [22], [22, 23], [22, 24], [18, 22, 25], [18, 26], [27], [28], [28], [28, 30]] _ [] [] (fun _ _ h => h) trivial (by kernel_rfl) rfl ⟨⟨stb_eqv _, fun _ he => by cases he⟩, ⟨stb_eqv _, fun _ he => by cases he⟩, ⟨stb_eqv _, fun _ he => by cases he⟩, ⟨stb_eqv _, fun _ he => by cases he⟩, ⟨stb_eqv _, fun _ he => by cases he⟩, ⟨stb_eqv _, fun _ he => by cases he⟩, ⟨stb_eqv _, fun _ he => by cases he⟩, ⟨stb_eqv _, fun _ he => by cases he⟩, ⟨stb_eqv _, fun _ he => by cases he⟩, ⟨stb_eqv _, fun _ he => by cases he⟩, ⟨stb_eqv _, fun _ he => by cases he⟩, ⟨stb_eqv _, fun _ he => by cases he⟩, ⟨stb_eqv _, fun _ he => by cases he⟩, ⟨stb_eqv _, fun _ he => by cases he⟩, ⟨stb_eqv _, fun _ he => by cases he⟩, ⟨stb_eqv _, fun _ he => by cases he⟩, ⟨stb_eqv _, fun _ he => by cases he⟩, ⟨stb_eqv _, fun _ he => by cases he⟩, ⟨stb_eqv _, fun _ he => by cases he⟩, ⟨stb_eqv _, fun _ he => by cases he⟩, ⟨stb_eqv _, fun _ he => by cases he⟩, ⟨stb_eqv _, fun _ he => by cases he⟩, ⟨stb_eqv _, fun _ he => by cases he⟩, ⟨stb_eqv _, fun _ he => by cases he⟩, ⟨stb_eqv _, fun _ he => by cases he⟩, ⟨stb_eqv _, fun _ he => by cases he⟩, ⟨stb_eqv _, fun _ he => by cases he⟩, ⟨stb_eqv _, fun _ he => by cases he⟩, ⟨stb_eqv _, fun _ he => by cases he⟩, ⟨stb_eqv _, fun _ he => by cases he⟩, ⟨stb_eqv _, fun _ he => by cases he⟩, ⟨stb_eqv _, fun _ he => by cases he⟩, trivial⟩ ⟨?_, ?_, ?_, ?_, ?_, ?_, ?_, ?_, ?_, ?_, ?_, ?_, ?_, ?_, ?_, ?_, ?_, ?_, ?_, ?_, ?_, ?_, ?_, ?_, ?_, ?_, ?_, ?_, ?_, ?_, ?_, ?_, trivial⟩ ?_
  · intro wd hxE
    replace hx := RdI.ext hx hxE
    replace hn := hn.ext hxE
    replace hE := hE.tr hxE
    replace hb_g1 := hb_g1.ext hxE
    have hz_hxE := hxE.size
    show OpG _ _ _ _ _ _
    exact og_plain rfl (ox_val (ov_field0 (off := 0) fo28_0 rfl))
  · intro wd hxE
    replace hx := RdI.ext hx hxE
    replace hn := hn.ext hxE
    replace hE := hE.tr hxE
    replace hb_g1 := hb_g1.ext hxE
    have hz_hxE := hxE.size
    rintro _ rfl
    show OpG _ _ _ _ _ _
    exact og_plain rfl (ox_val (ov_loadAt oc22 rfl hb_g1 rfl))
  · intro wd hxE
    replace hx := RdI.ext hx hxE
    replace hn := hn.ext hxE
    replace hE := hE.tr hxE
    replace hb_g1 := hb_g1.ext hxE
    have hz_hxE := hxE.size
    rintro _ rfl
    show OpG _ _ _ _ _ _
    exact og_plain rfl (ox_F (by omega) (ov_lss rfl rfl))
  · intro wd hxE
    replace hx := RdI.ext hx hxE
    replace hn := hn.ext hxE
    replace hE := hE.tr hxE
    replace hb_g1 := hb_g1.ext hxE
    have hz_hxE := hxE.size
    rintro _ rfl
    show OpG _ _ _ _ _ _
    exact og_plain rfl (ox_val (ov_move rfl))
  · intro wd hxE
    replace hx := RdI.ext hx hxE
    replace hn := hn.ext hxE
    replace hE := hE.tr hxE
    replace hb_g1 := hb_g1.ext hxE
    have hz_hxE := hxE.size
    rintro _ rfl
    show OpG _ _ _ _ _ _
    exact og_on rfl rfl rfl (ox_val (ov_field0 (off := 0) fo28_0 rfl))
  · intro wd hxE
    replace hx := RdI.ext hx hxE
    replace hn := hn.ext hxE
    replace hE := hE.tr hxE
    replace hb_g1 := hb_g1.ext hxE
    have hz_hxE := hxE.size
    rintro _ rfl
    rintro _ rfl
    show OpG _ _ _ _ _ _
    exact og_on rfl rfl rfl (ox_val (ov_loadAt oc22 rfl hb_g1 rfl))
  · intro wd hxE
    replace hx := RdI.ext hx hxE
    replace hn := hn.ext hxE
    replace hE := hE.tr hxE
    replace hb_g1 := hb_g1.ext hxE
    have hz_hxE := hxE.size
    rintro _ rfl
    rintro _ rfl
    show OpG _ _ _ _ _ _
    exact og_on rfl rfl rfl (ox_F (by omega) (ov_gtr rfl rfl))
  · intro wd hxE
    replace hx := RdI.ext hx hxE
    replace hn := hn.ext hxE
    replace hE := hE.tr hxE
    replace hb_g1 := hb_g1.ext hxE
    have hz_hxE := hxE.size
    rintro _ rfl
    rintro _ rfl
    show OpG _ _ _ _ _ _
    exact og_plain rfl (ox_val (ov_pick_f rfl rfl))
  · intro wd hxE
    replace hx := RdI.ext hx hxE
    replace hn := hn.ext hxE
    replace hE := hE.tr hxE
    replace hb_g1 := hb_g1.ext hxE
    have hz_hxE := hxE.size
    rintro _ rfl
    show OpG _ _ _ _ _ _
    exact og_plain rfl (ox_val (ov_move rfl))
  · intro wd hxE
    replace hx := RdI.ext hx hxE
    replace hn := hn.ext hxE
    replace hE := hE.tr hxE
    replace hb_g1 := hb_g1.ext hxE
    have hz_hxE := hxE.size
    rintro _ rfl
    show OpG _ _ _ _ _ _
    exact og_on rfl rfl rfl (ox_val (ov_field0 (off := 1) fo28_1 rfl))
  · intro wd hxE
    replace hx := RdI.ext hx hxE
    replace hn := hn.ext hxE
    replace hE := hE.tr hxE
    replace hb_g1 := hb_g1.ext hxE
    have hz_hxE := hxE.size
    rintro _ rfl
    rintro _ rfl
    show OpG _ _ _ _ _ _
    exact og_on rfl rfl rfl (ox_val (ov_loadAt oc23 rfl hb_g1 rfl))
  · intro wd hxE
    replace hx := RdI.ext hx hxE
    replace hn := hn.ext hxE
    replace hE := hE.tr hxE
    replace hb_g1 := hb_g1.ext hxE
    have hz_hxE := hxE.size
    rintro _ rfl
    rintro _ rfl
    show OpG _ _ _ _ _ _
    exact og_on rfl rfl rfl (ox_F (by omega) (ov_lss rfl rfl))
  · intro wd hxE
    replace hx := RdI.ext hx hxE
    replace hn := hn.ext hxE
    replace hE := hE.tr hxE
    replace hb_g1 := hb_g1.ext hxE
    have hz_hxE := hxE.size
    rintro _ rfl
    rintro _ rfl
    show OpG _ _ _ _ _ _
    exact og_plain rfl (ox_val (ov_pick_f rfl rfl))
  · intro wd hxE
    replace hx := RdI.ext hx hxE
    replace hn := hn.ext hxE
    replace hE := hE.tr hxE
    replace hb_g1 := hb_g1.ext hxE
    have hz_hxE := hxE.size
    rintro _ rfl
    show OpG _ _ _ _ _ _
    exact og_plain rfl (ox_val (ov_move rfl))
  · intro wd hxE
    replace hx := RdI.ext hx hxE
    replace hn := hn.ext hxE
    replace hE := hE.tr hxE
    replace hb_g1 := hb_g1.ext hxE
    have hz_hxE := hxE.size
    rintro _ rfl
    show OpG _ _ _ _ _ _
    exact og_on rfl rfl rfl (ox_val (ov_field0 (off := 1) fo28_1 rfl))
  · intro wd hxE
    replace hx := RdI.ext hx hxE
    replace hn := hn.ext hxE
    replace hE := hE.tr hxE
    replace hb_g1 := hb_g1.ext hxE
    have hz_hxE := hxE.size
    rintro _ rfl
    rintro _ rfl
    show OpG _ _ _ _ _ _
    exact og_on rfl rfl rfl (ox_val (ov_loadAt oc23 rfl hb_g1 rfl))
  · intro wd hxE
    replace hx := RdI.ext hx hxE
    replace hn := hn.ext hxE
    replace hE := hE.tr hxE
    replace hb_g1 := hb_g1.ext hxE
    have hz_hxE := hxE.size
    rintro _ rfl
    rintro _ rfl
    show OpG _ _ _ _ _ _
    exact og_on rfl rfl rfl (ox_T (by omega) (ov_gtr rfl rfl))
  · intro wd hxE
    replace hx := RdI.ext hx hxE
    replace hn := hn.ext hxE
    replace hE := hE.tr hxE
    replace hb_g1 := hb_g1.ext hxE
    have hz_hxE := hxE.size
    rintro _ rfl
    rintro _ rfl
    show OpG _ _ _ _ _ _
    exact og_plain rfl (ox_val (ov_pick_f rfl rfl))
  · intro wd hxE
    replace hx := RdI.ext hx hxE
    replace hn := hn.ext hxE
    replace hE := hE.tr hxE
    replace hb_g1 := hb_g1.ext hxE
    have hz_hxE := hxE.size
    rintro _ rfl
    show OpG _ _ _ _ _ _
    exact og_plain rfl (ox_val (ov_move rfl))
  · intro wd hxE
    replace hx := RdI.ext hx hxE
    replace hn := hn.ext hxE
    replace hE := hE.tr hxE
    replace hb_g1 := hb_g1.ext hxE
    have hz_hxE := hxE.size
    rintro _ rfl
    show OpG _ _ _ _ _ _
    exact og_off rfl rfl rfl rfl ⟨rfl, ext_refl _⟩
  · intro wd hxE
    replace hx := RdI.ext hx hxE
    replace hn := hn.ext hxE
    replace hE := hE.tr hxE
    replace hb_g1 := hb_g1.ext hxE
    have hz_hxE := hxE.size
    rintro _ rfl
    rintro _ rfl
    show OpG _ _ _ _ _ _
    exact og_off rfl rfl rfl rfl ⟨rfl, ext_refl _⟩
  · intro wd hxE
    replace hx := RdI.ext hx hxE
    replace hn := hn.ext hxE
    replace hE := hE.tr hxE
    replace hb_g1 := hb_g1.ext hxE
    have hz_hxE := hxE.size
    rintro _ rfl
    rintro _ rfl
    show OpG _ _ _ _ _ _
    exact og_off rfl rfl rfl rfl ⟨rfl, ext_refl _⟩
  · intro wd hxE
    replace hx := RdI.ext hx hxE
    replace hn := hn.ext hxE
    replace hE := hE.tr hxE
    replace hb_g1 := hb_g1.ext hxE
    have hz_hxE := hxE.size
    rintro _ rfl
    rintro _ rfl
    show OpG _ _ _ _ _ _
    exact og_off rfl rfl rfl rfl ⟨rfl, ext_refl _⟩
  · intro wd hxE
    replace hx := RdI.ext hx hxE
    replace hn := hn.ext hxE
    replace hE := hE.tr hxE
    replace hb_g1 := hb_g1.ext hxE
    have hz_hxE := hxE.size
    rintro _ rfl
    show OpG _ _ _ _ _ _
    exact og_offU rfl rfl rfl ⟨rfl, ext_refl _⟩
  · intro wd hxE
    replace hx := RdI.ext hx hxE
    replace hn := hn.ext hxE
    replace hE := hE.tr hxE
    replace hb_g1 := hb_g1.ext hxE
    have hz_hxE := hxE.size
    rintro _ rfl
    rintro _ rfl
    show OpG _ _ _ _ _ _
    exact og_offU rfl rfl rfl ⟨rfl, ext_refl _⟩
  · intro wd hxE
    replace hx := RdI.ext hx hxE
    replace hn := hn.ext hxE
    replace hE := hE.tr hxE
    replace hb_g1 := hb_g1.ext hxE
    have hz_hxE := hxE.size
    rintro _ rfl
    rintro _ rfl
    show OpG _ _ _ _ _ _
    exact og_offU rfl rfl rfl ⟨rfl, ext_refl _⟩
  · intro wd hxE
    replace hx := RdI.ext hx hxE
    replace hn := hn.ext hxE
    replace hE := hE.tr hxE
    replace hb_g1 := hb_g1.ext hxE
    have hz_hxE := hxE.size
    rintro _ rfl
    rintro _ rfl
    rintro _ rfl
    show OpG _ _ _ _ _ _
    exact og_off rfl rfl rfl rfl ⟨rfl, ext_refl _⟩
  · intro wd hxE
    replace hx := RdI.ext hx hxE
    replace hn := hn.ext hxE
    replace hE := hE.tr hxE
    replace hb_g1 := hb_g1.ext hxE
    have hz_hxE := hxE.size
    rintro _ rfl
    rintro _ rfl
    show OpG _ _ _ _ _ _
    exact og_plain rfl (ox_val (ov_pick_t rfl rfl))
  · intro wd hxE
    replace hx := RdI.ext hx hxE
    replace hn := hn.ext hxE
    replace hE := hE.tr hxE
    replace hb_g1 := hb_g1.ext hxE
    have hz_hxE := hxE.size
    rintro _ rfl
    show OpG _ _ _ _ _ _
    exact og_plain rfl (ox_val (ov_move rfl))
  · intro wd hxE
    replace hx := RdI.ext hx hxE
    replace hn := hn.ext hxE
    replace hE := hE.tr hxE
    replace hb_g1 := hb_g1.ext hxE
    have hz_hxE := hxE.size
    rintro _ rfl
    show OpG _ _ _ _ _ _
    exact og_off rfl rfl rfl rfl ⟨rfl, ext_refl _⟩
  · intro wd hxE
    replace hx := RdI.ext hx hxE
    replace hn := hn.ext hxE
    replace hE := hE.tr hxE
    replace hb_g1 := hb_g1.ext hxE
    have hz_hxE := hxE.size
    rintro _ rfl
    show OpG _ _ _ _ _ _
    exact og_off rfl rfl rfl rfl ⟨rfl, ext_refl _⟩
  · intro wd hxE
    replace hx := RdI.ext hx hxE
    replace hn := hn.ext hxE
    replace hE := hE.tr hxE
    replace hb_g1 := hb_g1.ext hxE
    have hz_hxE := hxE.size
    rintro _ rfl
    rintro _ rfl
    show OpG _ _ _ _ _ _
    exact og_off rfl rfl rfl rfl ⟨rfl, ext_refl _⟩
  · intro wf1 hf1
    replace hx := RdI.ext hx hf1
    replace hn := hn.ext hf1
    replace hE := hE.tr hf1
    replace hb_g1 := hb_g1.ext hf1
    have hz_hf1 := hf1.size
    rintro _ rfl
    rintro _ rfl
    rintro _ rfl
    rintro _ rfl
    rintro _ rfl
    rintro _ rfl
    rintro _ rfl
    rintro _ rfl
    rintro _ rfl
    rintro _ rfl
    rintro _ rfl
    rintro _ rfl
    rintro _ rfl
    rintro _ rfl
    rintro _ rfl
    rintro _ rfl
    rintro _ rfl
    rintro _ rfl
    rintro _ rfl
    rintro _ rfl
    rintro _ rfl
    rintro _ rfl
    rintro _ rfl
    rintro _ rfl
    rintro _ rfl
    rintro _ rfl
    rintro _ rfl
    rintro _ rfl
    rintro _ rfl
    rintro _ rfl
    rintro _ rfl
    rintro _ rfl
    show WL _ _ _ [_, _, _] _ _ _
    iterate 2 refine wl_gskip rfl rfl rfl rfl rfl rfl ?_
    refine wl_val (ov_pick_t rfl rfl) rfl rfl rfl ?_
    refine q_nil (k_then ?_)
    refine wc_cond_t rfl ?_
    refine wc_seq (wc_regionL ?_)
    refine va rfl rfl ?_
    refine q_nil (k_then (q_ret (k_thenR ?_)))
    refine e_ret rfl rfl ?_
    exact ⟨by rw [decide_eq_false hbad], hE⟩

theorem rv8_e (w : World) (r : Rsp) (xs : List IT) (hv : vals xs = r.items) (lo hi : Nat) (X : Option Addr) (cx : Nat) (N : Option Addr) (cn : Nat) (hx : RdI w lo hi X cx xs) (hn : RdN w lo hi N cn r.nums) (h5 : r.op = 0) (h6 : r.err = 0) :
    Fn Try.prog 10 #[(.agg #[(.int .i64 r.op), (.int .i64 r.err), (.slice X r.items.length cx), (.int .u64 (↑r.ver : Int)), (.int .i64 r.count), (.slice N r.nums.length cn)])] w (fun v w' => v = .bool (decide (RV r)) ∧ Ext w w')  := by
  replace hx := hx.top
  replace hn := Rd.top hn
  have hE := ext_refl w
  obtain ⟨hi, hh1⟩ : ∃ n, n = w.heap.size := ⟨_, rfl⟩
  rw [← hh1] at hx hn
  have hvl := vals_len xs
  rw [hv] at hvl
  have hcx := hx.1.2.1
  have hcx1 := hx.1.1
  have hcn := hn.2.1
  have hcn1 := hn.1
  simp only [maxLen] at hcx hcn
  have hbad : ¬ RV r := fun q => q.ne ⟨h5, h6⟩
  refine fn_enter (args := [(.agg #[(.int .i64 r.op), (.int .i64 r.err), (.slice X r.items.length cx), (.int .u64 (↑r.ver : Int)), (.int .i64 r.count), (.slice N r.nums.length cn)])]) Try.func10 rfl rfl rfl ?_
  show WC _ _ _ _ [(0, (.agg #[(.int .i64 r.op), (.int .i64 r.err), (.slice X r.items.length cx), (.int .u64 (↑r.ver : Int)), (.int .i64 r.count), (.slice N r.nums.length cn)]))] _
  refine wc_seq (wc_regionL ?_)
  refine wl_step (or_box (cs := [(.int .i64 r.op), (.int .i64 r.err), (.slice X r.items.length cx), (.int .u64 (↑r.ver : Int)), (.int .i64 r.count), (.slice N r.nums.length cn)]) rfl rfl) rfl rfl rfl ?_
  rintro v w1 ⟨g1, rfl, hb_g1, he1, hl1, hu1⟩
  replace hx := RdI.ext hx he1
  replace hn := hn.ext he1
  replace hE := hE.tr he1
  have hz_he1 := he1.size
  refine va rfl rfl ?_
  refine q_nil (k_then (wc_seq (wc_seq ?_)))
  refine wc_draw mixed 32 [(5, eqv (.pointer (some ⟨g1, 0, none⟩))), (6, eqv (.int .i64 r.op)), (7, eqv (.bool false)), (8, eqv (.bool false)), (9, eqv (.pointer (some ⟨g1, 0, none⟩))), (10, eqv (.int .i64 r.op)), (11, eqv (.bool false)), (12, eqv (.bool false)), (13, eqv (.bool false)), (14, eqv (.pointer (some ⟨g1, 1, none⟩))), (15, eqv (.int .i64 r.err)), (16, eqv (.bool false)), (17, eqv (.bool false)), (18, eqv (.bool false)), (19, eqv (.pointer (some ⟨g1, 1, none⟩))), (20, eqv (.int .i64 r.err)), (21, eqv (.bool false)), (22, eqv (.bool false)), (23, eqv (.bool false)), (24, eqv (.pointer (some ⟨g1, 0, none⟩))), (25, eqv (.int .i64 r.op)), (26, eqv (.bool true)), (27, eqv (.bool true)), (28, eqv (.pointer (some ⟨g1, 1, none⟩))), (29, eqv (.int .i64 r.err)), (30, eqv (.bool true)), (31, eqv (.bool true)), (32, eqv (.bool true)), (33, eqv (.bool true)), (34, eqv undef), (35, eqv undef), (36, eqv undef)] [[], [0], [1], [2], [3], [3, 4], [3, 5], [3, 6], [7], [8], [8, 9], [8, 10], [8, 11], [12], [13], [13, 14], [13, 15], [13, 16], [17], [18], [18, 19], [18, 20], [18, 21], [22], [22, 23], [22, 24], [18, 22, 25], [18, 26], [27], [28], [28], [28, 30]] _ [] [] (fun _ _ h => h) trivial (by kernel_rfl) rfl ⟨⟨stb_eqv _, fun _ he => by cases he⟩, ⟨stb_eqv _, fun _ he => by cases he⟩, ⟨stb_eqv _, fun _ he => by cases he⟩, ⟨stb_eqv _, fun _ he => by cases he⟩, ⟨stb_eqv _, fun _ he => by cases he⟩, ⟨stb_eqv _, fun _ he => by cases he⟩, ⟨stb_eqv _, fun _ he => by cases he⟩, ⟨stb_eqv _, fun _ he => by cases he⟩, ⟨stb_eqv _, fun _ he => by cases he⟩, ⟨stb_eqv _, fun _ he => by cases he⟩, ⟨stb_eqv _, fun _ he => by cases he⟩, ⟨stb_eqv _, fun _ he => by cases he⟩, ⟨stb_eqv _, fun _ he => by cases he⟩, ⟨stb_eqv _, fun _ he => by cases he⟩, ⟨stb_eqv _, fun _ he => by cases he⟩, ⟨stb_eqv _, fun _ he => by cases he⟩, ⟨stb_eqv _, fun _ he => by cases he⟩, ⟨stb_eqv _, fun _ he => by cases he⟩, ⟨stb_eqv _, fun _ he => by cases he⟩, ⟨stb_eqv _, fun _ he => by cases he⟩, ⟨stb_eqv _, fun _ he => by cases he⟩, ⟨stb_eqv _, fun _ he => by cases he⟩, ⟨stb_eqv _, fun _ he => by cases he⟩, ⟨stb_eqv _, fun _ he => by cases he⟩, ⟨stb_eqv _, fun _ he => by cases he⟩, ⟨stb_eqv _, fun _ he => by cases he⟩, ⟨stb_eqv _, fun _ he => by cases he⟩, ⟨stb_eqv _, fun _ he => by cases he⟩, ⟨stb_eqv _, fun _ he => by cases he⟩, ⟨stb_eqv _, fun _ he => by cases he⟩, ⟨stb_eqv _, fun _ he => by cases he⟩, ⟨stb_eqv _, fun _ he => by cases he⟩, trivial⟩ ⟨?_, ?_, ?_, ?_, ?_, ?_, ?_, ?_, ?_, ?_, ?_, ?_, ?_, ?_, ?_, ?_, ?_, ?_, ?_, ?_, ?_, ?_, ?_, ?_, ?_, ?_, ?_, ?_, ?_, ?_, ?_, ?_, trivial⟩ ?_
  · intro wd hxE
    replace hx := RdI.ext hx hxE
    replace hn := hn.ext hxE
    replace hE := hE.tr hxE
    replace hb_g1 := hb_g1.ext hxE
    have hz_hxE := hxE.size
    show OpG _ _ _ _ _ _
    exact og_plain rfl (ox_val (ov_field0 (off := 0) fo28_0 rfl))
  · intro wd hxE
    replace hx := RdI.ext hx hxE
    replace hn := hn.ext hxE
    replace hE := hE.tr hxE
    replace hb_g1 := hb_g1.ext hxE
    have hz_hxE := hxE.size
    rintro _ rfl
    show OpG _ _ _ _ _ _
    exact og_plain rfl (ox_val (ov_loadAt oc22 rfl hb_g1 rfl))
  · intro wd hxE
    replace hx := RdI.ext hx hxE
    replace hn := hn.ext hxE
    replace hE := hE.tr hxE
    replace hb_g1 := hb_g1.ext hxE
    have hz_hxE := hxE.size
    rintro _ rfl
    show OpG _ _ _ _ _ _
    exact og_plain rfl (ox_F (by omega) (ov_lss rfl rfl))
  · intro wd hxE
    replace hx := RdI.ext hx hxE
    replace hn := hn.ext hxE
    replace hE := hE.tr hxE
    replace hb_g1 := hb_g1.ext hxE
    have hz_hxE := hxE.size
    rintro _ rfl
    show OpG _ _ _ _ _ _
    exact og_plain rfl (ox_val (ov_move rfl))
  · intro wd hxE
    replace hx := RdI.ext hx hxE
    replace hn := hn.ext hxE
    replace hE := hE.tr hxE
    replace hb_g1 := hb_g1.ext hxE
    have hz_hxE := hxE.size
    rintro _ rfl
    show OpG _ _ _ _ _ _
    exact og_on rfl rfl rfl (ox_val (ov_field0 (off := 0) fo28_0 rfl))
  · intro wd hxE
    replace hx := RdI.ext hx hxE
    replace hn := hn.ext hxE
    replace hE := hE.tr hxE
    replace hb_g1 := hb_g1.ext hxE
    have hz_hxE := hxE.size
    rintro _ rfl
    rintro _ rfl
    show OpG _ _ _ _ _ _
    exact og_on rfl rfl rfl (ox_val (ov_loadAt oc22 rfl hb_g1 rfl))
  · intro wd hxE
    replace hx := RdI.ext hx hxE
    replace hn := hn.ext hxE
    replace hE := hE.tr hxE
    replace hb_g1 := hb_g1.ext hxE
    have hz_hxE := hxE.size
    rintro _ rfl
    rintro _ rfl
    show OpG _ _ _ _ _ _
    exact og_on rfl rfl rfl (ox_F (by omega) (ov_gtr rfl rfl))
  · intro wd hxE
    replace hx := RdI.ext hx hxE
    replace hn := hn.ext hxE
    replace hE := hE.tr hxE
    replace hb_g1 := hb_g1.ext hxE
    have hz_hxE := hxE.size
    rintro _ rfl
    rintro _ rfl
    show OpG _ _ _ _ _ _
    exact og_plain rfl (ox_val (ov_pick_f rfl rfl))
  · intro wd hxE
    replace hx := RdI.ext hx hxE
    replace hn := hn.ext hxE
    replace hE := hE.tr hxE
    replace hb_g1 := hb_g1.ext hxE
    have hz_hxE := hxE.size
    rintro _ rfl
    show OpG _ _ _ _ _ _
    exact og_plain rfl (ox_val (ov_move rfl))
  · intro wd hxE
    replace hx := RdI.ext hx hxE
    replace hn := hn.ext hxE
    replace hE := hE.tr hxE
    replace hb_g1 := hb_g1.ext hxE
    have hz_hxE := hxE.size
    rintro _ rfl
    show OpG _ _ _ _ _ _
    exact og_on rfl rfl rfl (ox_val (ov_field0 (off := 1) fo28_1 rfl))
  · intro wd hxE
    replace hx := RdI.ext hx hxE
    replace hn := hn.ext hxE
    replace hE := hE.tr hxE
    replace hb_g1 := hb_g1.ext hxE
    have hz_hxE := hxE.size
    rintro _ rfl
    rintro _ rfl
    show OpG _ _ _ _ _ _
    exact og_on rfl rfl rfl (ox_val (ov_loadAt oc23 rfl hb_g1 rfl))
  · intro wd hxE
    replace hx := RdI.ext hx hxE
    replace hn := hn.ext hxE
    replace hE := hE.tr hxE
    replace hb_g1 := hb_g1.ext hxE
    have hz_hxE := hxE.size
    rintro _ rfl
    rintro _ rfl
    show OpG _ _ _ _ _ _
    exact og_on rfl rfl rfl (ox_F (by omega) (ov_lss rfl rfl))
  · intro wd hxE
    replace hx := RdI.ext hx hxE
    replace hn := hn.ext hxE
    replace hE := hE.tr hxE
    replace hb_g1 := hb_g1.ext hxE
    have hz_hxE := hxE.size
    rintro _ rfl
    rintro _ rfl
    show OpG _ _ _ _ _ _
    exact og_plain rfl (ox_val (ov_pick_f rfl rfl))
  · intro wd hxE
    replace hx := RdI.ext hx hxE
    replace hn := hn.ext hxE
    replace hE := hE.tr hxE
    replace hb_g1 := hb_g1.ext hxE
    have hz_hxE := hxE.size
    rintro _ rfl
    show OpG _ _ _ _ _ _
    exact og_plain rfl (ox_val (ov_move rfl))
  · intro wd hxE
    replace hx := RdI.ext hx hxE
    replace hn := hn.ext hxE
    replace hE := hE.tr hxE
    replace hb_g1 := hb_g1.ext hxE
    have hz_hxE := hxE.size
    rintro _ rfl
    show OpG _ _ _ _ _ _
    exact og_on rfl rfl rfl (ox_val (ov_field0 (off := 1) fo28_1 rfl))
  · intro wd hxE
    replace hx := RdI.ext hx hxE
    replace hn := hn.ext hxE
    replace hE := hE.tr hxE
    replace hb_g1 := hb_g1.ext hxE
    have hz_hxE := hxE.size
    rintro _ rfl
    rintro _ rfl
    show OpG _ _ _ _ _ _
    exact og_on rfl rfl rfl (ox_val (ov_loadAt oc23 rfl hb_g1 rfl))
  · intro wd hxE
    replace hx := RdI.ext hx hxE
    replace hn := hn.ext hxE
    replace hE := hE.tr hxE
    replace hb_g1 := hb_g1.ext hxE
    have hz_hxE := hxE.size
    rintro _ rfl
    rintro _ rfl
    show OpG _ _ _ _ _ _
    exact og_on rfl rfl rfl (ox_F (by omega) (ov_gtr rfl rfl))
  · intro wd hxE
    replace hx := RdI.ext hx hxE
    replace hn := hn.ext hxE
    replace hE := hE.tr hxE
    replace hb_g1 := hb_g1.ext hxE
    have hz_hxE := hxE.size
    rintro _ rfl
    rintro _ rfl
    show OpG _ _ _ _ _ _
    exact og_plain rfl (ox_val (ov_pick_f rfl rfl))
  · intro wd hxE
    replace hx := RdI.ext hx hxE
    replace hn := hn.ext hxE
    replace hE := hE.tr hxE
    replace hb_g1 := hb_g1.ext hxE
    have hz_hxE := hxE.size
    rintro _ rfl
    show OpG _ _ _ _ _ _
    exact og_plain rfl (ox_val (ov_move rfl))
  · intro wd hxE
    replace hx := RdI.ext hx hxE
    replace hn := hn.ext hxE
    replace hE := hE.tr hxE
    replace hb_g1 := hb_g1.ext hxE
    have hz_hxE := hxE.size
    rintro _ rfl
    show OpG _ _ _ _ _ _
    exact og_on rfl rfl rfl (ox_val (ov_field0 (off := 0) fo28_0 rfl))
  · intro wd hxE
    replace hx := RdI.ext hx hxE
    replace hn := hn.ext hxE
    replace hE := hE.tr hxE
    replace hb_g1 := hb_g1.ext hxE
    have hz_hxE := hxE.size
    rintro _ rfl
    rintro _ rfl
    show OpG _ _ _ _ _ _
    exact og_on rfl rfl rfl (ox_val (ov_loadAt oc22 rfl hb_g1 rfl))
  · intro wd hxE
    replace hx := RdI.ext hx hxE
    replace hn := hn.ext hxE
    replace hE := hE.tr hxE
    replace hb_g1 := hb_g1.ext hxE
    have hz_hxE := hxE.size
    rintro _ rfl
    rintro _ rfl
    show OpG _ _ _ _ _ _
    exact og_on rfl rfl rfl (ox_T (by omega) (ov_eql rfl rfl))
  · intro wd hxE
    replace hx := RdI.ext hx hxE
    replace hn := hn.ext hxE
    replace hE := hE.tr hxE
    replace hb_g1 := hb_g1.ext hxE
    have hz_hxE := hxE.size
    rintro _ rfl
    rintro _ rfl
    show OpG _ _ _ _ _ _
    exact og_on rfl rfl rfl (ox_val (ov_move rfl))
  · intro wd hxE
    replace hx := RdI.ext hx hxE
    replace hn := hn.ext hxE
    replace hE := hE.tr hxE
    replace hb_g1 := hb_g1.ext hxE
    have hz_hxE := hxE.size
    rintro _ rfl
    show OpG _ _ _ _ _ _
    exact og_on rfl rfl rfl (ox_val (ov_field0 (off := 1) fo28_1 rfl))
  · intro wd hxE
    replace hx := RdI.ext hx hxE
    replace hn := hn.ext hxE
    replace hE := hE.tr hxE
    replace hb_g1 := hb_g1.ext hxE
    have hz_hxE := hxE.size
    rintro _ rfl
    rintro _ rfl
    show OpG _ _ _ _ _ _
    exact og_on rfl rfl rfl (ox_val (ov_loadAt oc23 rfl hb_g1 rfl))
  · intro wd hxE
    replace hx := RdI.ext hx hxE
    replace hn := hn.ext hxE
    replace hE := hE.tr hxE
    replace hb_g1 := hb_g1.ext hxE
    have hz_hxE := hxE.size
    rintro _ rfl
    rintro _ rfl
    show OpG _ _ _ _ _ _
    exact og_on rfl rfl rfl (ox_T (by omega) (ov_eql rfl rfl))
  · intro wd hxE
    replace hx := RdI.ext hx hxE
    replace hn := hn.ext hxE
    replace hE := hE.tr hxE
    replace hb_g1 := hb_g1.ext hxE
    have hz_hxE := hxE.size
    rintro _ rfl
    rintro _ rfl
    rintro _ rfl
    show OpG _ _ _ _ _ _
    exact og_on rfl rfl rfl (ox_val (ov_pick_t rfl rfl))
  · intro wd hxE
    replace hx := RdI.ext hx hxE
    replace hn := hn.ext hxE
    replace hE := hE.tr hxE
    replace hb_g1 := hb_g1.ext hxE
    have hz_hxE := hxE.size
    rintro _ rfl
    rintro _ rfl
    show OpG _ _ _ _ _ _
    exact og_plain rfl (ox_val (ov_pick_f rfl rfl))
  · intro wd hxE
    replace hx := RdI.ext hx hxE
    replace hn := hn.ext hxE
    replace hE := hE.tr hxE
    replace hb_g1 := hb_g1.ext hxE
    have hz_hxE := hxE.size
    rintro _ rfl
    show OpG _ _ _ _ _ _
    exact og_plain rfl (ox_val (ov_move rfl))
  · intro wd hxE
    replace hx := RdI.ext hx hxE
    replace hn := hn.ext hxE
    replace hE := hE.tr hxE
    replace hb_g1 := hb_g1.ext hxE
    have hz_hxE := hxE.size
    rintro _ rfl
    show OpG _ _ _ _ _ _
    exact og_off rfl rfl rfl rfl ⟨rfl, ext_refl _⟩
  · intro wd hxE
    replace hx := RdI.ext hx hxE
    replace hn := hn.ext hxE
    replace hE := hE.tr hxE
    replace hb_g1 := hb_g1.ext hxE
    have hz_hxE := hxE.size
    rintro _ rfl
    show OpG _ _ _ _ _ _
    exact og_off rfl rfl rfl rfl ⟨rfl, ext_refl _⟩
  · intro wd hxE
    replace hx := RdI.ext hx hxE
    replace hn := hn.ext hxE
    replace hE := hE.tr hxE
    replace hb_g1 := hb_g1.ext hxE
    have hz_hxE := hxE.size
    rintro _ rfl
    rintro _ rfl
    show OpG _ _ _ _ _ _
    exact og_off rfl rfl rfl rfl ⟨rfl, ext_refl _⟩
  · intro wf1 hf1
    replace hx := RdI.ext hx hf1
    replace hn := hn.ext hf1
    replace hE := hE.tr hf1
    replace hb_g1 := hb_g1.ext hf1
    have hz_hf1 := hf1.size
    rintro _ rfl
    rintro _ rfl
    rintro _ rfl
    rintro _ rfl
    rintro _ rfl
    rintro _ rfl
    rintro _ rfl
    rintro _ rfl
    rintro _ rfl
    rintro _ rfl
    rintro _ rfl
    rintro _ rfl
    rintro _ rfl
    rintro _ rfl
    rintro _ rfl
    rintro _ rfl
    rintro _ rfl
    rintro _ rfl
    rintro _ rfl
    rintro _ rfl
    rintro _ rfl
    rintro _ rfl
    rintro _ rfl
    rintro _ rfl
    rintro _ rfl
    rintro _ rfl
    rintro _ rfl
    rintro _ rfl
    rintro _ rfl
    rintro _ rfl
    rintro _ rfl
    rintro _ rfl
    show WL _ _ _ [_, _, _] _ _ _
    iterate 2 refine wl_gskip rfl rfl rfl rfl rfl rfl ?_
    refine wl_val (ov_pick_t rfl rfl) rfl rfl rfl ?_
    refine q_nil (k_then ?_)
    refine wc_cond_t rfl ?_
    refine wc_seq (wc_regionL ?_)
    refine va rfl rfl ?_
    refine q_nil (k_then (q_ret (k_thenR ?_)))
    refine e_ret rfl rfl ?_
    exact ⟨by rw [decide_eq_false hbad], hE⟩

theorem rv8_f (w : World) (r : Rsp) (xs : List IT) (hv : vals xs = r.items) (lo hi : Nat) (X : Option Addr) (cx : Nat) (N : Option Addr) (cn : Nat) (hx : RdI w lo hi X cx xs) (hn : RdN w lo hi N cn r.nums) (h1 : 0 ≤ r.op) (h2 : r.op ≤ 15) (h3 : 0 ≤ r.err) (h4 : r.err ≤ 100000) (h5 : r.op = 0) (h6 : ¬ r.err = 0) (hne : ¬ r = onlyR r) :
    Fn Try.prog 10 #[(.agg #[(.int .i64 r.op), (.int .i64 r.err), (.slice X r.items.length cx), (.int .u64 (↑r.ver : Int)), (.int .i64 r.count), (.slice N r.nums.length cn)])] w (fun v w' => v = .bool (decide (RV r)) ∧ Ext w w')  := by
  replace hx := hx.top
  replace hn := Rd.top hn
  have hE := ext_refl w
  obtain ⟨hi, hh1⟩ : ∃ n, n = w.heap.size := ⟨_, rfl⟩
  rw [← hh1] at hx hn
  have hvl := vals_len xs
  rw [hv] at hvl
  have hcx := hx.1.2.1
  have hcx1 := hx.1.1
  have hcn := hn.2.1
  have hcn1 := hn.1
  simp only [maxLen] at hcx hcn
  have hbad : ¬ RV r := fun q => hne q.only
  refine fn_enter (args := [(.agg #[(.int .i64 r.op), (.int .i64 r.err), (.slice X r.items.length cx), (.int .u64 (↑r.ver : Int)), (.int .i64 r.count), (.slice N r.nums.length cn)])]) Try.func10 rfl rfl rfl ?_
  show WC _ _ _ _ [(0, (.agg #[(.int .i64 r.op), (.int .i64 r.err), (.slice X r.items.length cx), (.int .u64 (↑r.ver : Int)), (.int .i64 r.count), (.slice N r.nums.length cn)]))] _
  refine wc_seq (wc_regionL ?_)
  refine wl_step (or_box (cs := [(.int .i64 r.op), (.int .i64 r.err), (.slice X r.items.length cx), (.int .u64 (↑r.ver : Int)), (.int .i64 r.count), (.slice N r.nums.length cn)]) rfl rfl) rfl rfl rfl ?_
  rintro v w1 ⟨g1, rfl, hb_g1, he1, hl1, hu1⟩
  replace hx := RdI.ext hx he1
  replace hn := hn.ext he1
  replace hE := hE.tr he1
  have hz_he1 := he1.size
  refine va rfl rfl ?_
  refine q_nil (k_then (wc_seq (wc_seq ?_)))
  refine wc_draw mixed 32 [(5, eqv (.pointer (some ⟨g1, 0, none⟩))), (6, eqv (.int .i64 r.op)), (7, eqv (.bool false)), (8, eqv (.bool false)), (9, eqv (.pointer (some ⟨g1, 0, none⟩))), (10, eqv (.int .i64 r.op)), (11, eqv (.bool false)), (12, eqv (.bool false)), (13, eqv (.bool false)), (14, eqv (.pointer (some ⟨g1, 1, none⟩))), (15, eqv (.int .i64 r.err)), (16, eqv (.bool false)), (17, eqv (.bool false)), (18, eqv (.bool false)), (19, eqv (.pointer (some ⟨g1, 1, none⟩))), (20, eqv (.int .i64 r.err)), (21, eqv (.bool false)), (22, eqv (.bool false)), (23, eqv (.bool false)), (24, eqv (.pointer (some ⟨g1, 0, none⟩))), (25, eqv (.int .i64 r.op)), (26, eqv (.bool true)), (27, eqv (.bool true)), (28, eqv (.pointer (some ⟨g1, 1, none⟩))), (29, eqv (.int .i64 r.err)), (30, eqv (.bool false)), (31, eqv (.bool false)), (32, eqv (.bool false)), (33, eqv (.bool false)), (34, eqv (.agg #[(.int .i64 r.op), (.int .i64 r.err), (.slice X r.items.length cx), (.int .u64 (↑r.ver : Int)), (.int .i64 r.count), (.slice N r.nums.length cn)])), (35, eqv (.agg #[(.int .i64 r.op), (.int .i64 r.err), (.slice X r.items.length cx), (.int .u64 (↑r.ver : Int)), (.int .i64 r.count), (.slice N r.nums.length cn)])), (36, (fun v w => ∃ xs36 X36 cx36 N36 cn36, v = .agg (rspc (onlyR r) X36 cx36 N36 cn36).toArray ∧ vals xs36 = (onlyR r).items ∧ RdI w lo hi X36 cx36 xs36 ∧ RdN w lo hi N36 cn36 (onlyR r).nums))] [[], [0], [1], [2], [3], [3, 4], [3, 5], [3, 6], [7], [8], [8, 9], [8, 10], [8, 11], [12], [13], [13, 14], [13, 15], [13, 16], [17], [18], [18, 19], [18, 20], [18, 21], [22], [22, 23], [22, 24], [18, 22, 25], [18, 26], [27], [28], [28], [28, 30]] _ [] [] (fun _ _ h => h) trivial (by kernel_rfl) rfl ⟨⟨stb_eqv _, fun _ he => by cases he⟩, ⟨stb_eqv _, fun _ he => by cases he⟩, ⟨stb_eqv _, fun _ he => by cases he⟩, ⟨stb_eqv _, fun _ he => by cases he⟩, ⟨stb_eqv _, fun _ he => by cases he⟩, ⟨stb_eqv _, fun _ he => by cases he⟩, ⟨stb_eqv _, fun _ he => by cases he⟩, ⟨stb_eqv _, fun _ he => by cases he⟩, ⟨stb_eqv _, fun _ he => by cases he⟩, ⟨stb_eqv _, fun _ he => by cases he⟩, ⟨stb_eqv _, fun _ he => by cases he⟩, ⟨stb_eqv _, fun _ he => by cases he⟩, ⟨stb_eqv _, fun _ he => by cases he⟩, ⟨stb_eqv _, fun _ he => by cases he⟩, ⟨stb_eqv _, fun _ he => by cases he⟩, ⟨stb_eqv _, fun _ he => by cases he⟩, ⟨stb_eqv _, fun _ he => by cases he⟩, ⟨stb_eqv _, fun _ he => by cases he⟩, ⟨stb_eqv _, fun _ he => by cases he⟩, ⟨stb_eqv _, fun _ he => by cases he⟩, ⟨stb_eqv _, fun _ he => by cases he⟩, ⟨stb_eqv _, fun _ he => by cases he⟩, ⟨stb_eqv _, fun _ he => by cases he⟩, ⟨stb_eqv _, fun _ he => by cases he⟩, ⟨stb_eqv _, fun _ he => by cases he⟩, ⟨stb_eqv _, fun _ he => by cases he⟩, ⟨stb_eqv _, fun _ he => by cases he⟩, ⟨stb_eqv _, fun _ he => by cases he⟩, ⟨stb_eqv _, fun _ he => by cases he⟩, ⟨stb_eqv _, fun _ he => by cases he⟩, ⟨stb_eqv _, fun _ he => by cases he⟩, ⟨(fun v w1 w2 ⟨a, b, c, d, e, hv, h1, h2, h3⟩ he => ⟨a, b, c, d, e, hv, h1, h2.ext he, Rd.ext h3 he⟩), fun _ he => by cases he⟩, trivial⟩ ⟨?_, ?_, ?_, ?_, ?_, ?_, ?_, ?_, ?_, ?_, ?_, ?_, ?_, ?_, ?_, ?_, ?_, ?_, ?_, ?_, ?_, ?_, ?_, ?_, ?_, ?_, ?_, ?_, ?_, ?_, ?_, ?_, trivial⟩ ?_
  · intro wd hxE
    replace hx := RdI.ext hx hxE
    replace hn := hn.ext hxE
    replace hE := hE.tr hxE
    replace hb_g1 := hb_g1.ext hxE
    have hz_hxE := hxE.size
    show OpG _ _ _ _ _ _
    exact og_plain rfl (ox_val (ov_field0 (off := 0) fo28_0 rfl))
  · intro wd hxE
    replace hx := RdI.ext hx hxE
    replace hn := hn.ext hxE
    replace hE := hE.tr hxE
    replace hb_g1 := hb_g1.ext hxE
    have hz_hxE := hxE.size
    rintro _ rfl
    show OpG _ _ _ _ _ _
    exact og_plain rfl (ox_val (ov_loadAt oc22 rfl hb_g1 rfl))
  · intro wd hxE
    replace hx := RdI.ext hx hxE
    replace hn := hn.ext hxE
    replace hE := hE.tr hxE
    replace hb_g1 := hb_g1.ext hxE
    have hz_hxE := hxE.size
    rintro _ rfl
    show OpG _ _ _ _ _ _
    exact og_plain rfl (ox_F (by omega) (ov_lss rfl rfl))
  · intro wd hxE
    replace hx := RdI.ext hx hxE
    replace hn := hn.ext hxE
    replace hE := hE.tr hxE
    replace hb_g1 := hb_g1.ext hxE
    have hz_hxE := hxE.size
    rintro _ rfl
    show OpG _ _ _ _ _ _
    exact og_plain rfl (ox_val (ov_move rfl))
  · intro wd hxE
    replace hx := RdI.ext hx hxE
    replace hn := hn.ext hxE
    replace hE := hE.tr hxE
    replace hb_g1 := hb_g1.ext hxE
    have hz_hxE := hxE.size
    rintro _ rfl
    show OpG _ _ _ _ _ _
    exact og_on rfl rfl rfl (ox_val (ov_field0 (off := 0) fo28_0 rfl))
  · intro wd hxE
    replace hx := RdI.ext hx hxE
    replace hn := hn.ext hxE
    replace hE := hE.tr hxE
    replace hb_g1 := hb_g1.ext hxE
    have hz_hxE := hxE.size
    rintro _ rfl
    rintro _ rfl
    show OpG _ _ _ _ _ _
    exact og_on rfl rfl rfl (ox_val (ov_loadAt oc22 rfl hb_g1 rfl))
  · intro wd hxE
    replace hx := RdI.ext hx hxE
    replace hn := hn.ext hxE
    replace hE := hE.tr hxE
    replace hb_g1 := hb_g1.ext hxE
    have hz_hxE := hxE.size
    rintro _ rfl
    rintro _ rfl
    show OpG _ _ _ _ _ _
    exact og_on rfl rfl rfl (ox_F (by omega) (ov_gtr rfl rfl))
  · intro wd hxE
    replace hx := RdI.ext hx hxE
    replace hn := hn.ext hxE
    replace hE := hE.tr hxE
    replace hb_g1 := hb_g1.ext hxE
    have hz_hxE := hxE.size
    rintro _ rfl
    rintro _ rfl
    show OpG _ _ _ _ _ _
    exact og_plain rfl (ox_val (ov_pick_f rfl rfl))
  · intro wd hxE
    replace hx := RdI.ext hx hxE
    replace hn := hn.ext hxE
    replace hE := hE.tr hxE
    replace hb_g1 := hb_g1.ext hxE
    have hz_hxE := hxE.size
    rintro _ rfl
    show OpG _ _ _ _ _ _
    exact og_plain rfl (ox_val (ov_move rfl))
  · intro wd hxE
    replace hx := RdI.ext hx hxE
    replace hn := hn.ext hxE
    replace hE := hE.tr hxE
    replace hb_g1 := hb_g1.ext hxE
    have hz_hxE := hxE.size
    rintro _ rfl
    show OpG _ _ _ _ _ _
    exact og_on rfl rfl rfl (ox_val (ov_field0 (off := 1) fo28_1 rfl))
  · intro wd hxE
    replace hx := RdI.ext hx hxE
    replace hn := hn.ext hxE
    replace hE := hE.tr hxE
    replace hb_g1 := hb_g1.ext hxE
    have hz_hxE := hxE.size
    rintro _ rfl
    rintro _ rfl
    show OpG _ _ _ _ _ _
    exact og_on rfl rfl rfl (ox_val (ov_loadAt oc23 rfl hb_g1 rfl))
  · intro wd hxE
    replace hx := RdI.ext hx hxE
    replace hn := hn.ext hxE
    replace hE := hE.tr hxE
    replace hb_g1 := hb_g1.ext hxE
    have hz_hxE := hxE.size
    rintro _ rfl
    rintro _ rfl
    show OpG _ _ _ _ _ _
    exact og_on rfl rfl rfl (ox_F (by omega) (ov_lss rfl rfl))
  · intro wd hxE
    replace hx := RdI.ext hx hxE
    replace hn := hn.ext hxE
    replace hE := hE.tr hxE
    replace hb_g1 := hb_g1.ext hxE
    have hz_hxE := hxE.size
    rintro _ rfl
    rintro _ rfl
    show OpG _ _ _ _ _ _
    exact og_plain rfl (ox_val (ov_pick_f rfl rfl))
  · intro wd hxE
    replace hx := RdI.ext hx hxE
    replace hn := hn.ext hxE
    replace hE := hE.tr hxE
    replace hb_g1 := hb_g1.ext hxE
    have hz_hxE := hxE.size
    rintro _ rfl
    show OpG _ _ _ _ _ _
    exact og_plain rfl (ox_val (ov_move rfl))
  · intro wd hxE
    replace hx := RdI.ext hx hxE
    replace hn := hn.ext hxE
    replace hE := hE.tr hxE
    replace hb_g1 := hb_g1.ext hxE
    have hz_hxE := hxE.size
    rintro _ rfl
    show OpG _ _ _ _ _ _
    exact og_on rfl rfl rfl (ox_val (ov_field0 (off := 1) fo28_1 rfl))
  · intro wd hxE
    replace hx := RdI.ext hx hxE
    replace hn := hn.ext hxE
    replace hE := hE.tr hxE
    replace hb_g1 := hb_g1.ext hxE
    have hz_hxE := hxE.size
    rintro _ rfl
    rintro _ rfl
    show OpG _ _ _ _ _ _
    exact og_on rfl rfl rfl (ox_val (ov_loadAt oc23 rfl hb_g1 rfl))
  · intro wd hxE
    replace hx := RdI.ext hx hxE
    replace hn := hn.ext hxE
    replace hE := hE.tr hxE
    replace hb_g1 := hb_g1.ext hxE
    have hz_hxE := hxE.size
    rintro _ rfl
    rintro _ rfl
    show OpG _ _ _ _ _ _
    exact og_on rfl rfl rfl (ox_F (by omega) (ov_gtr rfl rfl))
  · intro wd hxE
    replace hx := RdI.ext hx hxE
    replace hn := hn.ext hxE
    replace hE := hE.tr hxE
    replace hb_g1 := hb_g1.ext hxE
    have hz_hxE := hxE.size
    rintro _ rfl
    rintro _ rfl
    show OpG _ _ _ _ _ _
    exact og_plain rfl (ox_val (ov_pick_f rfl rfl))
  · intro wd hxE
    replace hx := RdI.ext hx hxE
    replace hn := hn.ext hxE
    replace hE := hE.tr hxE
    replace hb_g1 := hb_g1.ext hxE
    have hz_hxE := hxE.size
    rintro _ rfl
    show OpG _ _ _ _ _ _
    exact og_plain rfl (ox_val (ov_move rfl))
  · intro wd hxE
    replace hx := RdI.ext hx hxE
    replace hn := hn.ext hxE
    replace hE := hE.tr hxE
    replace hb_g1 := hb_g1.ext hxE
    have hz_hxE := hxE.size
    rintro _ rfl
    show OpG _ _ _ _ _ _
    exact og_on rfl rfl rfl (ox_val (ov_field0 (off := 0) fo28_0 rfl))
  · intro wd hxE
    replace hx := RdI.ext hx hxE
    replace hn := hn.ext hxE
    replace hE := hE.tr hxE
    replace hb_g1 := hb_g1.ext hxE
    have hz_hxE := hxE.size
    rintro _ rfl
    rintro _ rfl
    show OpG _ _ _ _ _ _
    exact og_on rfl rfl rfl (ox_val (ov_loadAt oc22 rfl hb_g1 rfl))
  · intro wd hxE
    replace hx := RdI.ext hx hxE
    replace hn := hn.ext hxE
    replace hE := hE.tr hxE
    replace hb_g1 := hb_g1.ext hxE
    have hz_hxE := hxE.size
    rintro _ rfl
    rintro _ rfl
    show OpG _ _ _ _ _ _
    exact og_on rfl rfl rfl (ox_T (by omega) (ov_eql rfl rfl))
  · intro wd hxE
    replace hx := RdI.ext hx hxE
    replace hn := hn.ext hxE
    replace hE := hE.tr hxE
    replace hb_g1 := hb_g1.ext hxE
    have hz_hxE := hxE.size
    rintro _ rfl
    rintro _ rfl
    show OpG _ _ _ _ _ _
    exact og_on rfl rfl rfl (ox_val (ov_move rfl))
  · intro wd hxE
    replace hx := RdI.ext hx hxE
    replace hn := hn.ext hxE
    replace hE := hE.tr hxE
    replace hb_g1 := hb_g1.ext hxE
    have hz_hxE := hxE.size
    rintro _ rfl
    show OpG _ _ _ _ _ _
    exact og_on rfl rfl rfl (ox_val (ov_field0 (off := 1) fo28_1 rfl))
  · intro wd hxE
    replace hx := RdI.ext hx hxE
    replace hn := hn.ext hxE
    replace hE := hE.tr hxE
    replace hb_g1 := hb_g1.ext hxE
    have hz_hxE := hxE.size
    rintro _ rfl
    rintro _ rfl
    show OpG _ _ _ _ _ _
    exact og_on rfl rfl rfl (ox_val (ov_loadAt oc23 rfl hb_g1 rfl))
  · intro wd hxE
    replace hx := RdI.ext hx hxE
    replace hn := hn.ext hxE
    replace hE := hE.tr hxE
    replace hb_g1 := hb_g1.ext hxE
    have hz_hxE := hxE.size
    rintro _ rfl
    rintro _ rfl
    show OpG _ _ _ _ _ _
    exact og_on rfl rfl rfl (ox_F (by omega) (ov_eql rfl rfl))
  · intro wd hxE
    replace hx := RdI.ext hx hxE
    replace hn := hn.ext hxE
    replace hE := hE.tr hxE
    replace hb_g1 := hb_g1.ext hxE
    have hz_hxE := hxE.size
    rintro _ rfl
    rintro _ rfl
    rintro _ rfl
    show OpG _ _ _ _ _ _
    exact og_on rfl rfl rfl (ox_val (ov_pick_t rfl rfl))
  · intro wd hxE
    replace hx := RdI.ext hx hxE
    replace hn := hn.ext hxE
    replace hE := hE.tr hxE
    replace hb_g1 := hb_g1.ext hxE
    have hz_hxE := hxE.size
    rintro _ rfl
    rintro _ rfl
    show OpG _ _ _ _ _ _
    exact og_plain rfl (ox_val (ov_pick_f rfl rfl))
  · intro wd hxE
    replace hx := RdI.ext hx hxE
    replace hn := hn.ext hxE
    replace hE := hE.tr hxE
    replace hb_g1 := hb_g1.ext hxE
    have hz_hxE := hxE.size
    rintro _ rfl
    show OpG _ _ _ _ _ _
    exact og_plain rfl (ox_val (ov_move rfl))
  · intro wd hxE
    replace hx := RdI.ext hx hxE
    replace hn := hn.ext hxE
    replace hE := hE.tr hxE
    replace hb_g1 := hb_g1.ext hxE
    have hz_hxE := hxE.size
    rintro _ rfl
    show OpG _ _ _ _ _ _
    exact og_on rfl rfl rfl (ox_val (ov_loadBlk (cs := [(.int .i64 r.op), (.int .i64 r.err), (.slice X r.items.length cx), (.int .u64 (↑r.ver : Int)), (.int .i64 r.count), (.slice N r.nums.length cn)]) ag28_6 rfl hb_g1))
  · intro wd hxE
    replace hx := RdI.ext hx hxE
    replace hn := hn.ext hxE
    replace hE := hE.tr hxE
    replace hb_g1 := hb_g1.ext hxE
    have hz_hxE := hxE.size
    rintro _ rfl
    show OpG _ _ _ _ _ _
    exact og_on rfl rfl rfl (ox_val (ov_loadBlk (cs := [(.int .i64 r.op), (.int .i64 r.err), (.slice X r.items.length cx), (.int .u64 (↑r.ver : Int)), (.int .i64 r.count), (.slice N r.nums.length cn)]) ag28_6 rfl hb_g1))
  · intro wd hxE
    replace hx := RdI.ext hx hxE
    replace hn := hn.ext hxE
    replace hE := hE.tr hxE
    replace hb_g1 := hb_g1.ext hxE
    have hz_hxE := hxE.size
    rintro _ rfl
    rintro _ rfl
    show OpG _ _ _ _ _ _
    refine og_on rfl rfl rfl (OpRun.mono (or_call0 cl25 rfl rfl (only8_any _ r xs hv lo hi X cx N cn hx hn (by omega))) ?_)
    rintro v w2 ⟨xs36, X36, cx36, N36, cn36, rfl, hv36, hx36, hn36, he36⟩
    replace hx := RdI.ext hx he36
    replace hn := hn.ext he36
    replace hE := hE.tr he36
    replace hb_g1 := hb_g1.ext he36
    have hz_he36 := he36.size
    exact ⟨⟨xs36, X36, cx36, N36, cn36, rfl, hv36, hx36, hn36⟩, he36⟩
  · intro wf1 hf1
    replace hx := RdI.ext hx hf1
    replace hn := hn.ext hf1
    replace hE := hE.tr hf1
    replace hb_g1 := hb_g1.ext hf1
    have hz_hf1 := hf1.size
    rintro _ rfl
    rintro _ rfl
    rintro _ rfl
    rintro _ rfl
    rintro _ rfl
    rintro _ rfl
    rintro _ rfl
    rintro _ rfl
    rintro _ rfl
    rintro _ rfl
    rintro _ rfl
    rintro _ rfl
    rintro _ rfl
    rintro _ rfl
    rintro _ rfl
    rintro _ rfl
    rintro _ rfl
    rintro _ rfl
    rintro _ rfl
    rintro _ rfl
    rintro _ rfl
    rintro _ rfl
    rintro _ rfl
    rintro _ rfl
    rintro _ rfl
    rintro _ rfl
    rintro _ rfl
    rintro _ rfl
    rintro _ rfl
    rintro _ rfl
    rintro _ rfl
    rintro _ ⟨xs36, X36, cx36, N36, cn36, rfl, hv36, hx36, hn36⟩
    show WL _ _ _ [_, _, _] _ _ _
    refine wl_gstep (or_call0 cl14 rfl rfl (req8_any _ r xs hv _ _ X cx N cn hx hn (onlyR r) xs36 hv36 _ _ X36 cx36 N36 cn36 hx36 hn36)) rfl rfl rfl rfl rfl ?_
    rintro v w2 ⟨rfl, he37⟩
    replace hx := RdI.ext hx he37
    replace hn := hn.ext he37
    replace hE := hE.tr he37
    replace hb_g1 := hb_g1.ext he37
    replace hx36 := RdI.ext hx36 he37
    replace hn36 := hn36.ext he37
    have hz_he37 := he37.size
    refine wl_spell (d := 37) rfl (bf (hne)) ?_
    refine wl_gval (ov_not (b := false) rfl) rfl rfl rfl rfl rfl ?_
    refine wl_val (ov_pick_f rfl rfl) rfl rfl rfl ?_
    refine q_nil (k_then ?_)
    refine wc_cond_t rfl ?_
    refine wc_seq (wc_regionL ?_)
    refine va rfl rfl ?_
    refine q_nil (k_then (q_ret (k_thenR ?_)))
    refine e_ret rfl rfl ?_
    exact ⟨by rw [decide_eq_false hbad], hE⟩

theorem rv8_g (w : World) (r : Rsp) (xs : List IT) (hv : vals xs = r.items) (lo hi : Nat) (X : Option Addr) (cx : Nat) (N : Option Addr) (cn : Nat) (hx : RdI w lo hi X cx xs) (hn : RdN w lo hi N cn r.nums) (h1 : 0 ≤ r.op) (h2 : r.op ≤ 15) (h3 : 0 ≤ r.err) (h4 : r.err ≤ 100000) (h5 : ¬ r.op = 0) (hne : ¬ r = onlyR r) :
    Fn Try.prog 10 #[(.agg #[(.int .i64 r.op), (.int .i64 r.err), (.slice X r.items.length cx), (.int .u64 (↑r.ver : Int)), (.int .i64 r.count), (.slice N r.nums.length cn)])] w (fun v w' => v = .bool (decide (RV r)) ∧ Ext w w')  := by
  replace hx := hx.top
  replace hn := Rd.top hn
  have hE := ext_refl w
  obtain ⟨hi, hh1⟩ : ∃ n, n = w.heap.size := ⟨_, rfl⟩
  rw [← hh1] at hx hn
  have hvl := vals_len xs
  rw [hv] at hvl
  have hcx := hx.1.2.1
  have hcx1 := hx.1.1
  have hcn := hn.2.1
  have hcn1 := hn.1
  simp only [maxLen] at hcx hcn
  have hbad : ¬ RV r := fun q => hne q.only
  refine fn_enter (args := [(.agg #[(.int .i64 r.op), (.int .i64 r.err), (.slice X r.items.length cx), (.int .u64 (↑r.ver : Int)), (.int .i64 r.count), (.slice N r.nums.length cn)])]) Try.func10 rfl rfl rfl ?_
  show WC _ _ _ _ [(0, (.agg #[(.int .i64 r.op), (.int .i64 r.err), (.slice X r.items.length cx), (.int .u64 (↑r.ver : Int)), (.int .i64 r.count), (.slice N r.nums.length cn)]))] _
  refine wc_seq (wc_regionL ?_)
  refine wl_step (or_box (cs := [(.int .i64 r.op), (.int .i64 r.err), (.slice X r.items.length cx), (.int .u64 (↑r.ver : Int)), (.int .i64 r.count), (.slice N r.nums.length cn)]) rfl rfl) rfl rfl rfl ?_
  rintro v w1 ⟨g1, rfl, hb_g1, he1, hl1, hu1⟩
  replace hx := RdI.ext hx he1
  replace hn := hn.ext he1
  replace hE := hE.tr he1
  have hz_he1 := he1.size
  refine va rfl rfl ?_
  refine q_nil (k_then (wc_seq (wc_seq ?_)))
  refine wc_draw mixed 32 [(5, eqv (.pointer (some ⟨g1, 0, none⟩))), (6, eqv (.int .i64 r.op)), (7, eqv (.bool false)), (8, eqv (.bool false)), (9, eqv (.pointer (some ⟨g1, 0, none⟩))), (10, eqv (.int .i64 r.op)), (11, eqv (.bool false)), (12, eqv (.bool false)), (13, eqv (.bool false)), (14, eqv (.pointer (some ⟨g1, 1, none⟩))), (15, eqv (.int .i64 r.err)), (16, eqv (.bool false)), (17, eqv (.bool false)), (18, eqv (.bool false)), (19, eqv (.pointer (some ⟨g1, 1, none⟩))), (20, eqv (.int .i64 r.err)), (21, eqv (.bool false)), (22, eqv (.bool false)), (23, eqv (.bool false)), (24, eqv (.pointer (some ⟨g1, 0, none⟩))), (25, eqv (.int .i64 r.op)), (26, eqv (.bool false)), (27, eqv (.bool false)), (28, eqv undef), (29, eqv undef), (30, eqv undef), (31, eqv (.bool false)), (32, eqv (.bool false)), (33, eqv (.bool false)), (34, eqv (.agg #[(.int .i64 r.op), (.int .i64 r.err), (.slice X r.items.length cx), (.int .u64 (↑r.ver : Int)), (.int .i64 r.count), (.slice N r.nums.length cn)])), (35, eqv (.agg #[(.int .i64 r.op), (.int .i64 r.err), (.slice X r.items.length cx), (.int .u64 (↑r.ver : Int)), (.int .i64 r.count), (.slice N r.nums.length cn)])), (36, (fun v w => ∃ xs36 X36 cx36 N36 cn36, v = .agg (rspc (onlyR r) X36 cx36 N36 cn36).toArray ∧ vals xs36 = (onlyR r).items ∧ RdI w lo hi X36 cx36 xs36 ∧ RdN w lo hi N36 cn36 (onlyR r).nums))] [[], [0], [1], [2], [3], [3, 4], [3, 5], [3, 6], [7], [8], [8, 9], [8, 10], [8, 11], [12], [13], [13, 14], [13, 15], [13, 16], [17], [18], [18, 19], [18, 20], [18, 21], [22], [22, 23], [22, 24], [18, 22, 25], [18, 26], [27], [28], [28], [28, 30]] _ [] [] (fun _ _ h => h) trivial (by kernel_rfl) rfl ⟨⟨stb_eqv _, fun _ he => by cases he⟩, ⟨stb_eqv _, fun _ he => by cases he⟩, ⟨stb_eqv _, fun _ he => by cases he⟩, ⟨stb_eqv _, fun _ he => by cases he⟩, ⟨stb_eqv _, fun _ he => by cases he⟩, ⟨stb_eqv _, fun _ he => by cases he⟩, ⟨stb_eqv _, fun _ he => by cases he⟩, ⟨stb_eqv _, fun _ he => by cases he⟩, ⟨stb_eqv _, fun _ he => by cases he⟩, ⟨stb_eqv _, fun _ he => by cases he⟩, ⟨stb_eqv _, fun _ he => by cases he⟩, ⟨stb_eqv _, fun _ he => by cases he⟩, ⟨stb_eqv _, fun _ he => by cases he⟩, ⟨stb_eqv _, fun _ he => by cases he⟩, ⟨stb_eqv _, fun _ he => by cases he⟩, ⟨stb_eqv _, fun _ he => by cases he⟩, ⟨stb_eqv _, fun _ he => by cases he⟩, ⟨stb_eqv _, fun _ he => by cases he⟩, ⟨stb_eqv _, fun _ he => by cases he⟩, ⟨stb_eqv _, fun _ he => by cases he⟩, ⟨stb_eqv _, fun _ he => by cases he⟩, ⟨stb_eqv _, fun _ he => by cases he⟩, ⟨stb_eqv _, fun _ he => by cases he⟩, ⟨stb_eqv _, fun _ he => by cases he⟩, ⟨stb_eqv _, fun _ he => by cases he⟩, ⟨stb_eqv _, fun _ he => by cases he⟩, ⟨stb_eqv _, fun _ he => by cases he⟩, ⟨stb_eqv _, fun _ he => by cases he⟩, ⟨stb_eqv _, fun _ he => by cases he⟩, ⟨stb_eqv _, fun _ he => by cases he⟩, ⟨stb_eqv _, fun _ he => by cases he⟩, ⟨(fun v w1 w2 ⟨a, b, c, d, e, hv, h1, h2, h3⟩ he => ⟨a, b, c, d, e, hv, h1, h2.ext he, Rd.ext h3 he⟩), fun _ he => by cases he⟩, trivial⟩ ⟨?_, ?_, ?_, ?_, ?_, ?_, ?_, ?_, ?_, ?_, ?_, ?_, ?_, ?_, ?_, ?_, ?_, ?_, ?_, ?_, ?_, ?_, ?_, ?_, ?_, ?_, ?_, ?_, ?_, ?_, ?_, ?_, trivial⟩ ?_
  · intro wd hxE
    replace hx := RdI.ext hx hxE
    replace hn := hn.ext hxE
    replace hE := hE.tr hxE
    replace hb_g1 := hb_g1.ext hxE
    have hz_hxE := hxE.size
    show OpG _ _ _ _ _ _
    exact og_plain rfl (ox_val (ov_field0 (off := 0) fo28_0 rfl))
  · intro wd hxE
    replace hx := RdI.ext hx hxE
    replace hn := hn.ext hxE
    replace hE := hE.tr hxE
    replace hb_g1 := hb_g1.ext hxE
    have hz_hxE := hxE.size
    rintro _ rfl
    show OpG _ _ _ _ _ _
    exact og_plain rfl (ox_val (ov_loadAt oc22 rfl hb_g1 rfl))
  · intro wd hxE
    replace hx := RdI.ext hx hxE
    replace hn := hn.ext hxE
    replace hE := hE.tr hxE
    replace hb_g1 := hb_g1.ext hxE
    have hz_hxE := hxE.size
    rintro _ rfl
    show OpG _ _ _ _ _ _
    exact og_plain rfl (ox_F (by omega) (ov_lss rfl rfl))
  · intro wd hxE
    replace hx := RdI.ext hx hxE
    replace hn := hn.ext hxE
    replace hE := hE.tr hxE
    replace hb_g1 := hb_g1.ext hxE
    have hz_hxE := hxE.size
    rintro _ rfl
    show OpG _ _ _ _ _ _
    exact og_plain rfl (ox_val (ov_move rfl))
  · intro wd hxE
    replace hx := RdI.ext hx hxE
    replace hn := hn.ext hxE
    replace hE := hE.tr hxE
    replace hb_g1 := hb_g1.ext hxE
    have hz_hxE := hxE.size
    rintro _ rfl
    show OpG _ _ _ _ _ _
    exact og_on rfl rfl rfl (ox_val (ov_field0 (off := 0) fo28_0 rfl))
  · intro wd hxE
    replace hx := RdI.ext hx hxE
    replace hn := hn.ext hxE
    replace hE := hE.tr hxE
    replace hb_g1 := hb_g1.ext hxE
    have hz_hxE := hxE.size
    rintro _ rfl
    rintro _ rfl
    show OpG _ _ _ _ _ _
    exact og_on rfl rfl rfl (ox_val (ov_loadAt oc22 rfl hb_g1 rfl))
  · intro wd hxE
    replace hx := RdI.ext hx hxE
    replace hn := hn.ext hxE
    replace hE := hE.tr hxE
    replace hb_g1 := hb_g1.ext hxE
    have hz_hxE := hxE.size
    rintro _ rfl
    rintro _ rfl
    show OpG _ _ _ _ _ _
    exact og_on rfl rfl rfl (ox_F (by omega) (ov_gtr rfl rfl))
  · intro wd hxE
    replace hx := RdI.ext hx hxE
    replace hn := hn.ext hxE
    replace hE := hE.tr hxE
    replace hb_g1 := hb_g1.ext hxE
    have hz_hxE := hxE.size
    rintro _ rfl
    rintro _ rfl
    show OpG _ _ _ _ _ _
    exact og_plain rfl (ox_val (ov_pick_f rfl rfl))
  · intro wd hxE
    replace hx := RdI.ext hx hxE
    replace hn := hn.ext hxE
    replace hE := hE.tr hxE
    replace hb_g1 := hb_g1.ext hxE
    have hz_hxE := hxE.size
    rintro _ rfl
    show OpG _ _ _ _ _ _
    exact og_plain rfl (ox_val (ov_move rfl))
  · intro wd hxE
    replace hx := RdI.ext hx hxE
    replace hn := hn.ext hxE
    replace hE := hE.tr hxE
    replace hb_g1 := hb_g1.ext hxE
    have hz_hxE := hxE.size
    rintro _ rfl
    show OpG _ _ _ _ _ _
    exact og_on rfl rfl rfl (ox_val (ov_field0 (off := 1) fo28_1 rfl))
  · intro wd hxE
    replace hx := RdI.ext hx hxE
    replace hn := hn.ext hxE
    replace hE := hE.tr hxE
    replace hb_g1 := hb_g1.ext hxE
    have hz_hxE := hxE.size
    rintro _ rfl
    rintro _ rfl
    show OpG _ _ _ _ _ _
    exact og_on rfl rfl rfl (ox_val (ov_loadAt oc23 rfl hb_g1 rfl))
  · intro wd hxE
    replace hx := RdI.ext hx hxE
    replace hn := hn.ext hxE
    replace hE := hE.tr hxE
    replace hb_g1 := hb_g1.ext hxE
    have hz_hxE := hxE.size
    rintro _ rfl
    rintro _ rfl
    show OpG _ _ _ _ _ _
    exact og_on rfl rfl rfl (ox_F (by omega) (ov_lss rfl rfl))
  · intro wd hxE
    replace hx := RdI.ext hx hxE
    replace hn := hn.ext hxE
    replace hE := hE.tr hxE
    replace hb_g1 := hb_g1.ext hxE
    have hz_hxE := hxE.size
    rintro _ rfl
    rintro _ rfl
    show OpG _ _ _ _ _ _
    exact og_plain rfl (ox_val (ov_pick_f rfl rfl))
  · intro wd hxE
    replace hx := RdI.ext hx hxE
    replace hn := hn.ext hxE
    replace hE := hE.tr hxE
    replace hb_g1 := hb_g1.ext hxE
    have hz_hxE := hxE.size
    rintro _ rfl
    show OpG _ _ _ _ _ _
    exact og_plain rfl (ox_val (ov_move rfl))
  · intro wd hxE
    replace hx := RdI.ext hx hxE
    replace hn := hn.ext hxE
    replace hE := hE.tr hxE
    replace hb_g1 := hb_g1.ext hxE
    have hz_hxE := hxE.size
    rintro _ rfl
    show OpG _ _ _ _ _ _
    exact og_on rfl rfl rfl (ox_val (ov_field0 (off := 1) fo28_1 rfl))
  · intro wd hxE
    replace hx := RdI.ext hx hxE
    replace hn := hn.ext hxE
    replace hE := hE.tr hxE
    replace hb_g1 := hb_g1.ext hxE
    have hz_hxE := hxE.size
    rintro _ rfl
    rintro _ rfl
    show OpG _ _ _ _ _ _
    exact og_on rfl rfl rfl (ox_val (ov_loadAt oc23 rfl hb_g1 rfl))
  · intro wd hxE
    replace hx := RdI.ext hx hxE
    replace hn := hn.ext hxE
    replace hE := hE.tr hxE
    replace hb_g1 := hb_g1.ext hxE
    have hz_hxE := hxE.size
    rintro _ rfl
    rintro _ rfl
    show OpG _ _ _ _ _ _
    exact og_on rfl rfl rfl (ox_F (by omega) (ov_gtr rfl rfl))
  · intro wd hxE
    replace hx := RdI.ext hx hxE
    replace hn := hn.ext hxE
    replace hE := hE.tr hxE
    replace hb_g1 := hb_g1.ext hxE
    have hz_hxE := hxE.size
    rintro _ rfl
    rintro _ rfl
    show OpG _ _ _ _ _ _
    exact og_plain rfl (ox_val (ov_pick_f rfl rfl))
  · intro wd hxE
    replace hx := RdI.ext hx hxE
    replace hn := hn.ext hxE
    replace hE := hE.tr hxE
    replace hb_g1 := hb_g1.ext hxE
    have hz_hxE := hxE.size
    rintro _ rfl
    show OpG _ _ _ _ _ _
    exact og_plain rfl (ox_val (ov_move rfl))
  · intro wd hxE
    replace hx := RdI.ext hx hxE
    replace hn := hn.ext hxE
    replace hE := hE.tr hxE
    replace hb_g1 := hb_g1.ext hxE
    have hz_hxE := hxE.size
    rintro _ rfl
    show OpG _ _ _ _ _ _
    exact og_on rfl rfl rfl (ox_val (ov_field0 (off := 0) fo28_0 rfl))
  · intro wd hxE
    replace hx := RdI.ext hx hxE
    replace hn := hn.ext hxE
    replace hE := hE.tr hxE
    replace hb_g1 := hb_g1.ext hxE
    have hz_hxE := hxE.size
    rintro _ rfl
    rintro _ rfl
    show OpG _ _ _ _ _ _
    exact og_on rfl rfl rfl (ox_val (ov_loadAt oc22 rfl hb_g1 rfl))
  · intro wd hxE
    replace hx := RdI.ext hx hxE
    replace hn := hn.ext hxE
    replace hE := hE.tr hxE
    replace hb_g1 := hb_g1.ext hxE
    have hz_hxE := hxE.size
    rintro _ rfl
    rintro _ rfl
    show OpG _ _ _ _ _ _
    exact og_on rfl rfl rfl (ox_F (by omega) (ov_eql rfl rfl))
  · intro wd hxE
    replace hx := RdI.ext hx hxE
    replace hn := hn.ext hxE
    replace hE := hE.tr hxE
    replace hb_g1 := hb_g1.ext hxE
    have hz_hxE := hxE.size
    rintro _ rfl
    rintro _ rfl
    show OpG _ _ _ _ _ _
    exact og_on rfl rfl rfl (ox_val (ov_move rfl))
  · intro wd hxE
    replace hx := RdI.ext hx hxE
    replace hn := hn.ext hxE
    replace hE := hE.tr hxE
    replace hb_g1 := hb_g1.ext hxE
    have hz_hxE := hxE.size
    rintro _ rfl
    show OpG _ _ _ _ _ _
    exact og_off rfl rfl rfl rfl ⟨rfl, ext_refl _⟩
  · intro wd hxE
    replace hx := RdI.ext hx hxE
    replace hn := hn.ext hxE
    replace hE := hE.tr hxE
    replace hb_g1 := hb_g1.ext hxE
    have hz_hxE := hxE.size
    rintro _ rfl
    rintro _ rfl
    show OpG _ _ _ _ _ _
    exact og_off rfl rfl rfl rfl ⟨rfl, ext_refl _⟩
  · intro wd hxE
    replace hx := RdI.ext hx hxE
    replace hn := hn.ext hxE
    replace hE := hE.tr hxE
    replace hb_g1 := hb_g1.ext hxE
    have hz_hxE := hxE.size
    rintro _ rfl
    rintro _ rfl
    show OpG _ _ _ _ _ _
    exact og_off rfl rfl rfl rfl ⟨rfl, ext_refl _⟩
  · intro wd hxE
    replace hx := RdI.ext hx hxE
    replace hn := hn.ext hxE
    replace hE := hE.tr hxE
    replace hb_g1 := hb_g1.ext hxE
    have hz_hxE := hxE.size
    rintro _ rfl
    rintro _ rfl
    rintro _ rfl
    show OpG _ _ _ _ _ _
    exact og_on rfl rfl rfl (ox_val (ov_pick_f rfl rfl))
  · intro wd hxE
    replace hx := RdI.ext hx hxE
    replace hn := hn.ext hxE
    replace hE := hE.tr hxE
    replace hb_g1 := hb_g1.ext hxE
    have hz_hxE := hxE.size
    rintro _ rfl
    rintro _ rfl
    show OpG _ _ _ _ _ _
    exact og_plain rfl (ox_val (ov_pick_f rfl rfl))
  · intro wd hxE
    replace hx := RdI.ext hx hxE
    replace hn := hn.ext hxE
    replace hE := hE.tr hxE
    replace hb_g1 := hb_g1.ext hxE
    have hz_hxE := hxE.size
    rintro _ rfl
    show OpG _ _ _ _ _ _
    exact og_plain rfl (ox_val (ov_move rfl))
  · intro wd hxE
    replace hx := RdI.ext hx hxE
    replace hn := hn.ext hxE
    replace hE := hE.tr hxE
    replace hb_g1 := hb_g1.ext hxE
    have hz_hxE := hxE.size
    rintro _ rfl
    show OpG _ _ _ _ _ _
    exact og_on rfl rfl rfl (ox_val (ov_loadBlk (cs := [(.int .i64 r.op), (.int .i64 r.err), (.slice X r.items.length cx), (.int .u64 (↑r.ver : Int)), (.int .i64 r.count), (.slice N r.nums.length cn)]) ag28_6 rfl hb_g1))
  · intro wd hxE
    replace hx := RdI.ext hx hxE
    replace hn := hn.ext hxE
    replace hE := hE.tr hxE
    replace hb_g1 := hb_g1.ext hxE
    have hz_hxE := hxE.size
    rintro _ rfl
    show OpG _ _ _ _ _ _
    exact og_on rfl rfl rfl (ox_val (ov_loadBlk (cs := [(.int .i64 r.op), (.int .i64 r.err), (.slice X r.items.length cx), (.int .u64 (↑r.ver : Int)), (.int .i64 r.count), (.slice N r.nums.length cn)]) ag28_6 rfl hb_g1))
  · intro wd hxE
    replace hx := RdI.ext hx hxE
    replace hn := hn.ext hxE
    replace hE := hE.tr hxE
    replace hb_g1 := hb_g1.ext hxE
    have hz_hxE := hxE.size
    rintro _ rfl
    rintro _ rfl
    show OpG _ _ _ _ _ _
    refine og_on rfl rfl rfl (OpRun.mono (or_call0 cl25 rfl rfl (only8_any _ r xs hv lo hi X cx N cn hx hn (by omega))) ?_)
    rintro v w2 ⟨xs36, X36, cx36, N36, cn36, rfl, hv36, hx36, hn36, he36⟩
    replace hx := RdI.ext hx he36
    replace hn := hn.ext he36
    replace hE := hE.tr he36
    replace hb_g1 := hb_g1.ext he36
    have hz_he36 := he36.size
    exact ⟨⟨xs36, X36, cx36, N36, cn36, rfl, hv36, hx36, hn36⟩, he36⟩
  · intro wf1 hf1
    replace hx := RdI.ext hx hf1
    replace hn := hn.ext hf1
    replace hE := hE.tr hf1
    replace hb_g1 := hb_g1.ext hf1
    have hz_hf1 := hf1.size
    rintro _ rfl
    rintro _ rfl
    rintro _ rfl
    rintro _ rfl
    rintro _ rfl
    rintro _ rfl
    rintro _ rfl
    rintro _ rfl
    rintro _ rfl
    rintro _ rfl
    rintro _ rfl
    rintro _ rfl
    rintro _ rfl
    rintro _ rfl
    rintro _ rfl
    rintro _ rfl
    rintro _ rfl
    rintro _ rfl
    rintro _ rfl
    rintro _ rfl
    rintro _ rfl
    rintro _ rfl
    rintro _ rfl
    rintro _ rfl
    rintro _ rfl
    rintro _ rfl
    rintro _ rfl
    rintro _ rfl
    rintro _ rfl
    rintro _ rfl
    rintro _ rfl
    rintro _ ⟨xs36, X36, cx36, N36, cn36, rfl, hv36, hx36, hn36⟩
    show WL _ _ _ [_, _, _] _ _ _
    refine wl_gstep (or_call0 cl14 rfl rfl (req8_any _ r xs hv _ _ X cx N cn hx hn (onlyR r) xs36 hv36 _ _ X36 cx36 N36 cn36 hx36 hn36)) rfl rfl rfl rfl rfl ?_
    rintro v w2 ⟨rfl, he37⟩
    replace hx := RdI.ext hx he37
    replace hn := hn.ext he37
    replace hE := hE.tr he37
    replace hb_g1 := hb_g1.ext he37
    replace hx36 := RdI.ext hx36 he37
    replace hn36 := hn36.ext he37
    have hz_he37 := he37.size
    refine wl_spell (d := 37) rfl (bf (hne)) ?_
    refine wl_gval (ov_not (b := false) rfl) rfl rfl rfl rfl rfl ?_
    refine wl_val (ov_pick_f rfl rfl) rfl rfl rfl ?_
    refine q_nil (k_then ?_)
    refine wc_cond_t rfl ?_
    refine wc_seq (wc_regionL ?_)
    refine va rfl rfl ?_
    refine q_nil (k_then (q_ret (k_thenR ?_)))
    refine e_ret rfl rfl ?_
    exact ⟨by rw [decide_eq_false hbad], hE⟩

theorem rv8_h (w : World) (r : Rsp) (xs : List IT) (hv : vals xs = r.items) (lo hi : Nat) (X : Option Addr) (cx : Nat) (N : Option Addr) (cn : Nat) (hx : RdI w lo hi X cx xs) (hn : RdN w lo hi N cn r.nums) (h1 : 0 ≤ r.op) (h2 : r.op ≤ 15) (h3 : 0 ≤ r.err) (h4 : r.err ≤ 100000) (h5 : r.op = 0) (h6 : ¬ r.err = 0) (heq : r = onlyR r) :
    Fn Try.prog 10 #[(.agg #[(.int .i64 r.op), (.int .i64 r.err), (.slice X r.items.length cx), (.int .u64 (↑r.ver : Int)), (.int .i64 r.count), (.slice N r.nums.length cn)])] w (fun v w' => v = .bool (decide (RV r)) ∧ Ext w w')  := by
  replace hx := hx.top
  replace hn := Rd.top hn
  have hE := ext_refl w
  obtain ⟨hi, hh1⟩ : ∃ n, n = w.heap.size := ⟨_, rfl⟩
  rw [← hh1] at hx hn
  have hvl := vals_len xs
  rw [hv] at hvl
  have hcx := hx.1.2.1
  have hcx1 := hx.1.1
  have hcn := hn.2.1
  have hcn1 := hn.1
  simp only [maxLen] at hcx hcn
  refine fn_enter (args := [(.agg #[(.int .i64 r.op), (.int .i64 r.err), (.slice X r.items.length cx), (.int .u64 (↑r.ver : Int)), (.int .i64 r.count), (.slice N r.nums.length cn)])]) Try.func10 rfl rfl rfl ?_
  show WC _ _ _ _ [(0, (.agg #[(.int .i64 r.op), (.int .i64 r.err), (.slice X r.items.length cx), (.int .u64 (↑r.ver : Int)), (.int .i64 r.count), (.slice N r.nums.length cn)]))] _
  refine wc_seq (wc_regionL ?_)
  refine wl_step (or_box (cs := [(.int .i64 r.op), (.int .i64 r.err), (.slice X r.items.length cx), (.int .u64 (↑r.ver : Int)), (.int .i64 r.count), (.slice N r.nums.length cn)]) rfl rfl) rfl rfl rfl ?_
  rintro v w1 ⟨g1, rfl, hb_g1, he1, hl1, hu1⟩
  replace hx := RdI.ext hx he1
  replace hn := hn.ext he1
  replace hE := hE.tr he1
  have hz_he1 := he1.size
  refine va rfl rfl ?_
  refine q_nil (k_then (wc_seq (wc_seq ?_)))
  refine wc_draw mixed 32 [(5, eqv (.pointer (some ⟨g1, 0, none⟩))), (6, eqv (.int .i64 r.op)), (7, eqv (.bool false)), (8, eqv (.bool false)), (9, eqv (.pointer (some ⟨g1, 0, none⟩))), (10, eqv (.int .i64 r.op)), (11, eqv (.bool false)), (12, eqv (.bool false)), (13, eqv (.bool false)), (14, eqv (.pointer (some ⟨g1, 1, none⟩))), (15, eqv (.int .i64 r.err)), (16, eqv (.bool false)), (17, eqv (.bool false)), (18, eqv (.bool false)), (19, eqv (.pointer (some ⟨g1, 1, none⟩))), (20, eqv (.int .i64 r.err)), (21, eqv (.bool false)), (22, eqv (.bool false)), (23, eqv (.bool false)), (24, eqv (.pointer (some ⟨g1, 0, none⟩))), (25, eqv (.int .i64 r.op)), (26, eqv (.bool true)), (27, eqv (.bool true)), (28, eqv (.pointer (some ⟨g1, 1, none⟩))), (29, eqv (.int .i64 r.err)), (30, eqv (.bool false)), (31, eqv (.bool false)), (32, eqv (.bool false)), (33, eqv (.bool false)), (34, eqv (.agg #[(.int .i64 r.op), (.int .i64 r.err), (.slice X r.items.length cx), (.int .u64 (↑r.ver : Int)), (.int .i64 r.count), (.slice N r.nums.length cn)])), (35, eqv (.agg #[(.int .i64 r.op), (.int .i64 r.err), (.slice X r.items.length cx), (.int .u64 (↑r.ver : Int)), (.int .i64 r.count), (.slice N r.nums.length cn)])), (36, (fun v w => ∃ xs36 X36 cx36 N36 cn36, v = .agg (rspc (onlyR r) X36 cx36 N36 cn36).toArray ∧ vals xs36 = (onlyR r).items ∧ RdI w lo hi X36 cx36 xs36 ∧ RdN w lo hi N36 cn36 (onlyR r).nums))] [[], [0], [1], [2], [3], [3, 4], [3, 5], [3, 6], [7], [8], [8, 9], [8, 10], [8, 11], [12], [13], [13, 14], [13, 15], [13, 16], [17], [18], [18, 19], [18, 20], [18, 21], [22], [22, 23], [22, 24], [18, 22, 25], [18, 26], [27], [28], [28], [28, 30]] _ [] [] (fun _ _ h => h) trivial (by kernel_rfl) rfl ⟨⟨stb_eqv _, fun _ he => by cases he⟩, ⟨stb_eqv _, fun _ he => by cases he⟩, ⟨stb_eqv _, fun _ he => by cases he⟩, ⟨stb_eqv _, fun _ he => by cases he⟩, ⟨stb_eqv _, fun _ he => by cases he⟩, ⟨stb_eqv _, fun _ he => by cases he⟩, ⟨stb_eqv _, fun _ he => by cases he⟩, ⟨stb_eqv _, fun _ he => by cases he⟩, ⟨stb_eqv _, fun _ he => by cases he⟩, ⟨stb_eqv _, fun _ he => by cases he⟩, ⟨stb_eqv _, fun _ he => by cases he⟩, ⟨stb_eqv _, fun _ he => by cases he⟩, ⟨stb_eqv _, fun _ he => by cases he⟩, ⟨stb_eqv _, fun _ he => by cases he⟩, ⟨stb_eqv _, fun _ he => by cases he⟩, ⟨stb_eqv _, fun _ he => by cases he⟩, ⟨stb_eqv _, fun _ he => by cases he⟩, ⟨stb_eqv _, fun _ he => by cases he⟩, ⟨stb_eqv _, fun _ he => by cases he⟩, ⟨stb_eqv _, fun _ he => by cases he⟩, ⟨stb_eqv _, fun _ he => by cases he⟩, ⟨stb_eqv _, fun _ he => by cases he⟩, ⟨stb_eqv _, fun _ he => by cases he⟩, ⟨stb_eqv _, fun _ he => by cases he⟩, ⟨stb_eqv _, fun _ he => by cases he⟩, ⟨stb_eqv _, fun _ he => by cases he⟩, ⟨stb_eqv _, fun _ he => by cases he⟩, ⟨stb_eqv _, fun _ he => by cases he⟩, ⟨stb_eqv _, fun _ he => by cases he⟩, ⟨stb_eqv _, fun _ he => by cases he⟩, ⟨stb_eqv _, fun _ he => by cases he⟩, ⟨(fun v w1 w2 ⟨a, b, c, d, e, hv, h1, h2, h3⟩ he => ⟨a, b, c, d, e, hv, h1, h2.ext he, Rd.ext h3 he⟩), fun _ he => by cases he⟩, trivial⟩ ⟨?_, ?_, ?_, ?_, ?_, ?_, ?_, ?_, ?_, ?_, ?_, ?_, ?_, ?_, ?_, ?_, ?_, ?_, ?_, ?_, ?_, ?_, ?_, ?_, ?_, ?_, ?_, ?_, ?_, ?_, ?_, ?_, trivial⟩ ?_
  · intro wd hxE
    replace hx := RdI.ext hx hxE
    replace hn := hn.ext hxE
    replace hE := hE.tr hxE
    replace hb_g1 := hb_g1.ext hxE
    have hz_hxE := hxE.size
    show OpG _ _ _ _ _ _
    exact og_plain rfl (ox_val (ov_field0 (off := 0) fo28_0 rfl))
  · intro wd hxE
    replace hx := RdI.ext hx hxE
    replace hn := hn.ext hxE
    replace hE := hE.tr hxE
    replace hb_g1 := hb_g1.ext hxE
    have hz_hxE := hxE.size
    rintro _ rfl
    show OpG _ _ _ _ _ _
    exact og_plain rfl (ox_val (ov_loadAt oc22 rfl hb_g1 rfl))
  · intro wd hxE
    replace hx := RdI.ext hx hxE
    replace hn := hn.ext hxE
    replace hE := hE.tr hxE
    replace hb_g1 := hb_g1.ext hxE
    have hz_hxE := hxE.size
    rintro _ rfl
    show OpG _ _ _ _ _ _
    exact og_plain rfl (ox_F (by omega) (ov_lss rfl rfl))
  · intro wd hxE
    replace hx := RdI.ext hx hxE
    replace hn := hn.ext hxE
    replace hE := hE.tr hxE
    replace hb_g1 := hb_g1.ext hxE
    have hz_hxE := hxE.size
    rintro _ rfl
    show OpG _ _ _ _ _ _
    exact og_plain rfl (ox_val (ov_move rfl))
  · intro wd hxE
    replace hx := RdI.ext hx hxE
    replace hn := hn.ext hxE
    replace hE := hE.tr hxE
    replace hb_g1 := hb_g1.ext hxE
    have hz_hxE := hxE.size
    rintro _ rfl
    show OpG _ _ _ _ _ _
    exact og_on rfl rfl rfl (ox_val (ov_field0 (off := 0) fo28_0 rfl))
  · intro wd hxE
    replace hx := RdI.ext hx hxE
    replace hn := hn.ext hxE
    replace hE := hE.tr hxE
    replace hb_g1 := hb_g1.ext hxE
    have hz_hxE := hxE.size
    rintro _ rfl
    rintro _ rfl
    show OpG _ _ _ _ _ _
    exact og_on rfl rfl rfl (ox_val (ov_loadAt oc22 rfl hb_g1 rfl))
  · intro wd hxE
    replace hx := RdI.ext hx hxE
    replace hn := hn.ext hxE
    replace hE := hE.tr hxE
    replace hb_g1 := hb_g1.ext hxE
    have hz_hxE := hxE.size
    rintro _ rfl
    rintro _ rfl
    show OpG _ _ _ _ _ _
    exact og_on rfl rfl rfl (ox_F (by omega) (ov_gtr rfl rfl))
  · intro wd hxE
    replace hx := RdI.ext hx hxE
    replace hn := hn.ext hxE
    replace hE := hE.tr hxE
    replace hb_g1 := hb_g1.ext hxE
    have hz_hxE := hxE.size
    rintro _ rfl
    rintro _ rfl
    show OpG _ _ _ _ _ _
    exact og_plain rfl (ox_val (ov_pick_f rfl rfl))
  · intro wd hxE
    replace hx := RdI.ext hx hxE
    replace hn := hn.ext hxE
    replace hE := hE.tr hxE
    replace hb_g1 := hb_g1.ext hxE
    have hz_hxE := hxE.size
    rintro _ rfl
    show OpG _ _ _ _ _ _
    exact og_plain rfl (ox_val (ov_move rfl))
  · intro wd hxE
    replace hx := RdI.ext hx hxE
    replace hn := hn.ext hxE
    replace hE := hE.tr hxE
    replace hb_g1 := hb_g1.ext hxE
    have hz_hxE := hxE.size
    rintro _ rfl
    show OpG _ _ _ _ _ _
    exact og_on rfl rfl rfl (ox_val (ov_field0 (off := 1) fo28_1 rfl))
  · intro wd hxE
    replace hx := RdI.ext hx hxE
    replace hn := hn.ext hxE
    replace hE := hE.tr hxE
    replace hb_g1 := hb_g1.ext hxE
    have hz_hxE := hxE.size
    rintro _ rfl
    rintro _ rfl
    show OpG _ _ _ _ _ _
    exact og_on rfl rfl rfl (ox_val (ov_loadAt oc23 rfl hb_g1 rfl))
  · intro wd hxE
    replace hx := RdI.ext hx hxE
    replace hn := hn.ext hxE
    replace hE := hE.tr hxE
    replace hb_g1 := hb_g1.ext hxE
    have hz_hxE := hxE.size
    rintro _ rfl
    rintro _ rfl
    show OpG _ _ _ _ _ _
    exact og_on rfl rfl rfl (ox_F (by omega) (ov_lss rfl rfl))
  · intro wd hxE
    replace hx := RdI.ext hx hxE
    replace hn := hn.ext hxE
    replace hE := hE.tr hxE
    replace hb_g1 := hb_g1.ext hxE
    have hz_hxE := hxE.size
    rintro _ rfl
    rintro _ rfl
    show OpG _ _ _ _ _ _
    exact og_plain rfl (ox_val (ov_pick_f rfl rfl))
  · intro wd hxE
    replace hx := RdI.ext hx hxE
    replace hn := hn.ext hxE
    replace hE := hE.tr hxE
    replace hb_g1 := hb_g1.ext hxE
    have hz_hxE := hxE.size
    rintro _ rfl
    show OpG _ _ _ _ _ _
    exact og_plain rfl (ox_val (ov_move rfl))
  · intro wd hxE
    replace hx := RdI.ext hx hxE
    replace hn := hn.ext hxE
    replace hE := hE.tr hxE
    replace hb_g1 := hb_g1.ext hxE
    have hz_hxE := hxE.size
    rintro _ rfl
    show OpG _ _ _ _ _ _
    exact og_on rfl rfl rfl (ox_val (ov_field0 (off := 1) fo28_1 rfl))
  · intro wd hxE
    replace hx := RdI.ext hx hxE
    replace hn := hn.ext hxE
    replace hE := hE.tr hxE
    replace hb_g1 := hb_g1.ext hxE
    have hz_hxE := hxE.size
    rintro _ rfl
    rintro _ rfl
    show OpG _ _ _ _ _ _
    exact og_on rfl rfl rfl (ox_val (ov_loadAt oc23 rfl hb_g1 rfl))
  · intro wd hxE
    replace hx := RdI.ext hx hxE
    replace hn := hn.ext hxE
    replace hE := hE.tr hxE
    replace hb_g1 := hb_g1.ext hxE
    have hz_hxE := hxE.size
    rintro _ rfl
    rintro _ rfl
    show OpG _ _ _ _ _ _
    exact og_on rfl rfl rfl (ox_F (by omega) (ov_gtr rfl rfl))
  · intro wd hxE
    replace hx := RdI.ext hx hxE
    replace hn := hn.ext hxE
    replace hE := hE.tr hxE
    replace hb_g1 := hb_g1.ext hxE
    have hz_hxE := hxE.size
    rintro _ rfl
    rintro _ rfl
    show OpG _ _ _ _ _ _
    exact og_plain rfl (ox_val (ov_pick_f rfl rfl))
  · intro wd hxE
    replace hx := RdI.ext hx hxE
    replace hn := hn.ext hxE
    replace hE := hE.tr hxE
    replace hb_g1 := hb_g1.ext hxE
    have hz_hxE := hxE.size
    rintro _ rfl
    show OpG _ _ _ _ _ _
    exact og_plain rfl (ox_val (ov_move rfl))
  · intro wd hxE
    replace hx := RdI.ext hx hxE
    replace hn := hn.ext hxE
    replace hE := hE.tr hxE
    replace hb_g1 := hb_g1.ext hxE
    have hz_hxE := hxE.size
    rintro _ rfl
    show OpG _ _ _ _ _ _
    exact og_on rfl rfl rfl (ox_val (ov_field0 (off := 0) fo28_0 rfl))
  · intro wd hxE
    replace hx := RdI.ext hx hxE
    replace hn := hn.ext hxE
    replace hE := hE.tr hxE
    replace hb_g1 := hb_g1.ext hxE
    have hz_hxE := hxE.size
    rintro _ rfl
    rintro _ rfl
    show OpG _ _ _ _ _ _
    exact og_on rfl rfl rfl (ox_val (ov_loadAt oc22 rfl hb_g1 rfl))
  · intro wd hxE
    replace hx := RdI.ext hx hxE
    replace hn := hn.ext hxE
    replace hE := hE.tr hxE
    replace hb_g1 := hb_g1.ext hxE
    have hz_hxE := hxE.size
    rintro _ rfl
    rintro _ rfl
    show OpG _ _ _ _ _ _
    exact og_on rfl rfl rfl (ox_T (by omega) (ov_eql rfl rfl))
  · intro wd hxE
    replace hx := RdI.ext hx hxE
    replace hn := hn.ext hxE
    replace hE := hE.tr hxE
    replace hb_g1 := hb_g1.ext hxE
    have hz_hxE := hxE.size
    rintro _ rfl
    rintro _ rfl
    show OpG _ _ _ _ _ _
    exact og_on rfl rfl rfl (ox_val (ov_move rfl))
  · intro wd hxE
    replace hx := RdI.ext hx hxE
    replace hn := hn.ext hxE
    replace hE := hE.tr hxE
    replace hb_g1 := hb_g1.ext hxE
    have hz_hxE := hxE.size
    rintro _ rfl
    show OpG _ _ _ _ _ _
    exact og_on rfl rfl rfl (ox_val (ov_field0 (off := 1) fo28_1 rfl))
  · intro wd hxE
    replace hx := RdI.ext hx hxE
    replace hn := hn.ext hxE
    replace hE := hE.tr hxE
    replace hb_g1 := hb_g1.ext hxE
    have hz_hxE := hxE.size
    rintro _ rfl
    rintro _ rfl
    show OpG _ _ _ _ _ _
    exact og_on rfl rfl rfl (ox_val (ov_loadAt oc23 rfl hb_g1 rfl))
  · intro wd hxE
    replace hx := RdI.ext hx hxE
    replace hn := hn.ext hxE
    replace hE := hE.tr hxE
    replace hb_g1 := hb_g1.ext hxE
    have hz_hxE := hxE.size
    rintro _ rfl
    rintro _ rfl
    show OpG _ _ _ _ _ _
    exact og_on rfl rfl rfl (ox_F (by omega) (ov_eql rfl rfl))
  · intro wd hxE
    replace hx := RdI.ext hx hxE
    replace hn := hn.ext hxE
    replace hE := hE.tr hxE
    replace hb_g1 := hb_g1.ext hxE
    have hz_hxE := hxE.size
    rintro _ rfl
    rintro _ rfl
    rintro _ rfl
    show OpG _ _ _ _ _ _
    exact og_on rfl rfl rfl (ox_val (ov_pick_t rfl rfl))
  · intro wd hxE
    replace hx := RdI.ext hx hxE
    replace hn := hn.ext hxE
    replace hE := hE.tr hxE
    replace hb_g1 := hb_g1.ext hxE
    have hz_hxE := hxE.size
    rintro _ rfl
    rintro _ rfl
    show OpG _ _ _ _ _ _
    exact og_plain rfl (ox_val (ov_pick_f rfl rfl))
  · intro wd hxE
    replace hx := RdI.ext hx hxE
    replace hn := hn.ext hxE
    replace hE := hE.tr hxE
    replace hb_g1 := hb_g1.ext hxE
    have hz_hxE := hxE.size
    rintro _ rfl
    show OpG _ _ _ _ _ _
    exact og_plain rfl (ox_val (ov_move rfl))
  · intro wd hxE
    replace hx := RdI.ext hx hxE
    replace hn := hn.ext hxE
    replace hE := hE.tr hxE
    replace hb_g1 := hb_g1.ext hxE
    have hz_hxE := hxE.size
    rintro _ rfl
    show OpG _ _ _ _ _ _
    exact og_on rfl rfl rfl (ox_val (ov_loadBlk (cs := [(.int .i64 r.op), (.int .i64 r.err), (.slice X r.items.length cx), (.int .u64 (↑r.ver : Int)), (.int .i64 r.count), (.slice N r.nums.length cn)]) ag28_6 rfl hb_g1))
  · intro wd hxE
    replace hx := RdI.ext hx hxE
    replace hn := hn.ext hxE
    replace hE := hE.tr hxE
    replace hb_g1 := hb_g1.ext hxE
    have hz_hxE := hxE.size
    rintro _ rfl
    show OpG _ _ _ _ _ _
    exact og_on rfl rfl rfl (ox_val (ov_loadBlk (cs := [(.int .i64 r.op), (.int .i64 r.err), (.slice X r.items.length cx), (.int .u64 (↑r.ver : Int)), (.int .i64 r.count), (.slice N r.nums.length cn)]) ag28_6 rfl hb_g1))
  · intro wd hxE
    replace hx := RdI.ext hx hxE
    replace hn := hn.ext hxE
    replace hE := hE.tr hxE
    replace hb_g1 := hb_g1.ext hxE
    have hz_hxE := hxE.size
    rintro _ rfl
    rintro _ rfl
    show OpG _ _ _ _ _ _
    refine og_on rfl rfl rfl (OpRun.mono (or_call0 cl25 rfl rfl (only8_any _ r xs hv lo hi X cx N cn hx hn (by omega))) ?_)
    rintro v w2 ⟨xs36, X36, cx36, N36, cn36, rfl, hv36, hx36, hn36, he36⟩
    replace hx := RdI.ext hx he36
    replace hn := hn.ext he36
    replace hE := hE.tr he36
    replace hb_g1 := hb_g1.ext he36
    have hz_he36 := he36.size
    exact ⟨⟨xs36, X36, cx36, N36, cn36, rfl, hv36, hx36, hn36⟩, he36⟩
  · intro wf1 hf1
    replace hx := RdI.ext hx hf1
    replace hn := hn.ext hf1
    replace hE := hE.tr hf1
    replace hb_g1 := hb_g1.ext hf1
    have hz_hf1 := hf1.size
    rintro _ rfl
    rintro _ rfl
    rintro _ rfl
    rintro _ rfl
    rintro _ rfl
    rintro _ rfl
    rintro _ rfl
    rintro _ rfl
    rintro _ rfl
    rintro _ rfl
    rintro _ rfl
    rintro _ rfl
    rintro _ rfl
    rintro _ rfl
    rintro _ rfl
    rintro _ rfl
    rintro _ rfl
    rintro _ rfl
    rintro _ rfl
    rintro _ rfl
    rintro _ rfl
    rintro _ rfl
    rintro _ rfl
    rintro _ rfl
    rintro _ rfl
    rintro _ rfl
    rintro _ rfl
    rintro _ rfl
    rintro _ rfl
    rintro _ rfl
    rintro _ rfl
    rintro _ ⟨xs36, X36, cx36, N36, cn36, rfl, hv36, hx36, hn36⟩
    show WL _ _ _ [_, _, _] _ _ _
    refine wl_gstep (or_call0 cl14 rfl rfl (req8_any _ r xs hv _ _ X cx N cn hx hn (onlyR r) xs36 hv36 _ _ X36 cx36 N36 cn36 hx36 hn36)) rfl rfl rfl rfl rfl ?_
    rintro v w2 ⟨rfl, he37⟩
    replace hx := RdI.ext hx he37
    replace hn := hn.ext he37
    replace hE := hE.tr he37
    replace hb_g1 := hb_g1.ext he37
    replace hx36 := RdI.ext hx36 he37
    replace hn36 := hn36.ext he37
    have hz_he37 := he37.size
    refine wl_spell (d := 37) rfl (bt (heq)) ?_
    refine wl_gval (ov_not (b := true) rfl) rfl rfl rfl rfl rfl ?_
    refine wl_val (ov_pick_f rfl rfl) rfl rfl rfl ?_
    refine q_nil (k_then ?_)
    refine wc_cond_f rfl ?_
    refine q_skip (k_then (wc_seq (wc_seq (wc_regionL ?_))))
    refine va rfl rfl ?_
    refine q_nil (k_then (wc_block ?_))
    refine wc_loop (σ := Nat) (fun i => r.items.length - i) (fun i => [(1, .pointer (some ⟨g1, 0, none⟩)), (3, .int .i64 (i : Int))]) (fun i w' => i ≤ r.items.length ∧ (r.items.take i).all okV = true ∧ Blk w' g1 28 (rspc r X cx N cn) ∧ RdI w' lo hi X cx xs ∧ RdN w' lo hi N cn r.nums ∧ Ext w w') (0) (⟨Nat.zero_le _, rfl, hb_g1, hx, hn, hE⟩) (⟨rfl, rfl, trivial⟩) ?_
    rintro i wq ⟨hi0, hall, hb_g1, hx, hn, hE⟩
    show WC _ _ _ _ [(1, (.pointer (some ⟨g1, 0, none⟩))), (3, (.int .i64 (↑i : Int)))] _
    have hz_E := hE.size
    have hz1 := hb_g1.lt
    refine wc_seq (wc_seq (wc_regionL ?_))
    refine vm rfl rfl ?_
    refine wl_val (ov_field0 (off := 2) fo28_2 rfl) rfl rfl rfl ?_
    refine wl_val (ov_loadAt oc24 rfl hb_g1 rfl) rfl rfl rfl ?_
    refine wl_val (ov_len Try.underlying24 rfl) rfl rfl rfl ?_
    refine wl_val (ov_lss rfl rfl) rfl rfl rfl ?_
    refine q_nil (k_then ?_)
    refine wc_cond_d rfl (fun hc2 => ?_) (fun hc2 => ?_)
    · obtain ⟨x, hk⟩ : ∃ s, xs[i]? = some s := ⟨_, List.getElem?_eq_getElem (by omega)⟩
      have hki := vals_at hv hk
      refine q_skip (k_then (wc_seq (wc_block (wc_seq (wc_regionL ?_)))))
      refine wl_val (ov_field0 (off := 2) fo28_2 rfl) rfl rfl rfl ?_
      refine wl_val (ov_loadAt oc24 rfl hb_g1 rfl) rfl rfl rfl ?_
      refine wl_spell (d := 48) rfl (v' := (.slice X xs.length cx)) (by rw [← hv, vals_len]) ?_
      refine vm rfl rfl ?_
      refine wl_step (or_rindex (m := (i)) sl24 rfl rfl hx.1 (fun _ _ => rfl) hk) rfl rfl rfl ?_
      rintro v _ ⟨rfl, p50, rfl, hp50, hpl50, hph50⟩
      refine wl_val (ov_loadAgg (cs := [(.int .i64 x.1.mark), (.slice x.2.1 x.1.value.length x.2.2), (.int .u64 (↑x.1.ver : Int)), (.int .u64 (↑x.1.dead : Int))]) ag53_4 rfl rfl hp50) rfl rfl rfl ?_
      refine wl_step (or_alloc (cs := [(.int .i64 0), (.slice none 0 0), (.int .u64 0), (.int .u64 0)]) ze53 rfl) rfl rfl rfl ?_
      rintro v w3 ⟨g4, rfl, hb_g4, he4, hl4, hu4⟩
      replace hx := RdI.ext hx he4
      replace hn := hn.ext he4
      replace hE := hE.tr he4
      replace hb_g1 := hb_g1.ext he4
      have hz_he4 := he4.size
      refine wl_step0 (or_storeBlk (vs := [(.int .i64 x.1.mark), (.slice x.2.1 x.1.value.length x.2.2), (.int .u64 (↑x.1.ver : Int)), (.int .u64 (↑x.1.dead : Int))]) sz53 rfl rfl (by simp [Value.oneCell']) hb_g4 rfl) rfl rfl ?_
      rintro _ w4 ⟨hN4, hg4⟩
      have hz_hg4 := hg4.size
      replace hx := RdI.gr hx hg4 (fun _ e => by cases e; omega)
      replace hn := hn.gr hg4 (fun _ e => by cases e; omega)
      replace hE := hE.gr hg4 (fun _ e => by cases e; omega)
      replace hb_g1 := hb_g1.gr hg4 (by intro e; cases e; omega)
      replace hb_g4 := hN4
      refine q_nil (k_then (wc_seq (wc_regionL ?_)))
      refine wl_val (ov_field0 (off := 0) fo53_0 rfl) rfl rfl rfl ?_
      refine wl_val (ov_loadAt oc50 rfl hb_g4 rfl) rfl rfl rfl ?_
      refine ve rfl rfl rfl ?_
      refine wl_case_d (d := 54) rfl (fun h54 => ?_) (fun h54 => ?_)
      · refine vm rfl rfl ?_
        refine wl_gval (ov_loadBlk (cs := [(.int .i64 x.1.mark), (.slice x.2.1 x.1.value.length x.2.2), (.int .u64 (↑x.1.ver : Int)), (.int .u64 (↑x.1.dead : Int))]) ag53_4 rfl hb_g4) rfl rfl rfl rfl rfl ?_
        refine wl_gval (ov_build (cs := [(.int .i64 0), (.slice none 0 0), (.int .u64 0), (.int .u64 0)]) ze53 pl53 rfl rfl) rfl rfl rfl rfl rfl ?_
        refine wl_gstep (or_call0 cl26 rfl rfl (iref_any _ x.1 zI _ _ _ _ _ _ _ _ (hx.2 x (List.mem_of_getElem? hk)) (RdB.nil _ 0 0))) rfl rfl rfl rfl rfl ?_
        rintro v w5 ⟨rfl, he58⟩
        replace hx := RdI.ext hx he58
        replace hn := hn.ext he58
        replace hE := hE.tr he58
        replace hb_g1 := hb_g1.ext he58
        replace hb_g4 := hb_g4.ext he58
        have hz_he58 := he58.size
        refine wl_gval (ov_not rfl) rfl rfl rfl rfl rfl ?_
        refine wl_spell (d := 59) rfl (v' := (.bool (decide (¬ x.1 = zI)))) (by by_cases h : x.1 = zI <;> simp [h]) ?_
        refine wl_case_d (d := 59) rfl (fun h59 => ?_) (fun h59 => ?_)
        · have hxf : okV x.1 = false := decide_eq_false (fun q => q.1 ⟨h54, h59⟩)
          have hbad : ¬ RV r := fun q => okV_not (List.mem_of_getElem? hki) hxf q.items
          refine wl_val (ov_pick_t rfl rfl) rfl rfl rfl ?_
          refine vm rfl rfl ?_
          iterate 3 refine wl_gskip rfl rfl rfl rfl rfl rfl ?_
          refine wl_val (ov_pick_t rfl rfl) rfl rfl rfl ?_
          refine vm rfl rfl ?_
          iterate 3 refine wl_gskip rfl rfl rfl rfl rfl rfl ?_
          refine wl_val (ov_pick_t rfl rfl) rfl rfl rfl ?_
          refine vm rfl rfl ?_
          iterate 4 refine wl_gskip rfl rfl rfl rfl rfl rfl ?_
          refine wl_val (ov_pick_t rfl rfl) rfl rfl rfl ?_
          refine q_nil (k_then ?_)
          refine wc_cond_t rfl ?_
          refine wc_seq (wc_regionL ?_)
          refine va rfl rfl ?_
          refine q_nil (k_then (q_ret (k_blockR (k_thenR (k_thenR (k_blockR (k_thenR ?_)))))))
          refine e_ret rfl rfl ?_
          exact ⟨by rw [decide_eq_false hbad], hE⟩
        · have hz59 := Decidable.not_not.1 h59
          refine wl_val (ov_pick_t rfl rfl) rfl rfl rfl ?_
          refine vm rfl rfl ?_
          refine wl_gval (ov_field0 (off := 0) fo53_0 rfl) rfl rfl rfl rfl rfl ?_
          refine wl_gval (ov_loadAt oc50 rfl hb_g4 rfl) rfl rfl rfl rfl rfl ?_
          refine wl_gval (ov_lss rfl rfl) rfl rfl rfl rfl rfl ?_
          refine wl_case_d (d := 64) rfl (fun h64 => ?_) (fun h64 => ?_)
          · have hxf : okV x.1 = false := decide_eq_false (fun q => by have q2 := q.2; omega)
            have hbad : ¬ RV r := fun q => okV_not (List.mem_of_getElem? hki) hxf q.items
            refine wl_val (ov_pick_f rfl rfl) rfl rfl rfl ?_
            refine vm rfl rfl ?_
            iterate 3 refine wl_gskip rfl rfl rfl rfl rfl rfl ?_
            refine wl_val (ov_pick_t rfl rfl) rfl rfl rfl ?_
            refine vm rfl rfl ?_
            iterate 4 refine wl_gskip rfl rfl rfl rfl rfl rfl ?_
            refine wl_val (ov_pick_t rfl rfl) rfl rfl rfl ?_
            refine q_nil (k_then ?_)
            refine wc_cond_t rfl ?_
            refine wc_seq (wc_regionL ?_)
            refine va rfl rfl ?_
            refine q_nil (k_then (q_ret (k_blockR (k_thenR (k_thenR (k_blockR (k_thenR ?_)))))))
            refine e_ret rfl rfl ?_
            exact ⟨by rw [decide_eq_false hbad], hE⟩
          · refine wl_val (ov_pick_f rfl rfl) rfl rfl rfl ?_
            refine vm rfl rfl ?_
            refine wl_gval (ov_field0 (off := 0) fo53_0 rfl) rfl rfl rfl rfl rfl ?_
            refine wl_gval (ov_loadAt oc50 rfl hb_g4 rfl) rfl rfl rfl rfl rfl ?_
            refine wl_gval (ov_gtr rfl rfl) rfl rfl rfl rfl rfl ?_
            refine wl_case_d (d := 69) rfl (fun h69 => ?_) (fun h69 => ?_)
            · have hxf : okV x.1 = false := decide_eq_false (fun q => by have q2 := q.2; omega)
              have hbad : ¬ RV r := fun q => okV_not (List.mem_of_getElem? hki) hxf q.items
              refine wl_val (ov_pick_f rfl rfl) rfl rfl rfl ?_
              refine vm rfl rfl ?_
              iterate 4 refine wl_gskip rfl rfl rfl rfl rfl rfl ?_
              refine wl_val (ov_pick_t rfl rfl) rfl rfl rfl ?_
              refine q_nil (k_then ?_)
              refine wc_cond_t rfl ?_
              refine wc_seq (wc_regionL ?_)
              refine va rfl rfl ?_
              refine q_nil (k_then (q_ret (k_blockR (k_thenR (k_thenR (k_blockR (k_thenR ?_)))))))
              refine e_ret rfl rfl ?_
              exact ⟨by rw [decide_eq_false hbad], hE⟩
            · refine wl_val (ov_pick_f rfl rfl) rfl rfl rfl ?_
              refine vm rfl rfl ?_
              refine wl_gval (ov_field0 (off := 1) fo53_1 rfl) rfl rfl rfl rfl rfl ?_
              refine wl_gval (ov_loadAt oc32 rfl hb_g4 rfl) rfl rfl rfl rfl rfl ?_
              refine wl_gval (ov_len Try.underlying32 rfl) rfl rfl rfl rfl rfl ?_
              refine wl_gval (ov_gtr rfl rfl) rfl rfl rfl rfl rfl ?_
              refine wl_case_d (d := 75) rfl (fun h75 => ?_) (fun h75 => ?_)
              · have hxf : okV x.1 = false := decide_eq_false (fun q => by have q2 := q.2; omega)
                have hbad : ¬ RV r := fun q => okV_not (List.mem_of_getElem? hki) hxf q.items
                refine wl_val (ov_pick_f rfl rfl) rfl rfl rfl ?_
                refine q_nil (k_then ?_)
                refine wc_cond_t rfl ?_
                refine wc_seq (wc_regionL ?_)
                refine va rfl rfl ?_
                refine q_nil (k_then (q_ret (k_blockR (k_thenR (k_thenR (k_blockR (k_thenR ?_)))))))
                refine e_ret rfl rfl ?_
                exact ⟨by rw [decide_eq_false hbad], hE⟩
              · have hxt : okV x.1 = true := decide_eq_true ⟨by first | exact fun q => q.2 hz59 | exact fun q => h54 q.1, by omega, by omega, by omega⟩
                refine wl_val (ov_pick_f rfl rfl) rfl rfl rfl ?_
                refine q_nil (k_then ?_)
                refine wc_cond_f rfl ?_
                refine q_skip (k_block (k_then (wc_regionL ?_)))
                refine vm rfl rfl ?_
                refine wl_val (ov_add rfl rfl (wi64 (by omega) (by omega))) rfl rfl rfl ?_
                refine va rfl rfl ?_
                refine q_nil ?_
                refine k_loop (i + 1) (by show r.items.length - (i + 1) < r.items.length - i; omega) (⟨rfl, rfl, trivial⟩) (⟨by omega, by rw [okV_take hki, hall, hxt]; rfl, hb_g1, hx, hn, hE⟩)
      · refine vm rfl rfl ?_
        iterate 4 refine wl_gskip rfl rfl rfl rfl rfl rfl ?_
        refine wl_val (ov_pick_f rfl rfl) rfl rfl rfl ?_
        refine vm rfl rfl ?_
        refine wl_gval (ov_field0 (off := 0) fo53_0 rfl) rfl rfl rfl rfl rfl ?_
        refine wl_gval (ov_loadAt oc50 rfl hb_g4 rfl) rfl rfl rfl rfl rfl ?_
        refine wl_gval (ov_lss rfl rfl) rfl rfl rfl rfl rfl ?_
        refine wl_case_d (d := 64) rfl (fun h64 => ?_) (fun h64 => ?_)
        · have hxf : okV x.1 = false := decide_eq_false (fun q => by have q2 := q.2; omega)
          have hbad : ¬ RV r := fun q => okV_not (List.mem_of_getElem? hki) hxf q.items
          refine wl_val (ov_pick_f rfl rfl) rfl rfl rfl ?_
          refine vm rfl rfl ?_
          iterate 3 refine wl_gskip rfl rfl rfl rfl rfl rfl ?_
          refine wl_val (ov_pick_t rfl rfl) rfl rfl rfl ?_
          refine vm rfl rfl ?_
          iterate 4 refine wl_gskip rfl rfl rfl rfl rfl rfl ?_
          refine wl_val (ov_pick_t rfl rfl) rfl rfl rfl ?_
          refine q_nil (k_then ?_)
          refine wc_cond_t rfl ?_
          refine wc_seq (wc_regionL ?_)
          refine va rfl rfl ?_
          refine q_nil (k_then (q_ret (k_blockR (k_thenR (k_thenR (k_blockR (k_thenR ?_)))))))
          refine e_ret rfl rfl ?_
          exact ⟨by rw [decide_eq_false hbad], hE⟩
        · refine wl_val (ov_pick_f rfl rfl) rfl rfl rfl ?_
          refine vm rfl rfl ?_
          refine wl_gval (ov_field0 (off := 0) fo53_0 rfl) rfl rfl rfl rfl rfl ?_
          refine wl_gval (ov_loadAt oc50 rfl hb_g4 rfl) rfl rfl rfl rfl rfl ?_
          refine wl_gval (ov_gtr rfl rfl) rfl rfl rfl rfl rfl ?_
          refine wl_case_d (d := 69) rfl (fun h69 => ?_) (fun h69 => ?_)
          · have hxf : okV x.1 = false := decide_eq_false (fun q => by have q2 := q.2; omega)
            have hbad : ¬ RV r := fun q => okV_not (List.mem_of_getElem? hki) hxf q.items
            refine wl_val (ov_pick_f rfl rfl) rfl rfl rfl ?_
            refine vm rfl rfl ?_
            iterate 4 refine wl_gskip rfl rfl rfl rfl rfl rfl ?_
            refine wl_val (ov_pick_t rfl rfl) rfl rfl rfl ?_
            refine q_nil (k_then ?_)
            refine wc_cond_t rfl ?_
            refine wc_seq (wc_regionL ?_)
            refine va rfl rfl ?_
            refine q_nil (k_then (q_ret (k_blockR (k_thenR (k_thenR (k_blockR (k_thenR ?_)))))))
            refine e_ret rfl rfl ?_
            exact ⟨by rw [decide_eq_false hbad], hE⟩
          · refine wl_val (ov_pick_f rfl rfl) rfl rfl rfl ?_
            refine vm rfl rfl ?_
            refine wl_gval (ov_field0 (off := 1) fo53_1 rfl) rfl rfl rfl rfl rfl ?_
            refine wl_gval (ov_loadAt oc32 rfl hb_g4 rfl) rfl rfl rfl rfl rfl ?_
            refine wl_gval (ov_len Try.underlying32 rfl) rfl rfl rfl rfl rfl ?_
            refine wl_gval (ov_gtr rfl rfl) rfl rfl rfl rfl rfl ?_
            refine wl_case_d (d := 75) rfl (fun h75 => ?_) (fun h75 => ?_)
            · have hxf : okV x.1 = false := decide_eq_false (fun q => by have q2 := q.2; omega)
              have hbad : ¬ RV r := fun q => okV_not (List.mem_of_getElem? hki) hxf q.items
              refine wl_val (ov_pick_f rfl rfl) rfl rfl rfl ?_
              refine q_nil (k_then ?_)
              refine wc_cond_t rfl ?_
              refine wc_seq (wc_regionL ?_)
              refine va rfl rfl ?_
              refine q_nil (k_then (q_ret (k_blockR (k_thenR (k_thenR (k_blockR (k_thenR ?_)))))))
              refine e_ret rfl rfl ?_
              exact ⟨by rw [decide_eq_false hbad], hE⟩
            · have hxt : okV x.1 = true := decide_eq_true ⟨by first | exact fun q => q.2 hz59 | exact fun q => h54 q.1, by omega, by omega, by omega⟩
              refine wl_val (ov_pick_f rfl rfl) rfl rfl rfl ?_
              refine q_nil (k_then ?_)
              refine wc_cond_f rfl ?_
              refine q_skip (k_block (k_then (wc_regionL ?_)))
              refine vm rfl rfl ?_
              refine wl_val (ov_add rfl rfl (wi64 (by omega) (by omega))) rfl rfl rfl ?_
              refine va rfl rfl ?_
              refine q_nil ?_
              refine k_loop (i + 1) (by show r.items.length - (i + 1) < r.items.length - i; omega) (⟨rfl, rfl, trivial⟩) (⟨by omega, by rw [okV_take hki, hall, hxt]; rfl, hb_g1, hx, hn, hE⟩)
    · have hix : r.items.take i = r.items := List.take_of_length_le (by omega)
      rw [hix] at hall
      refine q_exit (k_thenX (k_thenX (k_blockE (k_then (wc_seq (wc_seq (wc_regionL ?_)))))))
      refine wl_val (ov_field0 (off := 1) fo28_1 rfl) rfl rfl rfl ?_
      refine wl_val (ov_loadAt oc23 rfl hb_g1 rfl) rfl rfl rfl ?_
      refine ve rfl rfl rfl ?_
      refine wl_case_d (d := 79) rfl (fun h79 => ?_) (fun h79 => ?_)
      · refine vm rfl rfl ?_
        refine wl_gval (ov_field0 (off := 0) fo28_0 rfl) rfl rfl rfl rfl rfl ?_
        refine wl_gval (ov_loadAt oc22 rfl hb_g1 rfl) rfl rfl rfl rfl rfl ?_
        refine wl_gval (or_call0 cl27 rfl rfl (needs8_any _ r.op)) rfl rfl rfl rfl rfl ?_
        refine wl_gval (ov_eql rfl rfl) rfl rfl rfl rfl rfl ?_
        refine wl_case_d (d := 84) rfl (fun h84 => ?_) (fun h84 => ?_)
        · refine wl_val (ov_pick_t rfl rfl) rfl rfl rfl ?_
          refine vm rfl rfl ?_
          refine wl_gval (ov_field0 (off := 2) fo28_2 rfl) rfl rfl rfl rfl rfl ?_
          refine wl_gval (ov_loadAt oc24 rfl hb_g1 rfl) rfl rfl rfl rfl rfl ?_
          refine wl_gval (ov_len Try.underlying24 rfl) rfl rfl rfl rfl rfl ?_
          refine wl_gval (ov_neq rfl rfl) rfl rfl rfl rfl rfl ?_
          refine wl_case_d (d := 90) rfl (fun h90 => ?_) (fun h90 => ?_)
          · have hbad : ¬ RV r := fun q => q.one ⟨by omega, by omega, by omega⟩
            refine wl_val (ov_pick_t rfl rfl) rfl rfl rfl ?_
            refine vm rfl rfl ?_
            iterate 4 refine wl_gskip rfl rfl rfl rfl rfl rfl ?_
            iterate 4 refine wl_gskipU rfl rfl rfl rfl rfl ?_
            iterate 2 refine wl_gskip rfl rfl rfl rfl rfl rfl ?_
            iterate 10 refine wl_gskipU rfl rfl rfl rfl rfl ?_
            refine wl_gskip rfl rfl rfl rfl rfl rfl ?_
            refine wl_val (ov_pick_t rfl rfl) rfl rfl rfl ?_
            refine q_nil (k_then ?_)
            refine wc_cond_t rfl ?_
            refine wc_seq (wc_regionL ?_)
            refine va rfl rfl ?_
            refine q_nil (k_then (q_ret (k_thenR ?_)))
            refine e_ret rfl rfl ?_
            exact ⟨by rw [decide_eq_false hbad], hE⟩
          · refine wl_val (ov_pick_t rfl rfl) rfl rfl rfl ?_
            refine vm rfl rfl ?_
            refine wl_gval (ov_field0 (off := 1) fo28_1 rfl) rfl rfl rfl rfl rfl ?_
            refine wl_gval (ov_loadAt oc23 rfl hb_g1 rfl) rfl rfl rfl rfl rfl ?_
            refine wl_gval (ov_eql rfl rfl) rfl rfl rfl rfl rfl ?_
            refine wl_spell (d := 95) rfl (bt (h79)) ?_
            refine wl_gval (ov_move rfl) rfl rfl rfl rfl rfl ?_
            refine wl_gval (ov_field0 (off := 0) fo28_0 rfl) rfl rfl rfl rfl rfl ?_
            refine wl_gval (ov_loadAt oc22 rfl hb_g1 rfl) rfl rfl rfl rfl rfl ?_
            refine wl_gval (or_call0 cl27 rfl rfl (needs8_any _ r.op)) rfl rfl rfl rfl rfl ?_
            refine wl_gval (ov_eql rfl rfl) rfl rfl rfl rfl rfl ?_
            refine wl_case_d (d := 100) rfl (fun h100 => ?_) (fun h100 => ?_)
            · refine wl_gval (ov_pick_t rfl rfl) rfl rfl rfl rfl rfl ?_
              refine wl_gval (ov_move rfl) rfl rfl rfl rfl rfl ?_
              refine wl_gval (ov_field0 (off := 2) fo28_2 rfl) rfl rfl rfl rfl rfl ?_
              refine wl_gval (ov_loadAt oc24 rfl hb_g1 rfl) rfl rfl rfl rfl rfl ?_
              refine wl_gval (ov_len Try.underlying24 rfl) rfl rfl rfl rfl rfl ?_
              refine wl_gval (ov_lss rfl rfl) rfl rfl rfl rfl rfl ?_
              refine wl_case_d (d := 106) rfl (fun h106 => ?_) (fun h106 => ?_)
              · have hbad : ¬ RV r := fun q => q.many ⟨by omega, by omega, by omega⟩
                refine wl_gval (ov_move rfl) rfl rfl rfl rfl rfl ?_
                iterate 4 refine wl_gskip rfl rfl rfl rfl rfl rfl ?_
                iterate 2 refine wl_gval (ov_pick_t rfl rfl) rfl rfl rfl rfl rfl ?_
                refine wl_val (ov_pick_f rfl rfl) rfl rfl rfl ?_
                refine q_nil (k_then ?_)
                refine wc_cond_t rfl ?_
                refine wc_seq (wc_regionL ?_)
                refine va rfl rfl ?_
                refine q_nil (k_then (q_ret (k_thenR ?_)))
                refine e_ret rfl rfl ?_
                exact ⟨by rw [decide_eq_false hbad], hE⟩
              · refine wl_gval (ov_move rfl) rfl rfl rfl rfl rfl ?_
                refine wl_gval (ov_field0 (off := 2) fo28_2 rfl) rfl rfl rfl rfl rfl ?_
                refine wl_gval (ov_loadAt oc24 rfl hb_g1 rfl) rfl rfl rfl rfl rfl ?_
                refine wl_gval (ov_len Try.underlying24 rfl) rfl rfl rfl rfl rfl ?_
                refine wl_gval (ov_gtr rfl rfl) rfl rfl rfl rfl rfl ?_
                refine wl_case_d (d := 111) rfl (fun h111 => ?_) (fun h111 => ?_)
                · have hbad : ¬ RV r := fun q => q.many ⟨by omega, by omega, by omega⟩
                  refine wl_gval (ov_pick_f rfl rfl) rfl rfl rfl rfl rfl ?_
                  refine wl_gval (ov_pick_t rfl rfl) rfl rfl rfl rfl rfl ?_
                  refine wl_val (ov_pick_f rfl rfl) rfl rfl rfl ?_
                  refine q_nil (k_then ?_)
                  refine wc_cond_t rfl ?_
                  refine wc_seq (wc_regionL ?_)
                  refine va rfl rfl ?_
                  refine q_nil (k_then (q_ret (k_thenR ?_)))
                  refine e_ret rfl rfl ?_
                  exact ⟨by rw [decide_eq_false hbad], hE⟩
                · refine wl_gval (ov_pick_f rfl rfl) rfl rfl rfl rfl rfl ?_
                  refine wl_gval (ov_pick_t rfl rfl) rfl rfl rfl rfl rfl ?_
                  refine wl_val (ov_pick_f rfl rfl) rfl rfl rfl ?_
                  refine q_nil (k_then ?_)
                  refine wc_cond_f rfl ?_
                  refine q_skip (k_then (wc_seq (wc_regionL ?_)))
                  refine wl_val (ov_field0 (off := 4) fo28_4 rfl) rfl rfl rfl ?_
                  refine wl_val (ov_loadAt oc3 rfl hb_g1 rfl) rfl rfl rfl ?_
                  refine wl_val (ov_geq rfl rfl) rfl rfl rfl ?_
                  refine wl_case_d (d := 117) rfl (fun h117 => ?_) (fun h117 => ?_)
                  · refine vm rfl rfl ?_
                    refine wl_gval (ov_field0 (off := 4) fo28_4 rfl) rfl rfl rfl rfl rfl ?_
                    refine wl_gval (ov_loadAt oc3 rfl hb_g1 rfl) rfl rfl rfl rfl rfl ?_
                    refine wl_gval (ov_leq rfl rfl) rfl rfl rfl rfl rfl ?_
                    refine wl_case_d (d := 121) rfl (fun h121 => ?_) (fun h121 => ?_)
                    · refine wl_val (ov_pick_t rfl rfl) rfl rfl rfl ?_
                      refine vm rfl rfl ?_
                      refine wl_gval (ov_field0 (off := 5) fo28_5 rfl) rfl rfl rfl rfl rfl ?_
                      refine wl_gval (ov_loadAt oc26 rfl hb_g1 rfl) rfl rfl rfl rfl rfl ?_
                      refine wl_gval (ov_len Try.underlying26 rfl) rfl rfl rfl rfl rfl ?_
                      refine wl_gval (ov_leq rfl rfl) rfl rfl rfl rfl rfl ?_
                      refine wl_case_d (d := 127) rfl (fun h127 => ?_) (fun h127 => ?_)
                      · have hgood : RV r := ⟨by omega, by omega, by omega, by omega, by omega, heq, hall, by omega, by omega, by omega, by omega, by omega⟩
                        refine wl_val (ov_pick_t rfl rfl) rfl rfl rfl ?_
                        refine va rfl rfl ?_
                        refine q_nil (k_then (q_ret ?_))
                        refine e_ret rfl rfl ?_
                        exact ⟨by rw [decide_eq_true hgood], hE⟩
                      · have hbad : ¬ RV r := fun q => by have := q.nums; omega
                        refine wl_val (ov_pick_t rfl rfl) rfl rfl rfl ?_
                        refine va rfl rfl ?_
                        refine q_nil (k_then (q_ret ?_))
                        refine e_ret rfl rfl ?_
                        exact ⟨by rw [decide_eq_false hbad], hE⟩
                    · have hbad : ¬ RV r := fun q => by have := q.c2; omega
                      refine wl_val (ov_pick_t rfl rfl) rfl rfl rfl ?_
                      refine vm rfl rfl ?_
                      iterate 4 refine wl_gskip rfl rfl rfl rfl rfl rfl ?_
                      refine wl_val (ov_pick_f rfl rfl) rfl rfl rfl ?_
                      refine va rfl rfl ?_
                      refine q_nil (k_then (q_ret ?_))
                      refine e_ret rfl rfl ?_
                      exact ⟨by rw [decide_eq_false hbad], hE⟩
                  · have hbad : ¬ RV r := fun q => by have := q.c1; omega
                    refine vm rfl rfl ?_
                    iterate 3 refine wl_gskip rfl rfl rfl rfl rfl rfl ?_
                    refine wl_val (ov_pick_f rfl rfl) rfl rfl rfl ?_
                    refine vm rfl rfl ?_
                    iterate 4 refine wl_gskip rfl rfl rfl rfl rfl rfl ?_
                    refine wl_val (ov_pick_f rfl rfl) rfl rfl rfl ?_
                    refine va rfl rfl ?_
                    refine q_nil (k_then (q_ret ?_))
                    refine e_ret rfl rfl ?_
                    exact ⟨by rw [decide_eq_false hbad], hE⟩
            · refine wl_gval (ov_pick_t rfl rfl) rfl rfl rfl rfl rfl ?_
              refine wl_gval (ov_move rfl) rfl rfl rfl rfl rfl ?_
              iterate 5 refine wl_gskip rfl rfl rfl rfl rfl rfl ?_
              iterate 4 refine wl_gskipU rfl rfl rfl rfl rfl ?_
              refine wl_gskip rfl rfl rfl rfl rfl rfl ?_
              refine wl_gval (ov_pick_f rfl rfl) rfl rfl rfl rfl rfl ?_
              refine wl_val (ov_pick_f rfl rfl) rfl rfl rfl ?_
              refine q_nil (k_then ?_)
              refine wc_cond_f rfl ?_
              refine q_skip (k_then (wc_seq (wc_regionL ?_)))
              refine wl_val (ov_field0 (off := 4) fo28_4 rfl) rfl rfl rfl ?_
              refine wl_val (ov_loadAt oc3 rfl hb_g1 rfl) rfl rfl rfl ?_
              refine wl_val (ov_geq rfl rfl) rfl rfl rfl ?_
              refine wl_case_d (d := 117) rfl (fun h117 => ?_) (fun h117 => ?_)
              · refine vm rfl rfl ?_
                refine wl_gval (ov_field0 (off := 4) fo28_4 rfl) rfl rfl rfl rfl rfl ?_
                refine wl_gval (ov_loadAt oc3 rfl hb_g1 rfl) rfl rfl rfl rfl rfl ?_
                refine wl_gval (ov_leq rfl rfl) rfl rfl rfl rfl rfl ?_
                refine wl_case_d (d := 121) rfl (fun h121 => ?_) (fun h121 => ?_)
                · refine wl_val (ov_pick_t rfl rfl) rfl rfl rfl ?_
                  refine vm rfl rfl ?_
                  refine wl_gval (ov_field0 (off := 5) fo28_5 rfl) rfl rfl rfl rfl rfl ?_
                  refine wl_gval (ov_loadAt oc26 rfl hb_g1 rfl) rfl rfl rfl rfl rfl ?_
                  refine wl_gval (ov_len Try.underlying26 rfl) rfl rfl rfl rfl rfl ?_
                  refine wl_gval (ov_leq rfl rfl) rfl rfl rfl rfl rfl ?_
                  refine wl_case_d (d := 127) rfl (fun h127 => ?_) (fun h127 => ?_)
                  · have hgood : RV r := ⟨by omega, by omega, by omega, by omega, by omega, heq, hall, by omega, by omega, by omega, by omega, by omega⟩
                    refine wl_val (ov_pick_t rfl rfl) rfl rfl rfl ?_
                    refine va rfl rfl ?_
                    refine q_nil (k_then (q_ret ?_))
                    refine e_ret rfl rfl ?_
                    exact ⟨by rw [decide_eq_true hgood], hE⟩
                  · have hbad : ¬ RV r := fun q => by have := q.nums; omega
                    refine wl_val (ov_pick_t rfl rfl) rfl rfl rfl ?_
                    refine va rfl rfl ?_
                    refine q_nil (k_then (q_ret ?_))
                    refine e_ret rfl rfl ?_
                    exact ⟨by rw [decide_eq_false hbad], hE⟩
                · have hbad : ¬ RV r := fun q => by have := q.c2; omega
                  refine wl_val (ov_pick_t rfl rfl) rfl rfl rfl ?_
                  refine vm rfl rfl ?_
                  iterate 4 refine wl_gskip rfl rfl rfl rfl rfl rfl ?_
                  refine wl_val (ov_pick_f rfl rfl) rfl rfl rfl ?_
                  refine va rfl rfl ?_
                  refine q_nil (k_then (q_ret ?_))
                  refine e_ret rfl rfl ?_
                  exact ⟨by rw [decide_eq_false hbad], hE⟩
              · have hbad : ¬ RV r := fun q => by have := q.c1; omega
                refine vm rfl rfl ?_
                iterate 3 refine wl_gskip rfl rfl rfl rfl rfl rfl ?_
                refine wl_val (ov_pick_f rfl rfl) rfl rfl rfl ?_
                refine vm rfl rfl ?_
                iterate 4 refine wl_gskip rfl rfl rfl rfl rfl rfl ?_
                refine wl_val (ov_pick_f rfl rfl) rfl rfl rfl ?_
                refine va rfl rfl ?_
                refine q_nil (k_then (q_ret ?_))
                refine e_ret rfl rfl ?_
                exact ⟨by rw [decide_eq_false hbad], hE⟩
        · refine wl_val (ov_pick_t rfl rfl) rfl rfl rfl ?_
          refine vm rfl rfl ?_
          iterate 4 refine wl_gskip rfl rfl rfl rfl rfl rfl ?_
          refine wl_val (ov_pick_f rfl rfl) rfl rfl rfl ?_
          refine vm rfl rfl ?_
          refine wl_gval (ov_field0 (off := 1) fo28_1 rfl) rfl rfl rfl rfl rfl ?_
          refine wl_gval (ov_loadAt oc23 rfl hb_g1 rfl) rfl rfl rfl rfl rfl ?_
          refine wl_gval (ov_eql rfl rfl) rfl rfl rfl rfl rfl ?_
          refine wl_spell (d := 95) rfl (bt (h79)) ?_
          refine wl_gval (ov_move rfl) rfl rfl rfl rfl rfl ?_
          refine wl_gval (ov_field0 (off := 0) fo28_0 rfl) rfl rfl rfl rfl rfl ?_
          refine wl_gval (ov_loadAt oc22 rfl hb_g1 rfl) rfl rfl rfl rfl rfl ?_
          refine wl_gval (or_call0 cl27 rfl rfl (needs8_any _ r.op)) rfl rfl rfl rfl rfl ?_
          refine wl_gval (ov_eql rfl rfl) rfl rfl rfl rfl rfl ?_
          refine wl_case_d (d := 100) rfl (fun h100 => ?_) (fun h100 => ?_)
          · refine wl_gval (ov_pick_t rfl rfl) rfl rfl rfl rfl rfl ?_
            refine wl_gval (ov_move rfl) rfl rfl rfl rfl rfl ?_
            refine wl_gval (ov_field0 (off := 2) fo28_2 rfl) rfl rfl rfl rfl rfl ?_
            refine wl_gval (ov_loadAt oc24 rfl hb_g1 rfl) rfl rfl rfl rfl rfl ?_
            refine wl_gval (ov_len Try.underlying24 rfl) rfl rfl rfl rfl rfl ?_
            refine wl_gval (ov_lss rfl rfl) rfl rfl rfl rfl rfl ?_
            refine wl_case_d (d := 106) rfl (fun h106 => ?_) (fun h106 => ?_)
            · have hbad : ¬ RV r := fun q => q.many ⟨by omega, by omega, by omega⟩
              refine wl_gval (ov_move rfl) rfl rfl rfl rfl rfl ?_
              iterate 4 refine wl_gskip rfl rfl rfl rfl rfl rfl ?_
              iterate 2 refine wl_gval (ov_pick_t rfl rfl) rfl rfl rfl rfl rfl ?_
              refine wl_val (ov_pick_f rfl rfl) rfl rfl rfl ?_
              refine q_nil (k_then ?_)
              refine wc_cond_t rfl ?_
              refine wc_seq (wc_regionL ?_)
              refine va rfl rfl ?_
              refine q_nil (k_then (q_ret (k_thenR ?_)))
              refine e_ret rfl rfl ?_
              exact ⟨by rw [decide_eq_false hbad], hE⟩
            · refine wl_gval (ov_move rfl) rfl rfl rfl rfl rfl ?_
              refine wl_gval (ov_field0 (off := 2) fo28_2 rfl) rfl rfl rfl rfl rfl ?_
              refine wl_gval (ov_loadAt oc24 rfl hb_g1 rfl) rfl rfl rfl rfl rfl ?_
              refine wl_gval (ov_len Try.underlying24 rfl) rfl rfl rfl rfl rfl ?_
              refine wl_gval (ov_gtr rfl rfl) rfl rfl rfl rfl rfl ?_
              refine wl_case_d (d := 111) rfl (fun h111 => ?_) (fun h111 => ?_)
              · have hbad : ¬ RV r := fun q => q.many ⟨by omega, by omega, by omega⟩
                refine wl_gval (ov_pick_f rfl rfl) rfl rfl rfl rfl rfl ?_
                refine wl_gval (ov_pick_t rfl rfl) rfl rfl rfl rfl rfl ?_
                refine wl_val (ov_pick_f rfl rfl) rfl rfl rfl ?_
                refine q_nil (k_then ?_)
                refine wc_cond_t rfl ?_
                refine wc_seq (wc_regionL ?_)
                refine va rfl rfl ?_
                refine q_nil (k_then (q_ret (k_thenR ?_)))
                refine e_ret rfl rfl ?_
                exact ⟨by rw [decide_eq_false hbad], hE⟩
              · refine wl_gval (ov_pick_f rfl rfl) rfl rfl rfl rfl rfl ?_
                refine wl_gval (ov_pick_t rfl rfl) rfl rfl rfl rfl rfl ?_
                refine wl_val (ov_pick_f rfl rfl) rfl rfl rfl ?_
                refine q_nil (k_then ?_)
                refine wc_cond_f rfl ?_
                refine q_skip (k_then (wc_seq (wc_regionL ?_)))
                refine wl_val (ov_field0 (off := 4) fo28_4 rfl) rfl rfl rfl ?_
                refine wl_val (ov_loadAt oc3 rfl hb_g1 rfl) rfl rfl rfl ?_
                refine wl_val (ov_geq rfl rfl) rfl rfl rfl ?_
                refine wl_case_d (d := 117) rfl (fun h117 => ?_) (fun h117 => ?_)
                · refine vm rfl rfl ?_
                  refine wl_gval (ov_field0 (off := 4) fo28_4 rfl) rfl rfl rfl rfl rfl ?_
                  refine wl_gval (ov_loadAt oc3 rfl hb_g1 rfl) rfl rfl rfl rfl rfl ?_
                  refine wl_gval (ov_leq rfl rfl) rfl rfl rfl rfl rfl ?_
                  refine wl_case_d (d := 121) rfl (fun h121 => ?_) (fun h121 => ?_)
                  · refine wl_val (ov_pick_t rfl rfl) rfl rfl rfl ?_
                    refine vm rfl rfl ?_
                    refine wl_gval (ov_field0 (off := 5) fo28_5 rfl) rfl rfl rfl rfl rfl ?_
                    refine wl_gval (ov_loadAt oc26 rfl hb_g1 rfl) rfl rfl rfl rfl rfl ?_
                    refine wl_gval (ov_len Try.underlying26 rfl) rfl rfl rfl rfl rfl ?_
                    refine wl_gval (ov_leq rfl rfl) rfl rfl rfl rfl rfl ?_
                    refine wl_case_d (d := 127) rfl (fun h127 => ?_) (fun h127 => ?_)
                    · have hgood : RV r := ⟨by omega, by omega, by omega, by omega, by omega, heq, hall, by omega, by omega, by omega, by omega, by omega⟩
                      refine wl_val (ov_pick_t rfl rfl) rfl rfl rfl ?_
                      refine va rfl rfl ?_
                      refine q_nil (k_then (q_ret ?_))
                      refine e_ret rfl rfl ?_
                      exact ⟨by rw [decide_eq_true hgood], hE⟩
                    · have hbad : ¬ RV r := fun q => by have := q.nums; omega
                      refine wl_val (ov_pick_t rfl rfl) rfl rfl rfl ?_
                      refine va rfl rfl ?_
                      refine q_nil (k_then (q_ret ?_))
                      refine e_ret rfl rfl ?_
                      exact ⟨by rw [decide_eq_false hbad], hE⟩
                  · have hbad : ¬ RV r := fun q => by have := q.c2; omega
                    refine wl_val (ov_pick_t rfl rfl) rfl rfl rfl ?_
                    refine vm rfl rfl ?_
                    iterate 4 refine wl_gskip rfl rfl rfl rfl rfl rfl ?_
                    refine wl_val (ov_pick_f rfl rfl) rfl rfl rfl ?_
                    refine va rfl rfl ?_
                    refine q_nil (k_then (q_ret ?_))
                    refine e_ret rfl rfl ?_
                    exact ⟨by rw [decide_eq_false hbad], hE⟩
                · have hbad : ¬ RV r := fun q => by have := q.c1; omega
                  refine vm rfl rfl ?_
                  iterate 3 refine wl_gskip rfl rfl rfl rfl rfl rfl ?_
                  refine wl_val (ov_pick_f rfl rfl) rfl rfl rfl ?_
                  refine vm rfl rfl ?_
                  iterate 4 refine wl_gskip rfl rfl rfl rfl rfl rfl ?_
                  refine wl_val (ov_pick_f rfl rfl) rfl rfl rfl ?_
                  refine va rfl rfl ?_
                  refine q_nil (k_then (q_ret ?_))
                  refine e_ret rfl rfl ?_
                  exact ⟨by rw [decide_eq_false hbad], hE⟩
          · refine wl_gval (ov_pick_t rfl rfl) rfl rfl rfl rfl rfl ?_
            refine wl_gval (ov_move rfl) rfl rfl rfl rfl rfl ?_
            iterate 5 refine wl_gskip rfl rfl rfl rfl rfl rfl ?_
            iterate 4 refine wl_gskipU rfl rfl rfl rfl rfl ?_
            refine wl_gskip rfl rfl rfl rfl rfl rfl ?_
            refine wl_gval (ov_pick_f rfl rfl) rfl rfl rfl rfl rfl ?_
            refine wl_val (ov_pick_f rfl rfl) rfl rfl rfl ?_
            refine q_nil (k_then ?_)
            refine wc_cond_f rfl ?_
            refine q_skip (k_then (wc_seq (wc_regionL ?_)))
            refine wl_val (ov_field0 (off := 4) fo28_4 rfl) rfl rfl rfl ?_
            refine wl_val (ov_loadAt oc3 rfl hb_g1 rfl) rfl rfl rfl ?_
            refine wl_val (ov_geq rfl rfl) rfl rfl rfl ?_
            refine wl_case_d (d := 117) rfl (fun h117 => ?_) (fun h117 => ?_)
            · refine vm rfl rfl ?_
              refine wl_gval (ov_field0 (off := 4) fo28_4 rfl) rfl rfl rfl rfl rfl ?_
              refine wl_gval (ov_loadAt oc3 rfl hb_g1 rfl) rfl rfl rfl rfl rfl ?_
              refine wl_gval (ov_leq rfl rfl) rfl rfl rfl rfl rfl ?_
              refine wl_case_d (d := 121) rfl (fun h121 => ?_) (fun h121 => ?_)
              · refine wl_val (ov_pick_t rfl rfl) rfl rfl rfl ?_
                refine vm rfl rfl ?_
                refine wl_gval (ov_field0 (off := 5) fo28_5 rfl) rfl rfl rfl rfl rfl ?_
                refine wl_gval (ov_loadAt oc26 rfl hb_g1 rfl) rfl rfl rfl rfl rfl ?_
                refine wl_gval (ov_len Try.underlying26 rfl) rfl rfl rfl rfl rfl ?_
                refine wl_gval (ov_leq rfl rfl) rfl rfl rfl rfl rfl ?_
                refine wl_case_d (d := 127) rfl (fun h127 => ?_) (fun h127 => ?_)
                · have hgood : RV r := ⟨by omega, by omega, by omega, by omega, by omega, heq, hall, by omega, by omega, by omega, by omega, by omega⟩
                  refine wl_val (ov_pick_t rfl rfl) rfl rfl rfl ?_
                  refine va rfl rfl ?_
                  refine q_nil (k_then (q_ret ?_))
                  refine e_ret rfl rfl ?_
                  exact ⟨by rw [decide_eq_true hgood], hE⟩
                · have hbad : ¬ RV r := fun q => by have := q.nums; omega
                  refine wl_val (ov_pick_t rfl rfl) rfl rfl rfl ?_
                  refine va rfl rfl ?_
                  refine q_nil (k_then (q_ret ?_))
                  refine e_ret rfl rfl ?_
                  exact ⟨by rw [decide_eq_false hbad], hE⟩
              · have hbad : ¬ RV r := fun q => by have := q.c2; omega
                refine wl_val (ov_pick_t rfl rfl) rfl rfl rfl ?_
                refine vm rfl rfl ?_
                iterate 4 refine wl_gskip rfl rfl rfl rfl rfl rfl ?_
                refine wl_val (ov_pick_f rfl rfl) rfl rfl rfl ?_
                refine va rfl rfl ?_
                refine q_nil (k_then (q_ret ?_))
                refine e_ret rfl rfl ?_
                exact ⟨by rw [decide_eq_false hbad], hE⟩
            · have hbad : ¬ RV r := fun q => by have := q.c1; omega
              refine vm rfl rfl ?_
              iterate 3 refine wl_gskip rfl rfl rfl rfl rfl rfl ?_
              refine wl_val (ov_pick_f rfl rfl) rfl rfl rfl ?_
              refine vm rfl rfl ?_
              iterate 4 refine wl_gskip rfl rfl rfl rfl rfl rfl ?_
              refine wl_val (ov_pick_f rfl rfl) rfl rfl rfl ?_
              refine va rfl rfl ?_
              refine q_nil (k_then (q_ret ?_))
              refine e_ret rfl rfl ?_
              exact ⟨by rw [decide_eq_false hbad], hE⟩
      · refine vm rfl rfl ?_
        iterate 4 refine wl_gskip rfl rfl rfl rfl rfl rfl ?_
        refine wl_val (ov_pick_f rfl rfl) rfl rfl rfl ?_
        refine vm rfl rfl ?_
        iterate 4 refine wl_gskip rfl rfl rfl rfl rfl rfl ?_
        refine wl_val (ov_pick_f rfl rfl) rfl rfl rfl ?_
        refine vm rfl rfl ?_
        refine wl_gval (ov_field0 (off := 1) fo28_1 rfl) rfl rfl rfl rfl rfl ?_
        refine wl_gval (ov_loadAt oc23 rfl hb_g1 rfl) rfl rfl rfl rfl rfl ?_
        refine wl_gval (ov_eql rfl rfl) rfl rfl rfl rfl rfl ?_
        refine wl_spell (d := 95) rfl (bf (h79)) ?_
        refine wl_gval (ov_move rfl) rfl rfl rfl rfl rfl ?_
        iterate 4 refine wl_gskip rfl rfl rfl rfl rfl rfl ?_
        refine wl_gval (ov_pick_f rfl rfl) rfl rfl rfl rfl rfl ?_
        refine wl_gval (ov_move rfl) rfl rfl rfl rfl rfl ?_
        iterate 5 refine wl_gskip rfl rfl rfl rfl rfl rfl ?_
        iterate 4 refine wl_gskipU rfl rfl rfl rfl rfl ?_
        refine wl_gskip rfl rfl rfl rfl rfl rfl ?_
        refine wl_gval (ov_pick_f rfl rfl) rfl rfl rfl rfl rfl ?_
        refine wl_val (ov_pick_f rfl rfl) rfl rfl rfl ?_
        refine q_nil (k_then ?_)
        refine wc_cond_f rfl ?_
        refine q_skip (k_then (wc_seq (wc_regionL ?_)))
        refine wl_val (ov_field0 (off := 4) fo28_4 rfl) rfl rfl rfl ?_
        refine wl_val (ov_loadAt oc3 rfl hb_g1 rfl) rfl rfl rfl ?_
        refine wl_val (ov_geq rfl rfl) rfl rfl rfl ?_
        refine wl_case_d (d := 117) rfl (fun h117 => ?_) (fun h117 => ?_)
        · refine vm rfl rfl ?_
          refine wl_gval (ov_field0 (off := 4) fo28_4 rfl) rfl rfl rfl rfl rfl ?_
          refine wl_gval (ov_loadAt oc3 rfl hb_g1 rfl) rfl rfl rfl rfl rfl ?_
          refine wl_gval (ov_leq rfl rfl) rfl rfl rfl rfl rfl ?_
          refine wl_case_d (d := 121) rfl (fun h121 => ?_) (fun h121 => ?_)
          · refine wl_val (ov_pick_t rfl rfl) rfl rfl rfl ?_
            refine vm rfl rfl ?_
            refine wl_gval (ov_field0 (off := 5) fo28_5 rfl) rfl rfl rfl rfl rfl ?_
            refine wl_gval (ov_loadAt oc26 rfl hb_g1 rfl) rfl rfl rfl rfl rfl ?_
            refine wl_gval (ov_len Try.underlying26 rfl) rfl rfl rfl rfl rfl ?_
            refine wl_gval (ov_leq rfl rfl) rfl rfl rfl rfl rfl ?_
            refine wl_case_d (d := 127) rfl (fun h127 => ?_) (fun h127 => ?_)
            · have hgood : RV r := ⟨by omega, by omega, by omega, by omega, by omega, heq, hall, by omega, by omega, by omega, by omega, by omega⟩
              refine wl_val (ov_pick_t rfl rfl) rfl rfl rfl ?_
              refine va rfl rfl ?_
              refine q_nil (k_then (q_ret ?_))
              refine e_ret rfl rfl ?_
              exact ⟨by rw [decide_eq_true hgood], hE⟩
            · have hbad : ¬ RV r := fun q => by have := q.nums; omega
              refine wl_val (ov_pick_t rfl rfl) rfl rfl rfl ?_
              refine va rfl rfl ?_
              refine q_nil (k_then (q_ret ?_))
              refine e_ret rfl rfl ?_
              exact ⟨by rw [decide_eq_false hbad], hE⟩
          · have hbad : ¬ RV r := fun q => by have := q.c2; omega
            refine wl_val (ov_pick_t rfl rfl) rfl rfl rfl ?_
            refine vm rfl rfl ?_
            iterate 4 refine wl_gskip rfl rfl rfl rfl rfl rfl ?_
            refine wl_val (ov_pick_f rfl rfl) rfl rfl rfl ?_
            refine va rfl rfl ?_
            refine q_nil (k_then (q_ret ?_))
            refine e_ret rfl rfl ?_
            exact ⟨by rw [decide_eq_false hbad], hE⟩
        · have hbad : ¬ RV r := fun q => by have := q.c1; omega
          refine vm rfl rfl ?_
          iterate 3 refine wl_gskip rfl rfl rfl rfl rfl rfl ?_
          refine wl_val (ov_pick_f rfl rfl) rfl rfl rfl ?_
          refine vm rfl rfl ?_
          iterate 4 refine wl_gskip rfl rfl rfl rfl rfl rfl ?_
          refine wl_val (ov_pick_f rfl rfl) rfl rfl rfl ?_
          refine va rfl rfl ?_
          refine q_nil (k_then (q_ret ?_))
          refine e_ret rfl rfl ?_
          exact ⟨by rw [decide_eq_false hbad], hE⟩

theorem rv8_i (w : World) (r : Rsp) (xs : List IT) (hv : vals xs = r.items) (lo hi : Nat) (X : Option Addr) (cx : Nat) (N : Option Addr) (cn : Nat) (hx : RdI w lo hi X cx xs) (hn : RdN w lo hi N cn r.nums) (h1 : 0 ≤ r.op) (h2 : r.op ≤ 15) (h3 : 0 ≤ r.err) (h4 : r.err ≤ 100000) (h5 : ¬ r.op = 0) (heq : r = onlyR r) :
    Fn Try.prog 10 #[(.agg #[(.int .i64 r.op), (.int .i64 r.err), (.slice X r.items.length cx), (.int .u64 (↑r.ver : Int)), (.int .i64 r.count), (.slice N r.nums.length cn)])] w (fun v w' => v = .bool (decide (RV r)) ∧ Ext w w')  := by
  replace hx := hx.top
  replace hn := Rd.top hn
  have hE := ext_refl w
  obtain ⟨hi, hh1⟩ : ∃ n, n = w.heap.size := ⟨_, rfl⟩
  rw [← hh1] at hx hn
  have hvl := vals_len xs
  rw [hv] at hvl
  have hcx := hx.1.2.1
  have hcx1 := hx.1.1
  have hcn := hn.2.1
  have hcn1 := hn.1
  simp only [maxLen] at hcx hcn
  refine fn_enter (args := [(.agg #[(.int .i64 r.op), (.int .i64 r.err), (.slice X r.items.length cx), (.int .u64 (↑r.ver : Int)), (.int .i64 r.count), (.slice N r.nums.length cn)])]) Try.func10 rfl rfl rfl ?_
  show WC _ _ _ _ [(0, (.agg #[(.int .i64 r.op), (.int .i64 r.err), (.slice X r.items.length cx), (.int .u64 (↑r.ver : Int)), (.int .i64 r.count), (.slice N r.nums.length cn)]))] _
  refine wc_seq (wc_regionL ?_)
  refine wl_step (or_box (cs := [(.int .i64 r.op), (.int .i64 r.err), (.slice X r.items.length cx), (.int .u64 (↑r.ver : Int)), (.int .i64 r.count), (.slice N r.nums.length cn)]) rfl rfl) rfl rfl rfl ?_
  rintro v w1 ⟨g1, rfl, hb_g1, he1, hl1, hu1⟩
  replace hx := RdI.ext hx he1
  replace hn := hn.ext he1
  replace hE := hE.tr he1
  have hz_he1 := he1.size
  refine va rfl rfl ?_
  refine q_nil (k_then (wc_seq (wc_seq ?_)))
  refine wc_draw mixed 32 [(5, eqv (.pointer (some ⟨g1, 0, none⟩))), (6, eqv (.int .i64 r.op)), (7, eqv (.bool false)), (8, eqv (.bool false)), (9, eqv (.pointer (some ⟨g1, 0, none⟩))), (10, eqv (.int .i64 r.op)), (11, eqv (.bool false)), (12, eqv (.bool false)), (13, eqv (.bool false)), (14, eqv (.pointer (some ⟨g1, 1, none⟩))), (15, eqv (.int .i64 r.err)), (16, eqv (.bool false)), (17, eqv (.bool false)), (18, eqv (.bool false)), (19, eqv (.pointer (some ⟨g1, 1, none⟩))), (20, eqv (.int .i64 r.err)), (21, eqv (.bool false)), (22, eqv (.bool false)), (23, eqv (.bool false)), (24, eqv (.pointer (some ⟨g1, 0, none⟩))), (25, eqv (.int .i64 r.op)), (26, eqv (.bool false)), (27, eqv (.bool false)), (28, eqv undef), (29, eqv undef), (30, eqv undef), (31, eqv (.bool false)), (32, eqv (.bool false)), (33, eqv (.bool false)), (34, eqv (.agg #[(.int .i64 r.op), (.int .i64 r.err), (.slice X r.items.length cx), (.int .u64 (↑r.ver : Int)), (.int .i64 r.count), (.slice N r.nums.length cn)])), (35, eqv (.agg #[(.int .i64 r.op), (.int .i64 r.err), (.slice X r.items.length cx), (.int .u64 (↑r.ver : Int)), (.int .i64 r.count), (.slice N r.nums.length cn)])), (36, (fun v w => ∃ xs36 X36 cx36 N36 cn36, v = .agg (rspc (onlyR r) X36 cx36 N36 cn36).toArray ∧ vals xs36 = (onlyR r).items ∧ RdI w lo hi X36 cx36 xs36 ∧ RdN w lo hi N36 cn36 (onlyR r).nums))] [[], [0], [1], [2], [3], [3, 4], [3, 5], [3, 6], [7], [8], [8, 9], [8, 10], [8, 11], [12], [13], [13, 14], [13, 15], [13, 16], [17], [18], [18, 19], [18, 20], [18, 21], [22], [22, 23], [22, 24], [18, 22, 25], [18, 26], [27], [28], [28], [28, 30]] _ [] [] (fun _ _ h => h) trivial (by kernel_rfl) rfl ⟨⟨stb_eqv _, fun _ he => by cases he⟩, ⟨stb_eqv _, fun _ he => by cases he⟩, ⟨stb_eqv _, fun _ he => by cases he⟩, ⟨stb_eqv _, fun _ he => by cases he⟩, ⟨stb_eqv _, fun _ he => by cases he⟩, ⟨stb_eqv _, fun _ he => by cases he⟩, ⟨stb_eqv _, fun _ he => by cases he⟩, ⟨stb_eqv _, fun _ he => by cases he⟩, ⟨stb_eqv _, fun _ he => by cases he⟩, ⟨stb_eqv _, fun _ he => by cases he⟩, ⟨stb_eqv _, fun _ he => by cases he⟩, ⟨stb_eqv _, fun _ he => by cases he⟩, ⟨stb_eqv _, fun _ he => by cases he⟩, ⟨stb_eqv _, fun _ he => by cases he⟩, ⟨stb_eqv _, fun _ he => by cases he⟩, ⟨stb_eqv _, fun _ he => by cases he⟩, ⟨stb_eqv _, fun _ he => by cases he⟩, ⟨stb_eqv _, fun _ he => by cases he⟩, ⟨stb_eqv _, fun _ he => by cases he⟩, ⟨stb_eqv _, fun _ he => by cases he⟩, ⟨stb_eqv _, fun _ he => by cases he⟩, ⟨stb_eqv _, fun _ he => by cases he⟩, ⟨stb_eqv _, fun _ he => by cases he⟩, ⟨stb_eqv _, fun _ he => by cases he⟩, ⟨stb_eqv _, fun _ he => by cases he⟩, ⟨stb_eqv _, fun _ he => by cases he⟩, ⟨stb_eqv _, fun _ he => by cases he⟩, ⟨stb_eqv _, fun _ he => by cases he⟩, ⟨stb_eqv _, fun _ he => by cases he⟩, ⟨stb_eqv _, fun _ he => by cases he⟩, ⟨stb_eqv _, fun _ he => by cases he⟩, ⟨(fun v w1 w2 ⟨a, b, c, d, e, hv, h1, h2, h3⟩ he => ⟨a, b, c, d, e, hv, h1, h2.ext he, Rd.ext h3 he⟩), fun _ he => by cases he⟩, trivial⟩ ⟨?_, ?_, ?_, ?_, ?_, ?_, ?_, ?_, ?_, ?_, ?_, ?_, ?_, ?_, ?_, ?_, ?_, ?_, ?_, ?_, ?_, ?_, ?_, ?_, ?_, ?_, ?_, ?_, ?_, ?_, ?_, ?_, trivial⟩ ?_
  · intro wd hxE
    replace hx := RdI.ext hx hxE
    replace hn := hn.ext hxE
    replace hE := hE.tr hxE
    replace hb_g1 := hb_g1.ext hxE
    have hz_hxE := hxE.size
    show OpG _ _ _ _ _ _
    exact og_plain rfl (ox_val (ov_field0 (off := 0) fo28_0 rfl))
  · intro wd hxE
    replace hx := RdI.ext hx hxE
    replace hn := hn.ext hxE
    replace hE := hE.tr hxE
    replace hb_g1 := hb_g1.ext hxE
    have hz_hxE := hxE.size
    rintro _ rfl
    show OpG _ _ _ _ _ _
    exact og_plain rfl (ox_val (ov_loadAt oc22 rfl hb_g1 rfl))
  · intro wd hxE
    replace hx := RdI.ext hx hxE
    replace hn := hn.ext hxE
    replace hE := hE.tr hxE
    replace hb_g1 := hb_g1.ext hxE
    have hz_hxE := hxE.size
    rintro _ rfl
    show OpG _ _ _ _ _ _
    exact og_plain rfl (ox_F (by omega) (ov_lss rfl rfl))
  · intro wd hxE
    replace hx := RdI.ext hx hxE
    replace hn := hn.ext hxE
    replace hE := hE.tr hxE
    replace hb_g1 := hb_g1.ext hxE
    have hz_hxE := hxE.size
    rintro _ rfl
    show OpG _ _ _ _ _ _
    exact og_plain rfl (ox_val (ov_move rfl))
  · intro wd hxE
    replace hx := RdI.ext hx hxE
    replace hn := hn.ext hxE
    replace hE := hE.tr hxE
    replace hb_g1 := hb_g1.ext hxE
    have hz_hxE := hxE.size
    rintro _ rfl
    show OpG _ _ _ _ _ _
    exact og_on rfl rfl rfl (ox_val (ov_field0 (off := 0) fo28_0 rfl))
  · intro wd hxE
    replace hx := RdI.ext hx hxE
    replace hn := hn.ext hxE
    replace hE := hE.tr hxE
    replace hb_g1 := hb_g1.ext hxE
    have hz_hxE := hxE.size
    rintro _ rfl
    rintro _ rfl
    show OpG _ _ _ _ _ _
    exact og_on rfl rfl rfl (ox_val (ov_loadAt oc22 rfl hb_g1 rfl))
  · intro wd hxE
    replace hx := RdI.ext hx hxE
    replace hn := hn.ext hxE
    replace hE := hE.tr hxE
    replace hb_g1 := hb_g1.ext hxE
    have hz_hxE := hxE.size
    rintro _ rfl
    rintro _ rfl
    show OpG _ _ _ _ _ _
    exact og_on rfl rfl rfl (ox_F (by omega) (ov_gtr rfl rfl))
  · intro wd hxE
    replace hx := RdI.ext hx hxE
    replace hn := hn.ext hxE
    replace hE := hE.tr hxE
    replace hb_g1 := hb_g1.ext hxE
    have hz_hxE := hxE.size
    rintro _ rfl
    rintro _ rfl
    show OpG _ _ _ _ _ _
    exact og_plain rfl (ox_val (ov_pick_f rfl rfl))
  · intro wd hxE
    replace hx := RdI.ext hx hxE
    replace hn := hn.ext hxE
    replace hE := hE.tr hxE
    replace hb_g1 := hb_g1.ext hxE
    have hz_hxE := hxE.size
    rintro _ rfl
    show OpG _ _ _ _ _ _
    exact og_plain rfl (ox_val (ov_move rfl))
  · intro wd hxE
    replace hx := RdI.ext hx hxE
    replace hn := hn.ext hxE
    replace hE := hE.tr hxE
    replace hb_g1 := hb_g1.ext hxE
    have hz_hxE := hxE.size
    rintro _ rfl
    show OpG _ _ _ _ _ _
    exact og_on rfl rfl rfl (ox_val (ov_field0 (off := 1) fo28_1 rfl))
  · intro wd hxE
    replace hx := RdI.ext hx hxE
    replace hn := hn.ext hxE
    replace hE := hE.tr hxE
    replace hb_g1 := hb_g1.ext hxE
    have hz_hxE := hxE.size
    rintro _ rfl
    rintro _ rfl
    show OpG _ _ _ _ _ _
    exact og_on rfl rfl rfl (ox_val (ov_loadAt oc23 rfl hb_g1 rfl))
  · intro wd hxE
    replace hx := RdI.ext hx hxE
    replace hn := hn.ext hxE
    replace hE := hE.tr hxE
    replace hb_g1 := hb_g1.ext hxE
    have hz_hxE := hxE.size
    rintro _ rfl
    rintro _ rfl
    show OpG _ _ _ _ _ _
    exact og_on rfl rfl rfl (ox_F (by omega) (ov_lss rfl rfl))
  · intro wd hxE
    replace hx := RdI.ext hx hxE
    replace hn := hn.ext hxE
    replace hE := hE.tr hxE
    replace hb_g1 := hb_g1.ext hxE
    have hz_hxE := hxE.size
    rintro _ rfl
    rintro _ rfl
    show OpG _ _ _ _ _ _
    exact og_plain rfl (ox_val (ov_pick_f rfl rfl))
  · intro wd hxE
    replace hx := RdI.ext hx hxE
    replace hn := hn.ext hxE
    replace hE := hE.tr hxE
    replace hb_g1 := hb_g1.ext hxE
    have hz_hxE := hxE.size
    rintro _ rfl
    show OpG _ _ _ _ _ _
    exact og_plain rfl (ox_val (ov_move rfl))
  · intro wd hxE
    replace hx := RdI.ext hx hxE
    replace hn := hn.ext hxE
    replace hE := hE.tr hxE
    replace hb_g1 := hb_g1.ext hxE
    have hz_hxE := hxE.size
    rintro _ rfl
    show OpG _ _ _ _ _ _
    exact og_on rfl rfl rfl (ox_val (ov_field0 (off := 1) fo28_1 rfl))
  · intro wd hxE
    replace hx := RdI.ext hx hxE
    replace hn := hn.ext hxE
    replace hE := hE.tr hxE
    replace hb_g1 := hb_g1.ext hxE
    have hz_hxE := hxE.size
    rintro _ rfl
    rintro _ rfl
    show OpG _ _ _ _ _ _
    exact og_on rfl rfl rfl (ox_val (ov_loadAt oc23 rfl hb_g1 rfl))
  · intro wd hxE
    replace hx := RdI.ext hx hxE
    replace hn := hn.ext hxE
    replace hE := hE.tr hxE
    replace hb_g1 := hb_g1.ext hxE
    have hz_hxE := hxE.size
    rintro _ rfl
    rintro _ rfl
    show OpG _ _ _ _ _ _
    exact og_on rfl rfl rfl (ox_F (by omega) (ov_gtr rfl rfl))
  · intro wd hxE
    replace hx := RdI.ext hx hxE
    replace hn := hn.ext hxE
    replace hE := hE.tr hxE
    replace hb_g1 := hb_g1.ext hxE
    have hz_hxE := hxE.size
    rintro _ rfl
    rintro _ rfl
    show OpG _ _ _ _ _ _
    exact og_plain rfl (ox_val (ov_pick_f rfl rfl))
  · intro wd hxE
    replace hx := RdI.ext hx hxE
    replace hn := hn.ext hxE
    replace hE := hE.tr hxE
    replace hb_g1 := hb_g1.ext hxE
    have hz_hxE := hxE.size
    rintro _ rfl
    show OpG _ _ _ _ _ _
    exact og_plain rfl (ox_val (ov_move rfl))
  · intro wd hxE
    replace hx := RdI.ext hx hxE
    replace hn := hn.ext hxE
    replace hE := hE.tr hxE
    replace hb_g1 := hb_g1.ext hxE
    have hz_hxE := hxE.size
    rintro _ rfl
    show OpG _ _ _ _ _ _
    exact og_on rfl rfl rfl (ox_val (ov_field0 (off := 0) fo28_0 rfl))
  · intro wd hxE
    replace hx := RdI.ext hx hxE
    replace hn := hn.ext hxE
    replace hE := hE.tr hxE
    replace hb_g1 := hb_g1.ext hxE
    have hz_hxE := hxE.size
    rintro _ rfl
    rintro _ rfl
    show OpG _ _ _ _ _ _
    exact og_on rfl rfl rfl (ox_val (ov_loadAt oc22 rfl hb_g1 rfl))
  · intro wd hxE
    replace hx := RdI.ext hx hxE
    replace hn := hn.ext hxE
    replace hE := hE.tr hxE
    replace hb_g1 := hb_g1.ext hxE
    have hz_hxE := hxE.size
    rintro _ rfl
    rintro _ rfl
    show OpG _ _ _ _ _ _
    exact og_on rfl rfl rfl (ox_F (by omega) (ov_eql rfl rfl))
  · intro wd hxE
    replace hx := RdI.ext hx hxE
    replace hn := hn.ext hxE
    replace hE := hE.tr hxE
    replace hb_g1 := hb_g1.ext hxE
    have hz_hxE := hxE.size
    rintro _ rfl
    rintro _ rfl
    show OpG _ _ _ _ _ _
    exact og_on rfl rfl rfl (ox_val (ov_move rfl))
  · intro wd hxE
    replace hx := RdI.ext hx hxE
    replace hn := hn.ext hxE
    replace hE := hE.tr hxE
    replace hb_g1 := hb_g1.ext hxE
    have hz_hxE := hxE.size
    rintro _ rfl
    show OpG _ _ _ _ _ _
    exact og_off rfl rfl rfl rfl ⟨rfl, ext_refl _⟩
  · intro wd hxE
    replace hx := RdI.ext hx hxE
    replace hn := hn.ext hxE
    replace hE := hE.tr hxE
    replace hb_g1 := hb_g1.ext hxE
    have hz_hxE := hxE.size
    rintro _ rfl
    rintro _ rfl
    show OpG _ _ _ _ _ _
    exact og_off rfl rfl rfl rfl ⟨rfl, ext_refl _⟩
  · intro wd hxE
    replace hx := RdI.ext hx hxE
    replace hn := hn.ext hxE
    replace hE := hE.tr hxE
    replace hb_g1 := hb_g1.ext hxE
    have hz_hxE := hxE.size
    rintro _ rfl
    rintro _ rfl
    show OpG _ _ _ _ _ _
    exact og_off rfl rfl rfl rfl ⟨rfl, ext_refl _⟩
  · intro wd hxE
    replace hx := RdI.ext hx hxE
    replace hn := hn.ext hxE
    replace hE := hE.tr hxE
    replace hb_g1 := hb_g1.ext hxE
    have hz_hxE := hxE.size
    rintro _ rfl
    rintro _ rfl
    rintro _ rfl
    show OpG _ _ _ _ _ _
    exact og_on rfl rfl rfl (ox_val (ov_pick_f rfl rfl))
  · intro wd hxE
    replace hx := RdI.ext hx hxE
    replace hn := hn.ext hxE
    replace hE := hE.tr hxE
    replace hb_g1 := hb_g1.ext hxE
    have hz_hxE := hxE.size
    rintro _ rfl
    rintro _ rfl
    show OpG _ _ _ _ _ _
    exact og_plain rfl (ox_val (ov_pick_f rfl rfl))
  · intro wd hxE
    replace hx := RdI.ext hx hxE
    replace hn := hn.ext hxE
    replace hE := hE.tr hxE
    replace hb_g1 := hb_g1.ext hxE
    have hz_hxE := hxE.size
    rintro _ rfl
    show OpG _ _ _ _ _ _
    exact og_plain rfl (ox_val (ov_move rfl))
  · intro wd hxE
    replace hx := RdI.ext hx hxE
    replace hn := hn.ext hxE
    replace hE := hE.tr hxE
    replace hb_g1 := hb_g1.ext hxE
    have hz_hxE := hxE.size
    rintro _ rfl
    show OpG _ _ _ _ _ _
    exact og_on rfl rfl rfl (ox_val (ov_loadBlk (cs := [(.int .i64 r.op), (.int .i64 r.err), (.slice X r.items.length cx), (.int .u64 (↑r.ver : Int)), (.int .i64 r.count), (.slice N r.nums.length cn)]) ag28_6 rfl hb_g1))
  · intro wd hxE
    replace hx := RdI.ext hx hxE
    replace hn := hn.ext hxE
    replace hE := hE.tr hxE
    replace hb_g1 := hb_g1.ext hxE
    have hz_hxE := hxE.size
    rintro _ rfl
    show OpG _ _ _ _ _ _
    exact og_on rfl rfl rfl (ox_val (ov_loadBlk (cs := [(.int .i64 r.op), (.int .i64 r.err), (.slice X r.items.length cx), (.int .u64 (↑r.ver : Int)), (.int .i64 r.count), (.slice N r.nums.length cn)]) ag28_6 rfl hb_g1))
  · intro wd hxE
    replace hx := RdI.ext hx hxE
    replace hn := hn.ext hxE
    replace hE := hE.tr hxE
    replace hb_g1 := hb_g1.ext hxE
    have hz_hxE := hxE.size
    rintro _ rfl
    rintro _ rfl
    show OpG _ _ _ _ _ _
    refine og_on rfl rfl rfl (OpRun.mono (or_call0 cl25 rfl rfl (only8_any _ r xs hv lo hi X cx N cn hx hn (by omega))) ?_)
    rintro v w2 ⟨xs36, X36, cx36, N36, cn36, rfl, hv36, hx36, hn36, he36⟩
    replace hx := RdI.ext hx he36
    replace hn := hn.ext he36
    replace hE := hE.tr he36
    replace hb_g1 := hb_g1.ext he36
    have hz_he36 := he36.size
    exact ⟨⟨xs36, X36, cx36, N36, cn36, rfl, hv36, hx36, hn36⟩, he36⟩
  · intro wf1 hf1
    replace hx := RdI.ext hx hf1
    replace hn := hn.ext hf1
    replace hE := hE.tr hf1
    replace hb_g1 := hb_g1.ext hf1
    have hz_hf1 := hf1.size
    rintro _ rfl
    rintro _ rfl
    rintro _ rfl
    rintro _ rfl
    rintro _ rfl
    rintro _ rfl
    rintro _ rfl
    rintro _ rfl
    rintro _ rfl
    rintro _ rfl
    rintro _ rfl
    rintro _ rfl
    rintro _ rfl
    rintro _ rfl
    rintro _ rfl
    rintro _ rfl
    rintro _ rfl
    rintro _ rfl
    rintro _ rfl
    rintro _ rfl
    rintro _ rfl
    rintro _ rfl
    rintro _ rfl
    rintro _ rfl
    rintro _ rfl
    rintro _ rfl
    rintro _ rfl
    rintro _ rfl
    rintro _ rfl
    rintro _ rfl
    rintro _ rfl
    rintro _ ⟨xs36, X36, cx36, N36, cn36, rfl, hv36, hx36, hn36⟩
    show WL _ _ _ [_, _, _] _ _ _
    refine wl_gstep (or_call0 cl14 rfl rfl (req8_any _ r xs hv _ _ X cx N cn hx hn (onlyR r) xs36 hv36 _ _ X36 cx36 N36 cn36 hx36 hn36)) rfl rfl rfl rfl rfl ?_
    rintro v w2 ⟨rfl, he37⟩
    replace hx := RdI.ext hx he37
    replace hn := hn.ext he37
    replace hE := hE.tr he37
    replace hb_g1 := hb_g1.ext he37
    replace hx36 := RdI.ext hx36 he37
    replace hn36 := hn36.ext he37
    have hz_he37 := he37.size
    refine wl_spell (d := 37) rfl (bt (heq)) ?_
    refine wl_gval (ov_not (b := true) rfl) rfl rfl rfl rfl rfl ?_
    refine wl_val (ov_pick_f rfl rfl) rfl rfl rfl ?_
    refine q_nil (k_then ?_)
    refine wc_cond_f rfl ?_
    refine q_skip (k_then (wc_seq (wc_seq (wc_regionL ?_))))
    refine va rfl rfl ?_
    refine q_nil (k_then (wc_block ?_))
    refine wc_loop (σ := Nat) (fun i => r.items.length - i) (fun i => [(1, .pointer (some ⟨g1, 0, none⟩)), (3, .int .i64 (i : Int))]) (fun i w' => i ≤ r.items.length ∧ (r.items.take i).all okV = true ∧ Blk w' g1 28 (rspc r X cx N cn) ∧ RdI w' lo hi X cx xs ∧ RdN w' lo hi N cn r.nums ∧ Ext w w') (0) (⟨Nat.zero_le _, rfl, hb_g1, hx, hn, hE⟩) (⟨rfl, rfl, trivial⟩) ?_
    rintro i wq ⟨hi0, hall, hb_g1, hx, hn, hE⟩
    show WC _ _ _ _ [(1, (.pointer (some ⟨g1, 0, none⟩))), (3, (.int .i64 (↑i : Int)))] _
    have hz_E := hE.size
    have hz1 := hb_g1.lt
    refine wc_seq (wc_seq (wc_regionL ?_))
    refine vm rfl rfl ?_
    refine wl_val (ov_field0 (off := 2) fo28_2 rfl) rfl rfl rfl ?_
    refine wl_val (ov_loadAt oc24 rfl hb_g1 rfl) rfl rfl rfl ?_
    refine wl_val (ov_len Try.underlying24 rfl) rfl rfl rfl ?_
    refine wl_val (ov_lss rfl rfl) rfl rfl rfl ?_
    refine q_nil (k_then ?_)
    refine wc_cond_d rfl (fun hc2 => ?_) (fun hc2 => ?_)
    · obtain ⟨x, hk⟩ : ∃ s, xs[i]? = some s := ⟨_, List.getElem?_eq_getElem (by omega)⟩
      have hki := vals_at hv hk
      refine q_skip (k_then (wc_seq (wc_block (wc_seq (wc_regionL ?_)))))
      refine wl_val (ov_field0 (off := 2) fo28_2 rfl) rfl rfl rfl ?_
      refine wl_val (ov_loadAt oc24 rfl hb_g1 rfl) rfl rfl rfl ?_
      refine wl_spell (d := 48) rfl (v' := (.slice X xs.length cx)) (by rw [← hv, vals_len]) ?_
      refine vm rfl rfl ?_
      refine wl_step (or_rindex (m := (i)) sl24 rfl rfl hx.1 (fun _ _ => rfl) hk) rfl rfl rfl ?_
      rintro v _ ⟨rfl, p50, rfl, hp50, hpl50, hph50⟩
      refine wl_val (ov_loadAgg (cs := [(.int .i64 x.1.mark), (.slice x.2.1 x.1.value.length x.2.2), (.int .u64 (↑x.1.ver : Int)), (.int .u64 (↑x.1.dead : Int))]) ag53_4 rfl rfl hp50) rfl rfl rfl ?_
      refine wl_step (or_alloc (cs := [(.int .i64 0), (.slice none 0 0), (.int .u64 0), (.int .u64 0)]) ze53 rfl) rfl rfl rfl ?_
      rintro v w3 ⟨g4, rfl, hb_g4, he4, hl4, hu4⟩
      replace hx := RdI.ext hx he4
      replace hn := hn.ext he4
      replace hE := hE.tr he4
      replace hb_g1 := hb_g1.ext he4
      have hz_he4 := he4.size
      refine wl_step0 (or_storeBlk (vs := [(.int .i64 x.1.mark), (.slice x.2.1 x.1.value.length x.2.2), (.int .u64 (↑x.1.ver : Int)), (.int .u64 (↑x.1.dead : Int))]) sz53 rfl rfl (by simp [Value.oneCell']) hb_g4 rfl) rfl rfl ?_
      rintro _ w4 ⟨hN4, hg4⟩
      have hz_hg4 := hg4.size
      replace hx := RdI.gr hx hg4 (fun _ e => by cases e; omega)
      replace hn := hn.gr hg4 (fun _ e => by cases e; omega)
      replace hE := hE.gr hg4 (fun _ e => by cases e; omega)
      replace hb_g1 := hb_g1.gr hg4 (by intro e; cases e; omega)
      replace hb_g4 := hN4
      refine q_nil (k_then (wc_seq (wc_regionL ?_)))
      refine wl_val (ov_field0 (off := 0) fo53_0 rfl) rfl rfl rfl ?_
      refine wl_val (ov_loadAt oc50 rfl hb_g4 rfl) rfl rfl rfl ?_
      refine ve rfl rfl rfl ?_
      refine wl_case_d (d := 54) rfl (fun h54 => ?_) (fun h54 => ?_)
      · refine vm rfl rfl ?_
        refine wl_gval (ov_loadBlk (cs := [(.int .i64 x.1.mark), (.slice x.2.1 x.1.value.length x.2.2), (.int .u64 (↑x.1.ver : Int)), (.int .u64 (↑x.1.dead : Int))]) ag53_4 rfl hb_g4) rfl rfl rfl rfl rfl ?_
        refine wl_gval (ov_build (cs := [(.int .i64 0), (.slice none 0 0), (.int .u64 0), (.int .u64 0)]) ze53 pl53 rfl rfl) rfl rfl rfl rfl rfl ?_
        refine wl_gstep (or_call0 cl26 rfl rfl (iref_any _ x.1 zI _ _ _ _ _ _ _ _ (hx.2 x (List.mem_of_getElem? hk)) (RdB.nil _ 0 0))) rfl rfl rfl rfl rfl ?_
        rintro v w5 ⟨rfl, he58⟩
        replace hx := RdI.ext hx he58
        replace hn := hn.ext he58
        replace hE := hE.tr he58
        replace hb_g1 := hb_g1.ext he58
        replace hb_g4 := hb_g4.ext he58
        have hz_he58 := he58.size
        refine wl_gval (ov_not rfl) rfl rfl rfl rfl rfl ?_
        refine wl_spell (d := 59) rfl (v' := (.bool (decide (¬ x.1 = zI)))) (by by_cases h : x.1 = zI <;> simp [h]) ?_
        refine wl_case_d (d := 59) rfl (fun h59 => ?_) (fun h59 => ?_)
        · have hxf : okV x.1 = false := decide_eq_false (fun q => q.1 ⟨h54, h59⟩)
          have hbad : ¬ RV r := fun q => okV_not (List.mem_of_getElem? hki) hxf q.items
          refine wl_val (ov_pick_t rfl rfl) rfl rfl rfl ?_
          refine vm rfl rfl ?_
          iterate 3 refine wl_gskip rfl rfl rfl rfl rfl rfl ?_
          refine wl_val (ov_pick_t rfl rfl) rfl rfl rfl ?_
          refine vm rfl rfl ?_
          iterate 3 refine wl_gskip rfl rfl rfl rfl rfl rfl ?_
          refine wl_val (ov_pick_t rfl rfl) rfl rfl rfl ?_
          refine vm rfl rfl ?_
          iterate 4 refine wl_gskip rfl rfl rfl rfl rfl rfl ?_
          refine wl_val (ov_pick_t rfl rfl) rfl rfl rfl ?_
          refine q_nil (k_then ?_)
          refine wc_cond_t rfl ?_
          refine wc_seq (wc_regionL ?_)
          refine va rfl rfl ?_
          refine q_nil (k_then (q_ret (k_blockR (k_thenR (k_thenR (k_blockR (k_thenR ?_)))))))
          refine e_ret rfl rfl ?_
          exact ⟨by rw [decide_eq_false hbad], hE⟩
        · have hz59 := Decidable.not_not.1 h59
          refine wl_val (ov_pick_t rfl rfl) rfl rfl rfl ?_
          refine vm rfl rfl ?_
          refine wl_gval (ov_field0 (off := 0) fo53_0 rfl) rfl rfl rfl rfl rfl ?_
          refine wl_gval (ov_loadAt oc50 rfl hb_g4 rfl) rfl rfl rfl rfl rfl ?_
          refine wl_gval (ov_lss rfl rfl) rfl rfl rfl rfl rfl ?_
          refine wl_case_d (d := 64) rfl (fun h64 => ?_) (fun h64 => ?_)
          · have hxf : okV x.1 = false := decide_eq_false (fun q => by have q2 := q.2; omega)
            have hbad : ¬ RV r := fun q => okV_not (List.mem_of_getElem? hki) hxf q.items
            refine wl_val (ov_pick_f rfl rfl) rfl rfl rfl ?_
            refine vm rfl rfl ?_
            iterate 3 refine wl_gskip rfl rfl rfl rfl rfl rfl ?_
            refine wl_val (ov_pick_t rfl rfl) rfl rfl rfl ?_
            refine vm rfl rfl ?_
            iterate 4 refine wl_gskip rfl rfl rfl rfl rfl rfl ?_
            refine wl_val (ov_pick_t rfl rfl) rfl rfl rfl ?_
            refine q_nil (k_then ?_)
            refine wc_cond_t rfl ?_
            refine wc_seq (wc_regionL ?_)
            refine va rfl rfl ?_
            refine q_nil (k_then (q_ret (k_blockR (k_thenR (k_thenR (k_blockR (k_thenR ?_)))))))
            refine e_ret rfl rfl ?_
            exact ⟨by rw [decide_eq_false hbad], hE⟩
          · refine wl_val (ov_pick_f rfl rfl) rfl rfl rfl ?_
            refine vm rfl rfl ?_
            refine wl_gval (ov_field0 (off := 0) fo53_0 rfl) rfl rfl rfl rfl rfl ?_
            refine wl_gval (ov_loadAt oc50 rfl hb_g4 rfl) rfl rfl rfl rfl rfl ?_
            refine wl_gval (ov_gtr rfl rfl) rfl rfl rfl rfl rfl ?_
            refine wl_case_d (d := 69) rfl (fun h69 => ?_) (fun h69 => ?_)
            · have hxf : okV x.1 = false := decide_eq_false (fun q => by have q2 := q.2; omega)
              have hbad : ¬ RV r := fun q => okV_not (List.mem_of_getElem? hki) hxf q.items
              refine wl_val (ov_pick_f rfl rfl) rfl rfl rfl ?_
              refine vm rfl rfl ?_
              iterate 4 refine wl_gskip rfl rfl rfl rfl rfl rfl ?_
              refine wl_val (ov_pick_t rfl rfl) rfl rfl rfl ?_
              refine q_nil (k_then ?_)
              refine wc_cond_t rfl ?_
              refine wc_seq (wc_regionL ?_)
              refine va rfl rfl ?_
              refine q_nil (k_then (q_ret (k_blockR (k_thenR (k_thenR (k_blockR (k_thenR ?_)))))))
              refine e_ret rfl rfl ?_
              exact ⟨by rw [decide_eq_false hbad], hE⟩
            · refine wl_val (ov_pick_f rfl rfl) rfl rfl rfl ?_
              refine vm rfl rfl ?_
              refine wl_gval (ov_field0 (off := 1) fo53_1 rfl) rfl rfl rfl rfl rfl ?_
              refine wl_gval (ov_loadAt oc32 rfl hb_g4 rfl) rfl rfl rfl rfl rfl ?_
              refine wl_gval (ov_len Try.underlying32 rfl) rfl rfl rfl rfl rfl ?_
              refine wl_gval (ov_gtr rfl rfl) rfl rfl rfl rfl rfl ?_
              refine wl_case_d (d := 75) rfl (fun h75 => ?_) (fun h75 => ?_)
              · have hxf : okV x.1 = false := decide_eq_false (fun q => by have q2 := q.2; omega)
                have hbad : ¬ RV r := fun q => okV_not (List.mem_of_getElem? hki) hxf q.items
                refine wl_val (ov_pick_f rfl rfl) rfl rfl rfl ?_
                refine q_nil (k_then ?_)
                refine wc_cond_t rfl ?_
                refine wc_seq (wc_regionL ?_)
                refine va rfl rfl ?_
                refine q_nil (k_then (q_ret (k_blockR (k_thenR (k_thenR (k_blockR (k_thenR ?_)))))))
                refine e_ret rfl rfl ?_
                exact ⟨by rw [decide_eq_false hbad], hE⟩
              · have hxt : okV x.1 = true := decide_eq_true ⟨by first | exact fun q => q.2 hz59 | exact fun q => h54 q.1, by omega, by omega, by omega⟩
                refine wl_val (ov_pick_f rfl rfl) rfl rfl rfl ?_
                refine q_nil (k_then ?_)
                refine wc_cond_f rfl ?_
                refine q_skip (k_block (k_then (wc_regionL ?_)))
                refine vm rfl rfl ?_
                refine wl_val (ov_add rfl rfl (wi64 (by omega) (by omega))) rfl rfl rfl ?_
                refine va rfl rfl ?_
                refine q_nil ?_
                refine k_loop (i + 1) (by show r.items.length - (i + 1) < r.items.length - i; omega) (⟨rfl, rfl, trivial⟩) (⟨by omega, by rw [okV_take hki, hall, hxt]; rfl, hb_g1, hx, hn, hE⟩)
      · refine vm rfl rfl ?_
        iterate 4 refine wl_gskip rfl rfl rfl rfl rfl rfl ?_
        refine wl_val (ov_pick_f rfl rfl) rfl rfl rfl ?_
        refine vm rfl rfl ?_
        refine wl_gval (ov_field0 (off := 0) fo53_0 rfl) rfl rfl rfl rfl rfl ?_
        refine wl_gval (ov_loadAt oc50 rfl hb_g4 rfl) rfl rfl rfl rfl rfl ?_
        refine wl_gval (ov_lss rfl rfl) rfl rfl rfl rfl rfl ?_
        refine wl_case_d (d := 64) rfl (fun h64 => ?_) (fun h64 => ?_)
        · have hxf : okV x.1 = false := decide_eq_false (fun q => by have q2 := q.2; omega)
          have hbad : ¬ RV r := fun q => okV_not (List.mem_of_getElem? hki) hxf q.items
          refine wl_val (ov_pick_f rfl rfl) rfl rfl rfl ?_
          refine vm rfl rfl ?_
          iterate 3 refine wl_gskip rfl rfl rfl rfl rfl rfl ?_
          refine wl_val (ov_pick_t rfl rfl) rfl rfl rfl ?_
          refine vm rfl rfl ?_
          iterate 4 refine wl_gskip rfl rfl rfl rfl rfl rfl ?_
          refine wl_val (ov_pick_t rfl rfl) rfl rfl rfl ?_
          refine q_nil (k_then ?_)
          refine wc_cond_t rfl ?_
          refine wc_seq (wc_regionL ?_)
          refine va rfl rfl ?_
          refine q_nil (k_then (q_ret (k_blockR (k_thenR (k_thenR (k_blockR (k_thenR ?_)))))))
          refine e_ret rfl rfl ?_
          exact ⟨by rw [decide_eq_false hbad], hE⟩
        · refine wl_val (ov_pick_f rfl rfl) rfl rfl rfl ?_
          refine vm rfl rfl ?_
          refine wl_gval (ov_field0 (off := 0) fo53_0 rfl) rfl rfl rfl rfl rfl ?_
          refine wl_gval (ov_loadAt oc50 rfl hb_g4 rfl) rfl rfl rfl rfl rfl ?_
          refine wl_gval (ov_gtr rfl rfl) rfl rfl rfl rfl rfl ?_
          refine wl_case_d (d := 69) rfl (fun h69 => ?_) (fun h69 => ?_)
          · have hxf : okV x.1 = false := decide_eq_false (fun q => by have q2 := q.2; omega)
            have hbad : ¬ RV r := fun q => okV_not (List.mem_of_getElem? hki) hxf q.items
            refine wl_val (ov_pick_f rfl rfl) rfl rfl rfl ?_
            refine vm rfl rfl ?_
            iterate 4 refine wl_gskip rfl rfl rfl rfl rfl rfl ?_
            refine wl_val (ov_pick_t rfl rfl) rfl rfl rfl ?_
            refine q_nil (k_then ?_)
            refine wc_cond_t rfl ?_
            refine wc_seq (wc_regionL ?_)
            refine va rfl rfl ?_
            refine q_nil (k_then (q_ret (k_blockR (k_thenR (k_thenR (k_blockR (k_thenR ?_)))))))
            refine e_ret rfl rfl ?_
            exact ⟨by rw [decide_eq_false hbad], hE⟩
          · refine wl_val (ov_pick_f rfl rfl) rfl rfl rfl ?_
            refine vm rfl rfl ?_
            refine wl_gval (ov_field0 (off := 1) fo53_1 rfl) rfl rfl rfl rfl rfl ?_
            refine wl_gval (ov_loadAt oc32 rfl hb_g4 rfl) rfl rfl rfl rfl rfl ?_
            refine wl_gval (ov_len Try.underlying32 rfl) rfl rfl rfl rfl rfl ?_
            refine wl_gval (ov_gtr rfl rfl) rfl rfl rfl rfl rfl ?_
            refine wl_case_d (d := 75) rfl (fun h75 => ?_) (fun h75 => ?_)
            · have hxf : okV x.1 = false := decide_eq_false (fun q => by have q2 := q.2; omega)
              have hbad : ¬ RV r := fun q => okV_not (List.mem_of_getElem? hki) hxf q.items
              refine wl_val (ov_pick_f rfl rfl) rfl rfl rfl ?_
              refine q_nil (k_then ?_)
              refine wc_cond_t rfl ?_
              refine wc_seq (wc_regionL ?_)
              refine va rfl rfl ?_
              refine q_nil (k_then (q_ret (k_blockR (k_thenR (k_thenR (k_blockR (k_thenR ?_)))))))
              refine e_ret rfl rfl ?_
              exact ⟨by rw [decide_eq_false hbad], hE⟩
            · have hxt : okV x.1 = true := decide_eq_true ⟨by first | exact fun q => q.2 hz59 | exact fun q => h54 q.1, by omega, by omega, by omega⟩
              refine wl_val (ov_pick_f rfl rfl) rfl rfl rfl ?_
              refine q_nil (k_then ?_)
              refine wc_cond_f rfl ?_
              refine q_skip (k_block (k_then (wc_regionL ?_)))
              refine vm rfl rfl ?_
              refine wl_val (ov_add rfl rfl (wi64 (by omega) (by omega))) rfl rfl rfl ?_
              refine va rfl rfl ?_
              refine q_nil ?_
              refine k_loop (i + 1) (by show r.items.length - (i + 1) < r.items.length - i; omega) (⟨rfl, rfl, trivial⟩) (⟨by omega, by rw [okV_take hki, hall, hxt]; rfl, hb_g1, hx, hn, hE⟩)
    · have hix : r.items.take i = r.items := List.take_of_length_le (by omega)
      rw [hix] at hall
      refine q_exit (k_thenX (k_thenX (k_blockE (k_then (wc_seq (wc_seq (wc_regionL ?_)))))))
      refine wl_val (ov_field0 (off := 1) fo28_1 rfl) rfl rfl rfl ?_
      refine wl_val (ov_loadAt oc23 rfl hb_g1 rfl) rfl rfl rfl ?_
      refine ve rfl rfl rfl ?_
      refine wl_case_d (d := 79) rfl (fun h79 => ?_) (fun h79 => ?_)
      · refine vm rfl rfl ?_
        refine wl_gval (ov_field0 (off := 0) fo28_0 rfl) rfl rfl rfl rfl rfl ?_
        refine wl_gval (ov_loadAt oc22 rfl hb_g1 rfl) rfl rfl rfl rfl rfl ?_
        refine wl_gval (or_call0 cl27 rfl rfl (needs8_any _ r.op)) rfl rfl rfl rfl rfl ?_
        refine wl_gval (ov_eql rfl rfl) rfl rfl rfl rfl rfl ?_
        refine wl_case_d (d := 84) rfl (fun h84 => ?_) (fun h84 => ?_)
        · refine wl_val (ov_pick_t rfl rfl) rfl rfl rfl ?_
          refine vm rfl rfl ?_
          refine wl_gval (ov_field0 (off := 2) fo28_2 rfl) rfl rfl rfl rfl rfl ?_
          refine wl_gval (ov_loadAt oc24 rfl hb_g1 rfl) rfl rfl rfl rfl rfl ?_
          refine wl_gval (ov_len Try.underlying24 rfl) rfl rfl rfl rfl rfl ?_
          refine wl_gval (ov_neq rfl rfl) rfl rfl rfl rfl rfl ?_
          refine wl_case_d (d := 90) rfl (fun h90 => ?_) (fun h90 => ?_)
          · have hbad : ¬ RV r := fun q => q.one ⟨by omega, by omega, by omega⟩
            refine wl_val (ov_pick_t rfl rfl) rfl rfl rfl ?_
            refine vm rfl rfl ?_
            iterate 4 refine wl_gskip rfl rfl rfl rfl rfl rfl ?_
            iterate 4 refine wl_gskipU rfl rfl rfl rfl rfl ?_
            iterate 2 refine wl_gskip rfl rfl rfl rfl rfl rfl ?_
            iterate 10 refine wl_gskipU rfl rfl rfl rfl rfl ?_
            refine wl_gskip rfl rfl rfl rfl rfl rfl ?_
            refine wl_val (ov_pick_t rfl rfl) rfl rfl rfl ?_
            refine q_nil (k_then ?_)
            refine wc_cond_t rfl ?_
            refine wc_seq (wc_regionL ?_)
            refine va rfl rfl ?_
            refine q_nil (k_then (q_ret (k_thenR ?_)))
            refine e_ret rfl rfl ?_
            exact ⟨by rw [decide_eq_false hbad], hE⟩
          · refine wl_val (ov_pick_t rfl rfl) rfl rfl rfl ?_
            refine vm rfl rfl ?_
            refine wl_gval (ov_field0 (off := 1) fo28_1 rfl) rfl rfl rfl rfl rfl ?_
            refine wl_gval (ov_loadAt oc23 rfl hb_g1 rfl) rfl rfl rfl rfl rfl ?_
            refine wl_gval (ov_eql rfl rfl) rfl rfl rfl rfl rfl ?_
            refine wl_spell (d := 95) rfl (bt (h79)) ?_
            refine wl_gval (ov_move rfl) rfl rfl rfl rfl rfl ?_
            refine wl_gval (ov_field0 (off := 0) fo28_0 rfl) rfl rfl rfl rfl rfl ?_
            refine wl_gval (ov_loadAt oc22 rfl hb_g1 rfl) rfl rfl rfl rfl rfl ?_
            refine wl_gval (or_call0 cl27 rfl rfl (needs8_any _ r.op)) rfl rfl rfl rfl rfl ?_
            refine wl_gval (ov_eql rfl rfl) rfl rfl rfl rfl rfl ?_
            refine wl_case_d (d := 100) rfl (fun h100 => ?_) (fun h100 => ?_)
            · refine wl_gval (ov_pick_t rfl rfl) rfl rfl rfl rfl rfl ?_
              refine wl_gval (ov_move rfl) rfl rfl rfl rfl rfl ?_
              refine wl_gval (ov_field0 (off := 2) fo28_2 rfl) rfl rfl rfl rfl rfl ?_
              refine wl_gval (ov_loadAt oc24 rfl hb_g1 rfl) rfl rfl rfl rfl rfl ?_
              refine wl_gval (ov_len Try.underlying24 rfl) rfl rfl rfl rfl rfl ?_
              refine wl_gval (ov_lss rfl rfl) rfl rfl rfl rfl rfl ?_
              refine wl_case_d (d := 106) rfl (fun h106 => ?_) (fun h106 => ?_)
              · have hbad : ¬ RV r := fun q => q.many ⟨by omega, by omega, by omega⟩
                refine wl_gval (ov_move rfl) rfl rfl rfl rfl rfl ?_
                iterate 4 refine wl_gskip rfl rfl rfl rfl rfl rfl ?_
                iterate 2 refine wl_gval (ov_pick_t rfl rfl) rfl rfl rfl rfl rfl ?_
                refine wl_val (ov_pick_f rfl rfl) rfl rfl rfl ?_
                refine q_nil (k_then ?_)
                refine wc_cond_t rfl ?_
                refine wc_seq (wc_regionL ?_)
                refine va rfl rfl ?_
                refine q_nil (k_then (q_ret (k_thenR ?_)))
                refine e_ret rfl rfl ?_
                exact ⟨by rw [decide_eq_false hbad], hE⟩
              · refine wl_gval (ov_move rfl) rfl rfl rfl rfl rfl ?_
                refine wl_gval (ov_field0 (off := 2) fo28_2 rfl) rfl rfl rfl rfl rfl ?_
                refine wl_gval (ov_loadAt oc24 rfl hb_g1 rfl) rfl rfl rfl rfl rfl ?_
                refine wl_gval (ov_len Try.underlying24 rfl) rfl rfl rfl rfl rfl ?_
                refine wl_gval (ov_gtr rfl rfl) rfl rfl rfl rfl rfl ?_
                refine wl_case_d (d := 111) rfl (fun h111 => ?_) (fun h111 => ?_)
                · have hbad : ¬ RV r := fun q => q.many ⟨by omega, by omega, by omega⟩
                  refine wl_gval (ov_pick_f rfl rfl) rfl rfl rfl rfl rfl ?_
                  refine wl_gval (ov_pick_t rfl rfl) rfl rfl rfl rfl rfl ?_
                  refine wl_val (ov_pick_f rfl rfl) rfl rfl rfl ?_
                  refine q_nil (k_then ?_)
                  refine wc_cond_t rfl ?_
                  refine wc_seq (wc_regionL ?_)
                  refine va rfl rfl ?_
                  refine q_nil (k_then (q_ret (k_thenR ?_)))
                  refine e_ret rfl rfl ?_
                  exact ⟨by rw [decide_eq_false hbad], hE⟩
                · refine wl_gval (ov_pick_f rfl rfl) rfl rfl rfl rfl rfl ?_
                  refine wl_gval (ov_pick_t rfl rfl) rfl rfl rfl rfl rfl ?_
                  refine wl_val (ov_pick_f rfl rfl) rfl rfl rfl ?_
                  refine q_nil (k_then ?_)
                  refine wc_cond_f rfl ?_
                  refine q_skip (k_then (wc_seq (wc_regionL ?_)))
                  refine wl_val (ov_field0 (off := 4) fo28_4 rfl) rfl rfl rfl ?_
                  refine wl_val (ov_loadAt oc3 rfl hb_g1 rfl) rfl rfl rfl ?_
                  refine wl_val (ov_geq rfl rfl) rfl rfl rfl ?_
                  refine wl_case_d (d := 117) rfl (fun h117 => ?_) (fun h117 => ?_)
                  · refine vm rfl rfl ?_
                    refine wl_gval (ov_field0 (off := 4) fo28_4 rfl) rfl rfl rfl rfl rfl ?_
                    refine wl_gval (ov_loadAt oc3 rfl hb_g1 rfl) rfl rfl rfl rfl rfl ?_
                    refine wl_gval (ov_leq rfl rfl) rfl rfl rfl rfl rfl ?_
                    refine wl_case_d (d := 121) rfl (fun h121 => ?_) (fun h121 => ?_)
                    · refine wl_val (ov_pick_t rfl rfl) rfl rfl rfl ?_
                      refine vm rfl rfl ?_
                      refine wl_gval (ov_field0 (off := 5) fo28_5 rfl) rfl rfl rfl rfl rfl ?_
                      refine wl_gval (ov_loadAt oc26 rfl hb_g1 rfl) rfl rfl rfl rfl rfl ?_
                      refine wl_gval (ov_len Try.underlying26 rfl) rfl rfl rfl rfl rfl ?_
                      refine wl_gval (ov_leq rfl rfl) rfl rfl rfl rfl rfl ?_
                      refine wl_case_d (d := 127) rfl (fun h127 => ?_) (fun h127 => ?_)
                      · have hgood : RV r := ⟨by omega, by omega, by omega, by omega, by omega, heq, hall, by omega, by omega, by omega, by omega, by omega⟩
                        refine wl_val (ov_pick_t rfl rfl) rfl rfl rfl ?_
                        refine va rfl rfl ?_
                        refine q_nil (k_then (q_ret ?_))
                        refine e_ret rfl rfl ?_
                        exact ⟨by rw [decide_eq_true hgood], hE⟩
                      · have hbad : ¬ RV r := fun q => by have := q.nums; omega
                        refine wl_val (ov_pick_t rfl rfl) rfl rfl rfl ?_
                        refine va rfl rfl ?_
                        refine q_nil (k_then (q_ret ?_))
                        refine e_ret rfl rfl ?_
                        exact ⟨by rw [decide_eq_false hbad], hE⟩
                    · have hbad : ¬ RV r := fun q => by have := q.c2; omega
                      refine wl_val (ov_pick_t rfl rfl) rfl rfl rfl ?_
                      refine vm rfl rfl ?_
                      iterate 4 refine wl_gskip rfl rfl rfl rfl rfl rfl ?_
                      refine wl_val (ov_pick_f rfl rfl) rfl rfl rfl ?_
                      refine va rfl rfl ?_
                      refine q_nil (k_then (q_ret ?_))
                      refine e_ret rfl rfl ?_
                      exact ⟨by rw [decide_eq_false hbad], hE⟩
                  · have hbad : ¬ RV r := fun q => by have := q.c1; omega
                    refine vm rfl rfl ?_
                    iterate 3 refine wl_gskip rfl rfl rfl rfl rfl rfl ?_
                    refine wl_val (ov_pick_f rfl rfl) rfl rfl rfl ?_
                    refine vm rfl rfl ?_
                    iterate 4 refine wl_gskip rfl rfl rfl rfl rfl rfl ?_
                    refine wl_val (ov_pick_f rfl rfl) rfl rfl rfl ?_
                    refine va rfl rfl ?_
                    refine q_nil (k_then (q_ret ?_))
                    refine e_ret rfl rfl ?_
                    exact ⟨by rw [decide_eq_false hbad], hE⟩
            · refine wl_gval (ov_pick_t rfl rfl) rfl rfl rfl rfl rfl ?_
              refine wl_gval (ov_move rfl) rfl rfl rfl rfl rfl ?_
              iterate 5 refine wl_gskip rfl rfl rfl rfl rfl rfl ?_
              iterate 4 refine wl_gskipU rfl rfl rfl rfl rfl ?_
              refine wl_gskip rfl rfl rfl rfl rfl rfl ?_
              refine wl_gval (ov_pick_f rfl rfl) rfl rfl rfl rfl rfl ?_
              refine wl_val (ov_pick_f rfl rfl) rfl rfl rfl ?_
              refine q_nil (k_then ?_)
              refine wc_cond_f rfl ?_
              refine q_skip (k_then (wc_seq (wc_regionL ?_)))
              refine wl_val (ov_field0 (off := 4) fo28_4 rfl) rfl rfl rfl ?_
              refine wl_val (ov_loadAt oc3 rfl hb_g1 rfl) rfl rfl rfl ?_
              refine wl_val (ov_geq rfl rfl) rfl rfl rfl ?_
              refine wl_case_d (d := 117) rfl (fun h117 => ?_) (fun h117 => ?_)
              · refine vm rfl rfl ?_
                refine wl_gval (ov_field0 (off := 4) fo28_4 rfl) rfl rfl rfl rfl rfl ?_
                refine wl_gval (ov_loadAt oc3 rfl hb_g1 rfl) rfl rfl rfl rfl rfl ?_
                refine wl_gval (ov_leq rfl rfl) rfl rfl rfl rfl rfl ?_
                refine wl_case_d (d := 121) rfl (fun h121 => ?_) (fun h121 => ?_)
                · refine wl_val (ov_pick_t rfl rfl) rfl rfl rfl ?_
                  refine vm rfl rfl ?_
                  refine wl_gval (ov_field0 (off := 5) fo28_5 rfl) rfl rfl rfl rfl rfl ?_
                  refine wl_gval (ov_loadAt oc26 rfl hb_g1 rfl) rfl rfl rfl rfl rfl ?_
                  refine wl_gval (ov_len Try.underlying26 rfl) rfl rfl rfl rfl rfl ?_
                  refine wl_gval (ov_leq rfl rfl) rfl rfl rfl rfl rfl ?_
                  refine wl_case_d (d := 127) rfl (fun h127 => ?_) (fun h127 => ?_)
                  · have hgood : RV r := ⟨by omega, by omega, by omega, by omega, by omega, heq, hall, by omega, by omega, by omega, by omega, by omega⟩
                    refine wl_val (ov_pick_t rfl rfl) rfl rfl rfl ?_
                    refine va rfl rfl ?_
                    refine q_nil (k_then (q_ret ?_))
                    refine e_ret rfl rfl ?_
                    exact ⟨by rw [decide_eq_true hgood], hE⟩
                  · have hbad : ¬ RV r := fun q => by have := q.nums; omega
                    refine wl_val (ov_pick_t rfl rfl) rfl rfl rfl ?_
                    refine va rfl rfl ?_
                    refine q_nil (k_then (q_ret ?_))
                    refine e_ret rfl rfl ?_
                    exact ⟨by rw [decide_eq_false hbad], hE⟩
                · have hbad : ¬ RV r := fun q => by have := q.c2; omega
                  refine wl_val (ov_pick_t rfl rfl) rfl rfl rfl ?_
                  refine vm rfl rfl ?_
                  iterate 4 refine wl_gskip rfl rfl rfl rfl rfl rfl ?_
                  refine wl_val (ov_pick_f rfl rfl) rfl rfl rfl ?_
                  refine va rfl rfl ?_
                  refine q_nil (k_then (q_ret ?_))
                  refine e_ret rfl rfl ?_
                  exact ⟨by rw [decide_eq_false hbad], hE⟩
              · have hbad : ¬ RV r := fun q => by have := q.c1; omega
                refine vm rfl rfl ?_
                iterate 3 refine wl_gskip rfl rfl rfl rfl rfl rfl ?_
                refine wl_val (ov_pick_f rfl rfl) rfl rfl rfl ?_
                refine vm rfl rfl ?_
                iterate 4 refine wl_gskip rfl rfl rfl rfl rfl rfl ?_
                refine wl_val (ov_pick_f rfl rfl) rfl rfl rfl ?_
                refine va rfl rfl ?_
                refine q_nil (k_then (q_ret ?_))
                refine e_ret rfl rfl ?_
                exact ⟨by rw [decide_eq_false hbad], hE⟩
        · refine wl_val (ov_pick_t rfl rfl) rfl rfl rfl ?_
          refine vm rfl rfl ?_
          iterate 4 refine wl_gskip rfl rfl rfl rfl rfl rfl ?_
          refine wl_val (ov_pick_f rfl rfl) rfl rfl rfl ?_
          refine vm rfl rfl ?_
          refine wl_gval (ov_field0 (off := 1) fo28_1 rfl) rfl rfl rfl rfl rfl ?_
          refine wl_gval (ov_loadAt oc23 rfl hb_g1 rfl) rfl rfl rfl rfl rfl ?_
          refine wl_gval (ov_eql rfl rfl) rfl rfl rfl rfl rfl ?_
          refine wl_spell (d := 95) rfl (bt (h79)) ?_
          refine wl_gval (ov_move rfl) rfl rfl rfl rfl rfl ?_
          refine wl_gval (ov_field0 (off := 0) fo28_0 rfl) rfl rfl rfl rfl rfl ?_
          refine wl_gval (ov_loadAt oc22 rfl hb_g1 rfl) rfl rfl rfl rfl rfl ?_
          refine wl_gval (or_call0 cl27 rfl rfl (needs8_any _ r.op)) rfl rfl rfl rfl rfl ?_
          refine wl_gval (ov_eql rfl rfl) rfl rfl rfl rfl rfl ?_
          refine wl_case_d (d := 100) rfl (fun h100 => ?_) (fun h100 => ?_)
          · refine wl_gval (ov_pick_t rfl rfl) rfl rfl rfl rfl rfl ?_
            refine wl_gval (ov_move rfl) rfl rfl rfl rfl rfl ?_
            refine wl_gval (ov_field0 (off := 2) fo28_2 rfl) rfl rfl rfl rfl rfl ?_
            refine wl_gval (ov_loadAt oc24 rfl hb_g1 rfl) rfl rfl rfl rfl rfl ?_
            refine wl_gval (ov_len Try.underlying24 rfl) rfl rfl rfl rfl rfl ?_
            refine wl_gval (ov_lss rfl rfl) rfl rfl rfl rfl rfl ?_
            refine wl_case_d (d := 106) rfl (fun h106 => ?_) (fun h106 => ?_)
            · have hbad : ¬ RV r := fun q => q.many ⟨by omega, by omega, by omega⟩
              refine wl_gval (ov_move rfl) rfl rfl rfl rfl rfl ?_
              iterate 4 refine wl_gskip rfl rfl rfl rfl rfl rfl ?_
              iterate 2 refine wl_gval (ov_pick_t rfl rfl) rfl rfl rfl rfl rfl ?_
              refine wl_val (ov_pick_f rfl rfl) rfl rfl rfl ?_
              refine q_nil (k_then ?_)
              refine wc_cond_t rfl ?_
              refine wc_seq (wc_regionL ?_)
              refine va rfl rfl ?_
              refine q_nil (k_then (q_ret (k_thenR ?_)))
              refine e_ret rfl rfl ?_
              exact ⟨by rw [decide_eq_false hbad], hE⟩
            · refine wl_gval (ov_move rfl) rfl rfl rfl rfl rfl ?_
              refine wl_gval (ov_field0 (off := 2) fo28_2 rfl) rfl rfl rfl rfl rfl ?_
              refine wl_gval (ov_loadAt oc24 rfl hb_g1 rfl) rfl rfl rfl rfl rfl ?_
              refine wl_gval (ov_len Try.underlying24 rfl) rfl rfl rfl rfl rfl ?_
              refine wl_gval (ov_gtr rfl rfl) rfl rfl rfl rfl rfl ?_
              refine wl_case_d (d := 111) rfl (fun h111 => ?_) (fun h111 => ?_)
              · have hbad : ¬ RV r := fun q => q.many ⟨by omega, by omega, by omega⟩
                refine wl_gval (ov_pick_f rfl rfl) rfl rfl rfl rfl rfl ?_
                refine wl_gval (ov_pick_t rfl rfl) rfl rfl rfl rfl rfl ?_
                refine wl_val (ov_pick_f rfl rfl) rfl rfl rfl ?_
                refine q_nil (k_then ?_)
                refine wc_cond_t rfl ?_
                refine wc_seq (wc_regionL ?_)
                refine va rfl rfl ?_
                refine q_nil (k_then (q_ret (k_thenR ?_)))
                refine e_ret rfl rfl ?_
                exact ⟨by rw [decide_eq_false hbad], hE⟩
              · refine wl_gval (ov_pick_f rfl rfl) rfl rfl rfl rfl rfl ?_
                refine wl_gval (ov_pick_t rfl rfl) rfl rfl rfl rfl rfl ?_
                refine wl_val (ov_pick_f rfl rfl) rfl rfl rfl ?_
                refine q_nil (k_then ?_)
                refine wc_cond_f rfl ?_
                refine q_skip (k_then (wc_seq (wc_regionL ?_)))
                refine wl_val (ov_field0 (off := 4) fo28_4 rfl) rfl rfl rfl ?_
                refine wl_val (ov_loadAt oc3 rfl hb_g1 rfl) rfl rfl rfl ?_
                refine wl_val (ov_geq rfl rfl) rfl rfl rfl ?_
                refine wl_case_d (d := 117) rfl (fun h117 => ?_) (fun h117 => ?_)
                · refine vm rfl rfl ?_
                  refine wl_gval (ov_field0 (off := 4) fo28_4 rfl) rfl rfl rfl rfl rfl ?_
                  refine wl_gval (ov_loadAt oc3 rfl hb_g1 rfl) rfl rfl rfl rfl rfl ?_
                  refine wl_gval (ov_leq rfl rfl) rfl rfl rfl rfl rfl ?_
                  refine wl_case_d (d := 121) rfl (fun h121 => ?_) (fun h121 => ?_)
                  · refine wl_val (ov_pick_t rfl rfl) rfl rfl rfl ?_
                    refine vm rfl rfl ?_
                    refine wl_gval (ov_field0 (off := 5) fo28_5 rfl) rfl rfl rfl rfl rfl ?_
                    refine wl_gval (ov_loadAt oc26 rfl hb_g1 rfl) rfl rfl rfl rfl rfl ?_
                    refine wl_gval (ov_len Try.underlying26 rfl) rfl rfl rfl rfl rfl ?_
                    refine wl_gval (ov_leq rfl rfl) rfl rfl rfl rfl rfl ?_
                    refine wl_case_d (d := 127) rfl (fun h127 => ?_) (fun h127 => ?_)
                    · have hgood : RV r := ⟨by omega, by omega, by omega, by omega, by omega, heq, hall, by omega, by omega, by omega, by omega, by omega⟩
                      refine wl_val (ov_pick_t rfl rfl) rfl rfl rfl ?_
                      refine va rfl rfl ?_
                      refine q_nil (k_then (q_ret ?_))
                      refine e_ret rfl rfl ?_
                      exact ⟨by rw [decide_eq_true hgood], hE⟩
                    · have hbad : ¬ RV r := fun q => by have := q.nums; omega
                      refine wl_val (ov_pick_t rfl rfl) rfl rfl rfl ?_
                      refine va rfl rfl ?_
                      refine q_nil (k_then (q_ret ?_))
                      refine e_ret rfl rfl ?_
                      exact ⟨by rw [decide_eq_false hbad], hE⟩
                  · have hbad : ¬ RV r := fun q => by have := q.c2; omega
                    refine wl_val (ov_pick_t rfl rfl) rfl rfl rfl ?_
                    refine vm rfl rfl ?_
                    iterate 4 refine wl_gskip rfl rfl rfl rfl rfl rfl ?_
                    refine wl_val (ov_pick_f rfl rfl) rfl rfl rfl ?_
                    refine va rfl rfl ?_
                    refine q_nil (k_then (q_ret ?_))
                    refine e_ret rfl rfl ?_
                    exact ⟨by rw [decide_eq_false hbad], hE⟩
                · have hbad : ¬ RV r := fun q => by have := q.c1; omega
                  refine vm rfl rfl ?_
                  iterate 3 refine wl_gskip rfl rfl rfl rfl rfl rfl ?_
                  refine wl_val (ov_pick_f rfl rfl) rfl rfl rfl ?_
                  refine vm rfl rfl ?_
                  iterate 4 refine wl_gskip rfl rfl rfl rfl rfl rfl ?_
                  refine wl_val (ov_pick_f rfl rfl) rfl rfl rfl ?_
                  refine va rfl rfl ?_
                  refine q_nil (k_then (q_ret ?_))
                  refine e_ret rfl rfl ?_
                  exact ⟨by rw [decide_eq_false hbad], hE⟩
          · refine wl_gval (ov_pick_t rfl rfl) rfl rfl rfl rfl rfl ?_
            refine wl_gval (ov_move rfl) rfl rfl rfl rfl rfl ?_
            iterate 5 refine wl_gskip rfl rfl rfl rfl rfl rfl ?_
            iterate 4 refine wl_gskipU rfl rfl rfl rfl rfl ?_
            refine wl_gskip rfl rfl rfl rfl rfl rfl ?_
            refine wl_gval (ov_pick_f rfl rfl) rfl rfl rfl rfl rfl ?_
            refine wl_val (ov_pick_f rfl rfl) rfl rfl rfl ?_
            refine q_nil (k_then ?_)
            refine wc_cond_f rfl ?_
            refine q_skip (k_then (wc_seq (wc_regionL ?_)))
            refine wl_val (ov_field0 (off := 4) fo28_4 rfl) rfl rfl rfl ?_
            refine wl_val (ov_loadAt oc3 rfl hb_g1 rfl) rfl rfl rfl ?_
            refine wl_val (ov_geq rfl rfl) rfl rfl rfl ?_
            refine wl_case_d (d := 117) rfl (fun h117 => ?_) (fun h117 => ?_)
            · refine vm rfl rfl ?_
              refine wl_gval (ov_field0 (off := 4) fo28_4 rfl) rfl rfl rfl rfl rfl ?_
              refine wl_gval (ov_loadAt oc3 rfl hb_g1 rfl) rfl rfl rfl rfl rfl ?_
              refine wl_gval (ov_leq rfl rfl) rfl rfl rfl rfl rfl ?_
              refine wl_case_d (d := 121) rfl (fun h121 => ?_) (fun h121 => ?_)
              · refine wl_val (ov_pick_t rfl rfl) rfl rfl rfl ?_
                refine vm rfl rfl ?_
                refine wl_gval (ov_field0 (off := 5) fo28_5 rfl) rfl rfl rfl rfl rfl ?_
                refine wl_gval (ov_loadAt oc26 rfl hb_g1 rfl) rfl rfl rfl rfl rfl ?_
                refine wl_gval (ov_len Try.underlying26 rfl) rfl rfl rfl rfl rfl ?_
                refine wl_gval (ov_leq rfl rfl) rfl rfl rfl rfl rfl ?_
                refine wl_case_d (d := 127) rfl (fun h127 => ?_) (fun h127 => ?_)
                · have hgood : RV r := ⟨by omega, by omega, by omega, by omega, by omega, heq, hall, by omega, by omega, by omega, by omega, by omega⟩
                  refine wl_val (ov_pick_t rfl rfl) rfl rfl rfl ?_
                  refine va rfl rfl ?_
                  refine q_nil (k_then (q_ret ?_))
                  refine e_ret rfl rfl ?_
                  exact ⟨by rw [decide_eq_true hgood], hE⟩
                · have hbad : ¬ RV r := fun q => by have := q.nums; omega
                  refine wl_val (ov_pick_t rfl rfl) rfl rfl rfl ?_
                  refine va rfl rfl ?_
                  refine q_nil (k_then (q_ret ?_))
                  refine e_ret rfl rfl ?_
                  exact ⟨by rw [decide_eq_false hbad], hE⟩
              · have hbad : ¬ RV r := fun q => by have := q.c2; omega
                refine wl_val (ov_pick_t rfl rfl) rfl rfl rfl ?_
                refine vm rfl rfl ?_
                iterate 4 refine wl_gskip rfl rfl rfl rfl rfl rfl ?_
                refine wl_val (ov_pick_f rfl rfl) rfl rfl rfl ?_
                refine va rfl rfl ?_
                refine q_nil (k_then (q_ret ?_))
                refine e_ret rfl rfl ?_
                exact ⟨by rw [decide_eq_false hbad], hE⟩
            · have hbad : ¬ RV r := fun q => by have := q.c1; omega
              refine vm rfl rfl ?_
              iterate 3 refine wl_gskip rfl rfl rfl rfl rfl rfl ?_
              refine wl_val (ov_pick_f rfl rfl) rfl rfl rfl ?_
              refine vm rfl rfl ?_
              iterate 4 refine wl_gskip rfl rfl rfl rfl rfl rfl ?_
              refine wl_val (ov_pick_f rfl rfl) rfl rfl rfl ?_
              refine va rfl rfl ?_
              refine q_nil (k_then (q_ret ?_))
              refine e_ret rfl rfl ?_
              exact ⟨by rw [decide_eq_false hbad], hE⟩
      · refine vm rfl rfl ?_
        iterate 4 refine wl_gskip rfl rfl rfl rfl rfl rfl ?_
        refine wl_val (ov_pick_f rfl rfl) rfl rfl rfl ?_
        refine vm rfl rfl ?_
        iterate 4 refine wl_gskip rfl rfl rfl rfl rfl rfl ?_
        refine wl_val (ov_pick_f rfl rfl) rfl rfl rfl ?_
        refine vm rfl rfl ?_
        refine wl_gval (ov_field0 (off := 1) fo28_1 rfl) rfl rfl rfl rfl rfl ?_
        refine wl_gval (ov_loadAt oc23 rfl hb_g1 rfl) rfl rfl rfl rfl rfl ?_
        refine wl_gval (ov_eql rfl rfl) rfl rfl rfl rfl rfl ?_
        refine wl_spell (d := 95) rfl (bf (h79)) ?_
        refine wl_gval (ov_move rfl) rfl rfl rfl rfl rfl ?_
        iterate 4 refine wl_gskip rfl rfl rfl rfl rfl rfl ?_
        refine wl_gval (ov_pick_f rfl rfl) rfl rfl rfl rfl rfl ?_
        refine wl_gval (ov_move rfl) rfl rfl rfl rfl rfl ?_
        iterate 5 refine wl_gskip rfl rfl rfl rfl rfl rfl ?_
        iterate 4 refine wl_gskipU rfl rfl rfl rfl rfl ?_
        refine wl_gskip rfl rfl rfl rfl rfl rfl ?_
        refine wl_gval (ov_pick_f rfl rfl) rfl rfl rfl rfl rfl ?_
        refine wl_val (ov_pick_f rfl rfl) rfl rfl rfl ?_
        refine q_nil (k_then ?_)
        refine wc_cond_f rfl ?_
        refine q_skip (k_then (wc_seq (wc_regionL ?_)))
        refine wl_val (ov_field0 (off := 4) fo28_4 rfl) rfl rfl rfl ?_
        refine wl_val (ov_loadAt oc3 rfl hb_g1 rfl) rfl rfl rfl ?_
        refine wl_val (ov_geq rfl rfl) rfl rfl rfl ?_
        refine wl_case_d (d := 117) rfl (fun h117 => ?_) (fun h117 => ?_)
        · refine vm rfl rfl ?_
          refine wl_gval (ov_field0 (off := 4) fo28_4 rfl) rfl rfl rfl rfl rfl ?_
          refine wl_gval (ov_loadAt oc3 rfl hb_g1 rfl) rfl rfl rfl rfl rfl ?_
          refine wl_gval (ov_leq rfl rfl) rfl rfl rfl rfl rfl ?_
          refine wl_case_d (d := 121) rfl (fun h121 => ?_) (fun h121 => ?_)
          · refine wl_val (ov_pick_t rfl rfl) rfl rfl rfl ?_
            refine vm rfl rfl ?_
            refine wl_gval (ov_field0 (off := 5) fo28_5 rfl) rfl rfl rfl rfl rfl ?_
            refine wl_gval (ov_loadAt oc26 rfl hb_g1 rfl) rfl rfl rfl rfl rfl ?_
            refine wl_gval (ov_len Try.underlying26 rfl) rfl rfl rfl rfl rfl ?_
            refine wl_gval (ov_leq rfl rfl) rfl rfl rfl rfl rfl ?_
            refine wl_case_d (d := 127) rfl (fun h127 => ?_) (fun h127 => ?_)
            · have hgood : RV r := ⟨by omega, by omega, by omega, by omega, by omega, heq, hall, by omega, by omega, by omega, by omega, by omega⟩
              refine wl_val (ov_pick_t rfl rfl) rfl rfl rfl ?_
              refine va rfl rfl ?_
              refine q_nil (k_then (q_ret ?_))
              refine e_ret rfl rfl ?_
              exact ⟨by rw [decide_eq_true hgood], hE⟩
            · have hbad : ¬ RV r := fun q => by have := q.nums; omega
              refine wl_val (ov_pick_t rfl rfl) rfl rfl rfl ?_
              refine va rfl rfl ?_
              refine q_nil (k_then (q_ret ?_))
              refine e_ret rfl rfl ?_
              exact ⟨by rw [decide_eq_false hbad], hE⟩
          · have hbad : ¬ RV r := fun q => by have := q.c2; omega
            refine wl_val (ov_pick_t rfl rfl) rfl rfl rfl ?_
            refine vm rfl rfl ?_
            iterate 4 refine wl_gskip rfl rfl rfl rfl rfl rfl ?_
            refine wl_val (ov_pick_f rfl rfl) rfl rfl rfl ?_
            refine va rfl rfl ?_
            refine q_nil (k_then (q_ret ?_))
            refine e_ret rfl rfl ?_
            exact ⟨by rw [decide_eq_false hbad], hE⟩
        · have hbad : ¬ RV r := fun q => by have := q.c1; omega
          refine vm rfl rfl ?_
          iterate 3 refine wl_gskip rfl rfl rfl rfl rfl rfl ?_
          refine wl_val (ov_pick_f rfl rfl) rfl rfl rfl ?_
          refine vm rfl rfl ?_
          iterate 4 refine wl_gskip rfl rfl rfl rfl rfl rfl ?_
          refine wl_val (ov_pick_f rfl rfl) rfl rfl rfl ?_
          refine va rfl rfl ?_
          refine q_nil (k_then (q_ret ?_))
          refine e_ret rfl rfl ?_
          exact ⟨by rw [decide_eq_false hbad], hE⟩

theorem rv8_any (w : World) (r : Rsp) (xs : List IT) (hv : vals xs = r.items) (lo hi : Nat) (X : Option Addr) (cx : Nat) (N : Option Addr) (cn : Nat) (hx : RdI w lo hi X cx xs) (hn : RdN w lo hi N cn r.nums) :
    Fn Try.prog 10 #[.agg (rspc r X cx N cn).toArray] w (fun v w' => v = .bool (decide (RV r)) ∧ Ext w w') := by
  by_cases h1 : r.op < 0
  · exact rv8_a w r xs hv lo hi X cx N cn hx hn h1
  by_cases h2 : 15 < r.op
  · exact rv8_b w r xs hv lo hi X cx N cn hx hn h2
  by_cases h3 : r.err < 0
  · exact rv8_c w r xs hv lo hi X cx N cn hx hn (by omega) (by omega) h3
  by_cases h4 : 100000 < r.err
  · exact rv8_d w r xs hv lo hi X cx N cn hx hn (by omega) (by omega) h4
  by_cases h5 : r.op = 0
  · by_cases h6 : r.err = 0
    · exact rv8_e w r xs hv lo hi X cx N cn hx hn h5 h6
    · by_cases h7 : r = onlyR r
      · exact rv8_h w r xs hv lo hi X cx N cn hx hn (by omega) (by omega) (by omega) (by omega) h5 h6 h7
      · exact rv8_f w r xs hv lo hi X cx N cn hx hn (by omega) (by omega) (by omega) (by omega) h5 h6 h7
  · by_cases h7 : r = onlyR r
    · exact rv8_i w r xs hv lo hi X cx N cn hx hn (by omega) (by omega) (by omega) (by omega) h5 h7
    · exact rv8_g w r xs hv lo hi X cx N cn hx hn (by omega) (by omega) (by omega) (by omega) h5 h7

end Go.Proofs.Ytohnkjjjejnkpaa
