/-
  Equal commands; the command of a frame.
-/
import Derived.Test.YtohnkjjjejnkpaaDoorQf
namespace Go.Proofs.YtohnkjjjejnkpaaDoor
open Go.RowKit
set_option linter.unusedVariables false
set_option maxRecDepth 4000
theorem ag36_10 : aggTy Tryd.prog 36 10 = true := by kernel_rfl
theorem cl31 : callable Tryd.prog 31 = true := by kernel_rfl
theorem cl32 : callable Tryd.prog 32 = true := by kernel_rfl
theorem cl35 : callable Tryd.prog 35 = true := by kernel_rfl
theorem cl36 : callable Tryd.prog 36 = true := by kernel_rfl
theorem cl37 : callable Tryd.prog 37 = true := by kernel_rfl
theorem cl38 : callable Tryd.prog 38 = true := by kernel_rfl
theorem pl36 : placesOf Tryd.prog 36 = some [(0, 1), (1, 1), (2, 1), (3, 1), (4, 1), (5, 1), (6, 1), (7, 1), (8, 1), (9, 1)] := by kernel_rfl
theorem pl64 : placesOf Tryd.prog 64 = some [(0, 1), (1, 1), (2, 1), (3, 1)] := by kernel_rfl
theorem sz36 : (Tryd.prog.info? 36).map (·.size) = some 10 := by kernel_rfl
theorem sz64 : (Tryd.prog.info? 64).map (·.size) = some 4 := by kernel_rfl
theorem ze36 : zeroOf Tryd.prog 36 = some (.agg #[(.int .i64 0), (.string (strB [])), (.slice none 0 0), (.slice none 0 0), (.slice none 0 0), (.int .u64 0), (.int .u64 0), (.string (strB [])), (.string (strB [])), (.string (strB []))]) := by kernel_rfl
theorem ze64 : zeroOf Tryd.prog 64 = some (.agg #[(.pointer none), (.pointer none), (.slice none 0 0), (.bool false)]) := by kernel_rfl

theorem take_eq1 {xs ys : List (List UInt8)} {i : Nat} {s : List UInt8} (h : xs.take i = ys.take i) (hx : xs[i]? = some s) (hy : ys[i]? = some s) : xs.take (i + 1) = ys.take (i + 1) := by
  rw [List.take_add_one, List.take_add_one, h, hx, hy]

theorem sleq_any (w : World) (lo hi lo2 hi2 : Nat) (K : Option Addr) (ck : Nat) (xs : List (List UInt8)) (K2 : Option Addr) (ck2 : Nat) (ys : List (List UInt8)) (hK : RdS w lo hi K ck xs) (hK2 : RdS w lo2 hi2 K2 ck2 ys) :
    Fn Tryd.prog 37 #[(.slice K xs.length ck), (.slice K2 ys.length ck2)] w (fun v w' => v = .bool (decide (xs = ys)) ∧ Ext w w')  := by
  have hE := ext_refl w
  have hcx := hK.2.1
  have hcy := hK2.2.1
  have hcx1 := hK.1
  have hcy1 := hK2.1
  simp only [maxLen] at hcx hcy
  refine fn_enter (args := [(.slice K xs.length ck), (.slice K2 ys.length ck2)]) Tryd.func37 rfl rfl rfl ?_
  show WC _ _ _ _ [(0, (.slice K xs.length ck)), (1, (.slice K2 ys.length ck2))] _
  refine wc_seq (wc_regionL ?_)
  refine va rfl rfl ?_
  refine q_nil (k_then (wc_seq (wc_seq (wc_regionL ?_))))
  refine vm rfl rfl ?_
  refine wl_val (ov_len Tryd.underlying27 rfl) rfl rfl rfl ?_
  refine vm rfl rfl ?_
  refine wl_val (ov_len Tryd.underlying27 rfl) rfl rfl rfl ?_
  refine wl_val (ov_neq rfl rfl) rfl rfl rfl ?_
  refine q_nil (k_then ?_)
  refine wc_cond_d rfl (fun hc1 => ?_) (fun hc1 => ?_)
  · have hne : ¬ xs = ys := fun e => by subst e; omega
    refine wc_seq (wc_regionL ?_)
    refine va rfl rfl ?_
    refine q_nil (k_then (q_ret (k_thenR ?_)))
    refine e_ret rfl rfl ?_
    first | exact ⟨by rw [decide_eq_false hne], hE⟩ | exact ⟨by rw [decide_eq_true heq], hE⟩
  · refine q_skip (k_then (wc_seq (wc_seq (wc_regionL ?_))))
    refine vm rfl rfl ?_
    refine wl_val (ov_len Tryd.underlying27 rfl) rfl rfl rfl ?_
    refine vm rfl rfl ?_
    refine q_nil (k_then (wc_block ?_))
    refine wc_loop (σ := Nat) (fun i => xs.length - i) (fun i => [(0, .slice K xs.length ck), (1, .slice K2 ys.length ck2), (12, .int .i64 (xs.length : Int)), (13, .int .i64 (i : Int))]) (fun i w' => i ≤ xs.length ∧ xs.take i = ys.take i ∧ RdS w' lo hi K ck xs ∧ RdS w' lo2 hi2 K2 ck2 ys ∧ Ext w w') (0) (⟨Nat.zero_le _, rfl, hK, hK2, hE⟩) (⟨rfl, rfl, rfl, rfl, trivial⟩) ?_
    rintro i wq ⟨hi0, htk, hK, hK2, hE⟩
    show WC _ _ _ _ [(0, (.slice K xs.length ck)), (1, (.slice K2 ys.length ck2)), (12, (.int .i64 (↑xs.length : Int))), (13, (.int .i64 (↑i : Int)))] _
    refine wc_seq (wc_regionL ?_)
    refine wl_val (ov_lss rfl rfl) rfl rfl rfl ?_
    refine q_nil (k_then (wc_seq ?_))
    refine wc_cond_d rfl (fun hc2 => ?_) (fun hc2 => ?_)
    · obtain ⟨s1, hk1⟩ : ∃ s, xs[i]? = some s := ⟨_, List.getElem?_eq_getElem (by omega)⟩
      obtain ⟨s2, hk2⟩ : ∃ s, ys[i]? = some s := ⟨_, List.getElem?_eq_getElem (by omega)⟩
      refine q_skip (k_then (wc_seq (wc_block (wc_seq (wc_regionL ?_)))))
      refine vm rfl rfl ?_
      refine va rfl rfl ?_
      refine q_nil (k_then (wc_seq ?_))
      refine wc_draw mixed 8 [(16, eqv (.slice K xs.length ck)), (17, eqv (.int .i64 (↑i : Int))), (18, isCells [(.string (strB s1))]), (19, eqv (.string (strB s1))), (20, eqv (.slice K2 ys.length ck2)), (21, eqv (.int .i64 (↑i : Int))), (22, isCells [(.string (strB s2))]), (23, eqv (.string (strB s2)))] [[], [], [0, 1], [2], [], [], [4, 5], [6]] _ [] [] (fun _ _ h => h) trivial (by kernel_rfl) rfl ⟨⟨stb_eqv _, fun _ he => by cases he⟩, ⟨stb_eqv _, fun _ he => by cases he⟩, ⟨stb_isCells _, fun _ he => by cases he⟩, ⟨stb_eqv _, fun _ he => by cases he⟩, ⟨stb_eqv _, fun _ he => by cases he⟩, ⟨stb_eqv _, fun _ he => by cases he⟩, ⟨stb_isCells _, fun _ he => by cases he⟩, ⟨stb_eqv _, fun _ he => by cases he⟩, trivial⟩ ⟨?_, ?_, ?_, ?_, ?_, ?_, ?_, ?_, trivial⟩ ?_
      · intro wd hxE
        replace hK := hK.ext hxE
        replace hK2 := hK2.ext hxE
        replace hE := hE.tr hxE
        have hz_hxE := hxE.size
        show OpG _ _ _ _ _ _
        exact og_plain rfl (ox_val (ov_move rfl))
      · intro wd hxE
        replace hK := hK.ext hxE
        replace hK2 := hK2.ext hxE
        replace hE := hE.tr hxE
        have hz_hxE := hxE.size
        show OpG _ _ _ _ _ _
        exact og_plain rfl (ox_val (ov_move rfl))
      · intro wd hxE
        replace hK := hK.ext hxE
        replace hK2 := hK2.ext hxE
        replace hE := hE.tr hxE
        have hz_hxE := hxE.size
        rintro _ rfl
        rintro _ rfl
        show OpG _ _ _ _ _ _
        refine og_plain rfl (OpRun.mono (or_rindex (m := (i)) sl27 rfl rfl hK (fun _ _ => rfl) hk1) ?_)
        rintro v _ ⟨rfl, p18, rfl, hp18, hpl18, hph18⟩
        exact ⟨⟨p18, rfl, hp18⟩, ext_refl _⟩
      · intro wd hxE
        replace hK := hK.ext hxE
        replace hK2 := hK2.ext hxE
        replace hE := hE.tr hxE
        have hz_hxE := hxE.size
        rintro _ ⟨p18, rfl, hp18⟩
        show OpG _ _ _ _ _ _
        exact og_plain rfl (ox_val (ov_load oc9 rfl (cell_zero hp18 rfl)))
      · intro wd hxE
        replace hK := hK.ext hxE
        replace hK2 := hK2.ext hxE
        replace hE := hE.tr hxE
        have hz_hxE := hxE.size
        show OpG _ _ _ _ _ _
        exact og_plain rfl (ox_val (ov_move rfl))
      · intro wd hxE
        replace hK := hK.ext hxE
        replace hK2 := hK2.ext hxE
        replace hE := hE.tr hxE
        have hz_hxE := hxE.size
        show OpG _ _ _ _ _ _
        exact og_plain rfl (ox_val (ov_move rfl))
      · intro wd hxE
        replace hK := hK.ext hxE
        replace hK2 := hK2.ext hxE
        replace hE := hE.tr hxE
        have hz_hxE := hxE.size
        rintro _ rfl
        rintro _ rfl
        show OpG _ _ _ _ _ _
        refine og_plain rfl (OpRun.mono (or_rindex (m := (i)) sl27 rfl rfl hK2 (fun _ _ => rfl) hk2) ?_)
        rintro v _ ⟨rfl, p22, rfl, hp22, hpl22, hph22⟩
        exact ⟨⟨p22, rfl, hp22⟩, ext_refl _⟩
      · intro wd hxE
        replace hK := hK.ext hxE
        replace hK2 := hK2.ext hxE
        replace hE := hE.tr hxE
        have hz_hxE := hxE.size
        rintro _ ⟨p22, rfl, hp22⟩
        show OpG _ _ _ _ _ _
        exact og_plain rfl (ox_val (ov_load oc9 rfl (cell_zero hp22 rfl)))
      · intro wf6 hf6
        replace hK := hK.ext hf6
        replace hK2 := hK2.ext hf6
        replace hE := hE.tr hf6
        have hz_hf6 := hf6.size
        rintro _ rfl
        rintro _ rfl
        rintro _ ⟨p18, rfl, hp18⟩
        rintro _ rfl
        rintro _ rfl
        rintro _ rfl
        rintro _ ⟨p22, rfl, hp22⟩
        rintro _ rfl
        show WL _ _ _ [_] _ _ _
        refine wl_val (ov_sne rfl rfl) rfl rfl rfl ?_
        refine q_nil (k_then ?_)
        refine wc_cond_d rfl (fun hc3 => ?_) (fun hc3 => ?_)
        · have hne : ¬ xs = ys := fun e => by subst e; rw [hk1] at hk2; exact hc3 (Option.some.inj hk2)
          refine wc_seq (wc_regionL ?_)
          refine va rfl rfl ?_
          refine q_nil (k_then (q_ret (k_blockR (k_thenR (k_thenR (k_blockR (k_thenR ?_)))))))
          refine e_ret rfl rfl ?_
          first | exact ⟨by rw [decide_eq_false hne], hE⟩ | exact ⟨by rw [decide_eq_true heq], hE⟩
        · have heq : s1 = s2 := Decidable.not_not.1 hc3
          refine q_skip (k_block (k_then (wc_regionL ?_)))
          refine wl_val (ov_add rfl rfl (wi64 (by omega) (by omega))) rfl rfl rfl ?_
          refine vm rfl rfl ?_
          refine q_nil ?_
          refine k_loop (i + 1) (by show xs.length - (i + 1) < xs.length - i; omega) (⟨rfl, rfl, rfl, rfl, trivial⟩) (⟨by omega, take_eq1 htk hk1 (hk2.trans (congrArg some heq.symm)), hK, hK2, hE⟩)
    · have heq : xs = ys := by rw [List.take_of_length_le (by omega), List.take_of_length_le (by omega)] at htk; exact htk
      refine q_exit (k_thenX (k_thenX (k_blockE (k_then (wc_seq (wc_regionL ?_))))))
      refine va rfl rfl ?_
      refine q_nil (k_then (q_ret ?_))
      refine e_ret rfl rfl ?_
      first | exact ⟨by rw [decide_eq_false hne], hE⟩ | exact ⟨by rw [decide_eq_true heq], hE⟩

theorem same_any (w : World) (lo hi lo2 hi2 : Nat) (K : Option Addr) (ck : Nat) (xs : List (List UInt8)) (K2 : Option Addr) (ck2 : Nat) (ys : List (List UInt8)) (hK : RdS w lo hi K ck xs) (hK2 : RdS w lo2 hi2 K2 ck2 ys) :
    Fn Tryd.prog 32 #[(.slice K xs.length ck), (.slice K2 ys.length ck2)] w (fun v w' => v = .bool (decide (xs = ys)) ∧ Ext w w')  := by
  have hE := ext_refl w
  have hcx := hK.2.1
  have hcy := hK2.2.1
  have hcx1 := hK.1
  have hcy1 := hK2.1
  simp only [maxLen] at hcx hcy
  refine fn_enter (args := [(.slice K xs.length ck), (.slice K2 ys.length ck2)]) Tryd.func32 rfl rfl rfl ?_
  show WC _ _ _ _ [(0, (.slice K xs.length ck)), (1, (.slice K2 ys.length ck2))] _
  refine wc_seq (wc_regionL ?_)
  refine va rfl rfl ?_
  refine q_nil (k_then (wc_seq (wc_seq (wc_regionL ?_))))
  refine vm rfl rfl ?_
  refine wl_val (ov_len Tryd.underlying27 rfl) rfl rfl rfl ?_
  refine vm rfl rfl ?_
  refine wl_val (ov_len Tryd.underlying27 rfl) rfl rfl rfl ?_
  refine wl_val (ov_neq rfl rfl) rfl rfl rfl ?_
  refine q_nil (k_then ?_)
  refine wc_cond_d rfl (fun hc1 => ?_) (fun hc1 => ?_)
  · have hne : ¬ xs = ys := fun e => by subst e; omega
    refine wc_seq (wc_regionL ?_)
    refine va rfl rfl ?_
    refine q_nil (k_then (q_ret (k_thenR ?_)))
    refine e_ret rfl rfl ?_
    first | exact ⟨by rw [decide_eq_false hne], hE⟩ | exact ⟨by rw [decide_eq_true heq], hE⟩
  · refine q_skip (k_then (wc_seq (wc_seq (wc_regionL ?_))))
    refine va rfl rfl ?_
    refine q_nil (k_then (wc_block ?_))
    refine wc_loop (σ := Nat) (fun i => xs.length - i) (fun i => [(0, .slice K xs.length ck), (1, .slice K2 ys.length ck2), (5, .int .i64 (i : Int))]) (fun i w' => i ≤ xs.length ∧ xs.take i = ys.take i ∧ RdS w' lo hi K ck xs ∧ RdS w' lo2 hi2 K2 ck2 ys ∧ Ext w w') (0) (⟨Nat.zero_le _, rfl, hK, hK2, hE⟩) (⟨rfl, rfl, rfl, trivial⟩) ?_
    rintro i wq ⟨hi0, htk, hK, hK2, hE⟩
    show WC _ _ _ _ [(0, (.slice K xs.length ck)), (1, (.slice K2 ys.length ck2)), (5, (.int .i64 (↑i : Int)))] _
    refine wc_seq (wc_seq (wc_regionL ?_))
    iterate 2 refine vm rfl rfl ?_
    refine wl_val (ov_len Tryd.underlying27 rfl) rfl rfl rfl ?_
    refine wl_val (ov_lss rfl rfl) rfl rfl rfl ?_
    refine q_nil (k_then ?_)
    refine wc_cond_d rfl (fun hc2 => ?_) (fun hc2 => ?_)
    · obtain ⟨s1, hk1⟩ : ∃ s, xs[i]? = some s := ⟨_, List.getElem?_eq_getElem (by omega)⟩
      obtain ⟨s2, hk2⟩ : ∃ s, ys[i]? = some s := ⟨_, List.getElem?_eq_getElem (by omega)⟩
      refine q_skip (k_then (wc_seq (wc_block (wc_seq ?_))))
      refine wc_draw mixed 8 [(17, eqv (.slice K xs.length ck)), (18, eqv (.int .i64 (↑i : Int))), (19, isCells [(.string (strB s1))]), (20, eqv (.string (strB s1))), (21, eqv (.slice K2 ys.length ck2)), (22, eqv (.int .i64 (↑i : Int))), (23, isCells [(.string (strB s2))]), (24, eqv (.string (strB s2)))] [[], [], [0, 1], [2], [], [], [4, 5], [6]] _ [] [] (fun _ _ h => h) trivial (by kernel_rfl) rfl ⟨⟨stb_eqv _, fun _ he => by cases he⟩, ⟨stb_eqv _, fun _ he => by cases he⟩, ⟨stb_isCells _, fun _ he => by cases he⟩, ⟨stb_eqv _, fun _ he => by cases he⟩, ⟨stb_eqv _, fun _ he => by cases he⟩, ⟨stb_eqv _, fun _ he => by cases he⟩, ⟨stb_isCells _, fun _ he => by cases he⟩, ⟨stb_eqv _, fun _ he => by cases he⟩, trivial⟩ ⟨?_, ?_, ?_, ?_, ?_, ?_, ?_, ?_, trivial⟩ ?_
      · intro wd hxE
        replace hK := hK.ext hxE
        replace hK2 := hK2.ext hxE
        replace hE := hE.tr hxE
        have hz_hxE := hxE.size
        show OpG _ _ _ _ _ _
        exact og_plain rfl (ox_val (ov_move rfl))
      · intro wd hxE
        replace hK := hK.ext hxE
        replace hK2 := hK2.ext hxE
        replace hE := hE.tr hxE
        have hz_hxE := hxE.size
        show OpG _ _ _ _ _ _
        exact og_plain rfl (ox_val (ov_move rfl))
      · intro wd hxE
        replace hK := hK.ext hxE
        replace hK2 := hK2.ext hxE
        replace hE := hE.tr hxE
        have hz_hxE := hxE.size
        rintro _ rfl
        rintro _ rfl
        show OpG _ _ _ _ _ _
        refine og_plain rfl (OpRun.mono (or_rindex (m := (i)) sl27 rfl rfl hK (fun _ _ => rfl) hk1) ?_)
        rintro v _ ⟨rfl, p19, rfl, hp19, hpl19, hph19⟩
        exact ⟨⟨p19, rfl, hp19⟩, ext_refl _⟩
      · intro wd hxE
        replace hK := hK.ext hxE
        replace hK2 := hK2.ext hxE
        replace hE := hE.tr hxE
        have hz_hxE := hxE.size
        rintro _ ⟨p19, rfl, hp19⟩
        show OpG _ _ _ _ _ _
        exact og_plain rfl (ox_val (ov_load oc9 rfl (cell_zero hp19 rfl)))
      · intro wd hxE
        replace hK := hK.ext hxE
        replace hK2 := hK2.ext hxE
        replace hE := hE.tr hxE
        have hz_hxE := hxE.size
        show OpG _ _ _ _ _ _
        exact og_plain rfl (ox_val (ov_move rfl))
      · intro wd hxE
        replace hK := hK.ext hxE
        replace hK2 := hK2.ext hxE
        replace hE := hE.tr hxE
        have hz_hxE := hxE.size
        show OpG _ _ _ _ _ _
        exact og_plain rfl (ox_val (ov_move rfl))
      · intro wd hxE
        replace hK := hK.ext hxE
        replace hK2 := hK2.ext hxE
        replace hE := hE.tr hxE
        have hz_hxE := hxE.size
        rintro _ rfl
        rintro _ rfl
        show OpG _ _ _ _ _ _
        refine og_plain rfl (OpRun.mono (or_rindex (m := (i)) sl27 rfl rfl hK2 (fun _ _ => rfl) hk2) ?_)
        rintro v _ ⟨rfl, p23, rfl, hp23, hpl23, hph23⟩
        exact ⟨⟨p23, rfl, hp23⟩, ext_refl _⟩
      · intro wd hxE
        replace hK := hK.ext hxE
        replace hK2 := hK2.ext hxE
        replace hE := hE.tr hxE
        have hz_hxE := hxE.size
        rintro _ ⟨p23, rfl, hp23⟩
        show OpG _ _ _ _ _ _
        exact og_plain rfl (ox_val (ov_load oc9 rfl (cell_zero hp23 rfl)))
      · intro wf6 hf6
        replace hK := hK.ext hf6
        replace hK2 := hK2.ext hf6
        replace hE := hE.tr hf6
        have hz_hf6 := hf6.size
        rintro _ rfl
        rintro _ rfl
        rintro _ ⟨p19, rfl, hp19⟩
        rintro _ rfl
        rintro _ rfl
        rintro _ rfl
        rintro _ ⟨p23, rfl, hp23⟩
        rintro _ rfl
        show WL _ _ _ [_] _ _ _
        refine wl_val (ov_sne rfl rfl) rfl rfl rfl ?_
        refine q_nil (k_then ?_)
        refine wc_cond_d rfl (fun hc3 => ?_) (fun hc3 => ?_)
        · have hne : ¬ xs = ys := fun e => by subst e; rw [hk1] at hk2; exact hc3 (Option.some.inj hk2)
          refine wc_seq (wc_regionL ?_)
          refine va rfl rfl ?_
          refine q_nil (k_then (q_ret (k_blockR (k_thenR (k_thenR (k_blockR (k_thenR ?_)))))))
          refine e_ret rfl rfl ?_
          first | exact ⟨by rw [decide_eq_false hne], hE⟩ | exact ⟨by rw [decide_eq_true heq], hE⟩
        · have heq : s1 = s2 := Decidable.not_not.1 hc3
          refine q_skip (k_block (k_then (wc_regionL ?_)))
          refine vm rfl rfl ?_
          refine wl_val (ov_add rfl rfl (wi64 (by omega) (by omega))) rfl rfl rfl ?_
          refine va rfl rfl ?_
          refine q_nil ?_
          refine k_loop (i + 1) (by show xs.length - (i + 1) < xs.length - i; omega) (⟨rfl, rfl, rfl, trivial⟩) (⟨by omega, take_eq1 htk hk1 (hk2.trans (congrArg some heq.symm)), hK, hK2, hE⟩)
    · have heq : xs = ys := by rw [List.take_of_length_le (by omega), List.take_of_length_le (by omega)] at htk; exact htk
      refine q_exit (k_thenX (k_thenX (k_blockE (k_then (wc_seq (wc_regionL ?_))))))
      refine va rfl rfl ?_
      refine q_nil (k_then (q_ret ?_))
      refine e_ret rfl rfl ?_
      first | exact ⟨by rw [decide_eq_false hne], hE⟩ | exact ⟨by rw [decide_eq_true heq], hE⟩

theorem beq_any (w : World) (lo hi lo2 hi2 : Nat) (V : Option Addr) (cv : Nat) (xs : List UInt8) (V2 : Option Addr) (cv2 : Nat) (ys : List UInt8) (hV : RdB w lo hi V cv xs) (hV2 : RdB w lo2 hi2 V2 cv2 ys) :
    Fn Tryd.prog 38 #[(.slice V xs.length cv), (.slice V2 ys.length cv2)] w (fun v w' => v = .bool (decide (xs = ys)) ∧ w' = w)  := by
  refine fn_enter (args := [(.slice V xs.length cv), (.slice V2 ys.length cv2)]) Tryd.func38 rfl rfl rfl ?_
  show WC _ _ _ _ [(0, (.slice V xs.length cv)), (1, (.slice V2 ys.length cv2))] _
  refine wc_seq (wc_regionL ?_)
  refine va rfl rfl ?_
  refine q_nil (k_then (wc_seq (wc_regionL ?_)))
  refine vm rfl rfl ?_
  refine wl_val (ov_bstr bt32 Tryd.underlying9 rfl hV) rfl rfl rfl ?_
  refine vm rfl rfl ?_
  refine wl_val (ov_bstr bt32 Tryd.underlying9 rfl hV2) rfl rfl rfl ?_
  refine wl_val (ov_seq rfl rfl) rfl rfl rfl ?_
  refine va rfl rfl ?_
  refine q_nil (k_then (q_ret ?_))
  refine e_ret rfl rfl ?_
  exact ⟨rfl, rfl⟩

theorem equal_any (w : World) (a : Cmd) (lo hi : Nat) (K : Option Addr) (ck : Nat) (V : Option Addr) (cv : Nat) (T : Option Addr) (ct : Nat) (hK : RdS w lo hi K ck a.keys) (hV : RdB w lo hi V cv a.value) (hT : RdS w lo hi T ct a.tags) (b : Cmd) (lo2 hi2 : Nat) (K2 : Option Addr) (ck2 : Nat) (V2 : Option Addr) (cv2 : Nat) (T2 : Option Addr) (ct2 : Nat) (hK2 : RdS w lo2 hi2 K2 ck2 b.keys) (hV2 : RdB w lo2 hi2 V2 cv2 b.value) (hT2 : RdS w lo2 hi2 T2 ct2 b.tags) :
    Fn Tryd.prog 26 #[(.agg #[(.int .i64 a.op), (.string (strB a.key)), (.slice K a.keys.length ck), (.slice V a.value.length cv), (.slice T a.tags.length ct), (.int .u64 (↑a.life : Int)), (.int .u64 (↑a.ver : Int)), (.string (strB a.tag)), (.string (strB a.pre)), (.string (strB a.child))]), (.agg #[(.int .i64 b.op), (.string (strB b.key)), (.slice K2 b.keys.length ck2), (.slice V2 b.value.length cv2), (.slice T2 b.tags.length ct2), (.int .u64 (↑b.life : Int)), (.int .u64 (↑b.ver : Int)), (.string (strB b.tag)), (.string (strB b.pre)), (.string (strB b.child))])] w (fun v w' => v = .bool (decide (a = b)) ∧ Ext w w')  := by
  have hE := ext_refl w
  refine fn_enter (args := [(.agg #[(.int .i64 a.op), (.string (strB a.key)), (.slice K a.keys.length ck), (.slice V a.value.length cv), (.slice T a.tags.length ct), (.int .u64 (↑a.life : Int)), (.int .u64 (↑a.ver : Int)), (.string (strB a.tag)), (.string (strB a.pre)), (.string (strB a.child))]), (.agg #[(.int .i64 b.op), (.string (strB b.key)), (.slice K2 b.keys.length ck2), (.slice V2 b.value.length cv2), (.slice T2 b.tags.length ct2), (.int .u64 (↑b.life : Int)), (.int .u64 (↑b.ver : Int)), (.string (strB b.tag)), (.string (strB b.pre)), (.string (strB b.child))])]) Tryd.func26 rfl rfl rfl ?_
  show WC _ _ _ _ [(0, (.agg #[(.int .i64 a.op), (.string (strB a.key)), (.slice K a.keys.length ck), (.slice V a.value.length cv), (.slice T a.tags.length ct), (.int .u64 (↑a.life : Int)), (.int .u64 (↑a.ver : Int)), (.string (strB a.tag)), (.string (strB a.pre)), (.string (strB a.child))])), (1, (.agg #[(.int .i64 b.op), (.string (strB b.key)), (.slice K2 b.keys.length ck2), (.slice V2 b.value.length cv2), (.slice T2 b.tags.length ct2), (.int .u64 (↑b.life : Int)), (.int .u64 (↑b.ver : Int)), (.string (strB b.tag)), (.string (strB b.pre)), (.string (strB b.child))]))] _
  refine wc_seq (wc_regionL ?_)
  refine wl_step (or_box (cs := [(.int .i64 a.op), (.string (strB a.key)), (.slice K a.keys.length ck), (.slice V a.value.length cv), (.slice T a.tags.length ct), (.int .u64 (↑a.life : Int)), (.int .u64 (↑a.ver : Int)), (.string (strB a.tag)), (.string (strB a.pre)), (.string (strB a.child))]) rfl rfl) rfl rfl rfl ?_
  rintro v w1 ⟨g2, rfl, hb_g2, he2, hl2, hu2⟩
  replace hK := hK.ext he2
  replace hV := hV.ext he2
  replace hT := hT.ext he2
  replace hK2 := hK2.ext he2
  replace hV2 := hV2.ext he2
  replace hT2 := hT2.ext he2
  replace hE := hE.tr he2
  have hz_he2 := he2.size
  refine wl_step (or_box (cs := [(.int .i64 b.op), (.string (strB b.key)), (.slice K2 b.keys.length ck2), (.slice V2 b.value.length cv2), (.slice T2 b.tags.length ct2), (.int .u64 (↑b.life : Int)), (.int .u64 (↑b.ver : Int)), (.string (strB b.tag)), (.string (strB b.pre)), (.string (strB b.child))]) rfl rfl) rfl rfl rfl ?_
  rintro v w2 ⟨g3, rfl, hb_g3, he3, hl3, hu3⟩
  replace hK := hK.ext he3
  replace hV := hV.ext he3
  replace hT := hT.ext he3
  replace hK2 := hK2.ext he3
  replace hV2 := hV2.ext he3
  replace hT2 := hT2.ext he3
  replace hE := hE.tr he3
  replace hb_g2 := hb_g2.ext he3
  have hz_he3 := he3.size
  refine va rfl rfl ?_
  refine q_nil (k_then (wc_seq (wc_regionL ?_)))
  refine wl_val (ov_field0 (off := 0) fo36_0 rfl) rfl rfl rfl ?_
  refine wl_val (ov_loadAt oc22 rfl hb_g2 rfl) rfl rfl rfl ?_
  refine wl_val (ov_field0 (off := 0) fo36_0 rfl) rfl rfl rfl ?_
  refine wl_val (ov_loadAt oc22 rfl hb_g3 rfl) rfl rfl rfl ?_
  refine ve rfl rfl rfl ?_
  refine wl_case_d (d := 9) rfl (fun h9 => ?_) (fun h9 => ?_)
  · refine vm rfl rfl ?_
    refine wl_gval (ov_field0 (off := 1) fo36_1 rfl) rfl rfl rfl rfl rfl ?_
    refine wl_gval (ov_loadAt oc9 rfl hb_g2 rfl) rfl rfl rfl rfl rfl ?_
    refine wl_gval (ov_field0 (off := 1) fo36_1 rfl) rfl rfl rfl rfl rfl ?_
    refine wl_gval (ov_loadAt oc9 rfl hb_g3 rfl) rfl rfl rfl rfl rfl ?_
    refine wl_gval (ov_seq rfl rfl) rfl rfl rfl rfl rfl ?_
    refine wl_case_d (d := 15) rfl (fun h15 => ?_) (fun h15 => ?_)
    · refine wl_val (ov_pick_t rfl rfl) rfl rfl rfl ?_
      refine vm rfl rfl ?_
      refine wl_gval (ov_field0 (off := 2) fo36_2 rfl) rfl rfl rfl rfl rfl ?_
      refine wl_gval (ov_loadAt oc27 rfl hb_g2 rfl) rfl rfl rfl rfl rfl ?_
      refine wl_gval (ov_field0 (off := 2) fo36_2 rfl) rfl rfl rfl rfl rfl ?_
      refine wl_gval (ov_loadAt oc27 rfl hb_g3 rfl) rfl rfl rfl rfl rfl ?_
      refine wl_gstep (or_call0 cl37 rfl rfl (sleq_any _ _ _ _ _ K ck a.keys K2 ck2 b.keys hK hK2)) rfl rfl rfl rfl rfl ?_
      rintro v w3 ⟨rfl, he22⟩
      replace hK := hK.ext he22
      replace hV := hV.ext he22
      replace hT := hT.ext he22
      replace hK2 := hK2.ext he22
      replace hV2 := hV2.ext he22
      replace hT2 := hT2.ext he22
      replace hE := hE.tr he22
      replace hb_g2 := hb_g2.ext he22
      replace hb_g3 := hb_g3.ext he22
      have hz_he22 := he22.size
      refine wl_case_d (d := 22) rfl (fun h22 => ?_) (fun h22 => ?_)
      · refine wl_val (ov_pick_t rfl rfl) rfl rfl rfl ?_
        refine vm rfl rfl ?_
        refine wl_gval (ov_field0 (off := 3) fo36_3 rfl) rfl rfl rfl rfl rfl ?_
        refine wl_gval (ov_loadAt oc32 rfl hb_g2 rfl) rfl rfl rfl rfl rfl ?_
        refine wl_gval (ov_field0 (off := 3) fo36_3 rfl) rfl rfl rfl rfl rfl ?_
        refine wl_gval (ov_loadAt oc32 rfl hb_g3 rfl) rfl rfl rfl rfl rfl ?_
        refine wl_gval (or_call0 cl38 rfl rfl (beq_any _ _ _ _ _ V cv a.value V2 cv2 b.value hV hV2)) rfl rfl rfl rfl rfl ?_
        refine wl_case_d (d := 29) rfl (fun h29 => ?_) (fun h29 => ?_)
        · refine wl_val (ov_pick_t rfl rfl) rfl rfl rfl ?_
          refine vm rfl rfl ?_
          refine wl_gval (ov_field0 (off := 4) fo36_4 rfl) rfl rfl rfl rfl rfl ?_
          refine wl_gval (ov_loadAt oc27 rfl hb_g2 rfl) rfl rfl rfl rfl rfl ?_
          refine wl_gval (ov_field0 (off := 4) fo36_4 rfl) rfl rfl rfl rfl rfl ?_
          refine wl_gval (ov_loadAt oc27 rfl hb_g3 rfl) rfl rfl rfl rfl rfl ?_
          refine wl_gstep (or_call0 cl37 rfl rfl (sleq_any _ _ _ _ _ T ct a.tags T2 ct2 b.tags hT hT2)) rfl rfl rfl rfl rfl ?_
          rintro v w4 ⟨rfl, he36⟩
          replace hK := hK.ext he36
          replace hV := hV.ext he36
          replace hT := hT.ext he36
          replace hK2 := hK2.ext he36
          replace hV2 := hV2.ext he36
          replace hT2 := hT2.ext he36
          replace hE := hE.tr he36
          replace hb_g2 := hb_g2.ext he36
          replace hb_g3 := hb_g3.ext he36
          have hz_he36 := he36.size
          refine wl_case_d (d := 36) rfl (fun h36 => ?_) (fun h36 => ?_)
          · refine wl_val (ov_pick_t rfl rfl) rfl rfl rfl ?_
            refine vm rfl rfl ?_
            refine wl_gval (ov_field0 (off := 5) fo36_5 rfl) rfl rfl rfl rfl rfl ?_
            refine wl_gval (ov_loadAt oc34 rfl hb_g2 rfl) rfl rfl rfl rfl rfl ?_
            refine wl_gval (ov_field0 (off := 5) fo36_5 rfl) rfl rfl rfl rfl rfl ?_
            refine wl_gval (ov_loadAt oc34 rfl hb_g3 rfl) rfl rfl rfl rfl rfl ?_
            refine wl_gval (ov_eql rfl rfl) rfl rfl rfl rfl rfl ?_
            refine wl_case_d (d := 43) rfl (fun h43 => ?_) (fun h43 => ?_)
            · refine wl_val (ov_pick_t rfl rfl) rfl rfl rfl ?_
              refine vm rfl rfl ?_
              refine wl_gval (ov_field0 (off := 6) fo36_6 rfl) rfl rfl rfl rfl rfl ?_
              refine wl_gval (ov_loadAt oc33 rfl hb_g2 rfl) rfl rfl rfl rfl rfl ?_
              refine wl_gval (ov_field0 (off := 6) fo36_6 rfl) rfl rfl rfl rfl rfl ?_
              refine wl_gval (ov_loadAt oc33 rfl hb_g3 rfl) rfl rfl rfl rfl rfl ?_
              refine wl_gval (ov_eql rfl rfl) rfl rfl rfl rfl rfl ?_
              refine wl_case_d (d := 50) rfl (fun h50 => ?_) (fun h50 => ?_)
              · refine wl_val (ov_pick_t rfl rfl) rfl rfl rfl ?_
                refine vm rfl rfl ?_
                refine wl_gval (ov_field0 (off := 7) fo36_7 rfl) rfl rfl rfl rfl rfl ?_
                refine wl_gval (ov_loadAt oc9 rfl hb_g2 rfl) rfl rfl rfl rfl rfl ?_
                refine wl_gval (ov_field0 (off := 7) fo36_7 rfl) rfl rfl rfl rfl rfl ?_
                refine wl_gval (ov_loadAt oc9 rfl hb_g3 rfl) rfl rfl rfl rfl rfl ?_
                refine wl_gval (ov_seq rfl rfl) rfl rfl rfl rfl rfl ?_
                refine wl_case_d (d := 57) rfl (fun h57 => ?_) (fun h57 => ?_)
                · refine wl_val (ov_pick_t rfl rfl) rfl rfl rfl ?_
                  refine vm rfl rfl ?_
                  refine wl_gval (ov_field0 (off := 8) fo36_8 rfl) rfl rfl rfl rfl rfl ?_
                  refine wl_gval (ov_loadAt oc9 rfl hb_g2 rfl) rfl rfl rfl rfl rfl ?_
                  refine wl_gval (ov_field0 (off := 8) fo36_8 rfl) rfl rfl rfl rfl rfl ?_
                  refine wl_gval (ov_loadAt oc9 rfl hb_g3 rfl) rfl rfl rfl rfl rfl ?_
                  refine wl_gval (ov_seq rfl rfl) rfl rfl rfl rfl rfl ?_
                  refine wl_case_d (d := 64) rfl (fun h64 => ?_) (fun h64 => ?_)
                  · refine wl_val (ov_pick_t rfl rfl) rfl rfl rfl ?_
                    refine vm rfl rfl ?_
                    refine wl_gval (ov_field0 (off := 9) fo36_9 rfl) rfl rfl rfl rfl rfl ?_
                    refine wl_gval (ov_loadAt oc9 rfl hb_g2 rfl) rfl rfl rfl rfl rfl ?_
                    refine wl_gval (ov_field0 (off := 9) fo36_9 rfl) rfl rfl rfl rfl rfl ?_
                    refine wl_gval (ov_loadAt oc9 rfl hb_g3 rfl) rfl rfl rfl rfl rfl ?_
                    refine wl_gval (ov_seq rfl rfl) rfl rfl rfl rfl rfl ?_
                    refine wl_case_d (d := 71) rfl (fun h71 => ?_) (fun h71 => ?_)
                    · refine wl_val (ov_pick_t rfl rfl) rfl rfl rfl ?_
                      refine va rfl rfl ?_
                      refine q_nil (k_then (q_ret ?_))
                      refine e_ret rfl rfl ?_
                      exact ⟨by rw [decide_eq_true (Cmd.ext_iff'.2 ⟨h9, h15, h22, h29, h36, by omega, by omega, h57, h64, h71⟩)], hE⟩
                    · refine wl_val (ov_pick_t rfl rfl) rfl rfl rfl ?_
                      refine va rfl rfl ?_
                      refine q_nil (k_then (q_ret ?_))
                      refine e_ret rfl rfl ?_
                      exact ⟨by rw [decide_eq_false (fun e => h71 (by rw [e]))], hE⟩
                  · refine wl_val (ov_pick_t rfl rfl) rfl rfl rfl ?_
                    refine vm rfl rfl ?_
                    iterate 5 refine wl_gskip rfl rfl rfl rfl rfl rfl ?_
                    refine wl_val (ov_pick_f rfl rfl) rfl rfl rfl ?_
                    refine va rfl rfl ?_
                    refine q_nil (k_then (q_ret ?_))
                    refine e_ret rfl rfl ?_
                    exact ⟨by rw [decide_eq_false (fun e => h64 (by rw [e]))], hE⟩
                · refine wl_val (ov_pick_t rfl rfl) rfl rfl rfl ?_
                  refine vm rfl rfl ?_
                  iterate 5 refine wl_gskip rfl rfl rfl rfl rfl rfl ?_
                  refine wl_val (ov_pick_f rfl rfl) rfl rfl rfl ?_
                  refine vm rfl rfl ?_
                  iterate 5 refine wl_gskip rfl rfl rfl rfl rfl rfl ?_
                  refine wl_val (ov_pick_f rfl rfl) rfl rfl rfl ?_
                  refine va rfl rfl ?_
                  refine q_nil (k_then (q_ret ?_))
                  refine e_ret rfl rfl ?_
                  exact ⟨by rw [decide_eq_false (fun e => h57 (by rw [e]))], hE⟩
              · refine wl_val (ov_pick_t rfl rfl) rfl rfl rfl ?_
                refine vm rfl rfl ?_
                iterate 5 refine wl_gskip rfl rfl rfl rfl rfl rfl ?_
                refine wl_val (ov_pick_f rfl rfl) rfl rfl rfl ?_
                refine vm rfl rfl ?_
                iterate 5 refine wl_gskip rfl rfl rfl rfl rfl rfl ?_
                refine wl_val (ov_pick_f rfl rfl) rfl rfl rfl ?_
                refine vm rfl rfl ?_
                iterate 5 refine wl_gskip rfl rfl rfl rfl rfl rfl ?_
                refine wl_val (ov_pick_f rfl rfl) rfl rfl rfl ?_
                refine va rfl rfl ?_
                refine q_nil (k_then (q_ret ?_))
                refine e_ret rfl rfl ?_
                exact ⟨by rw [decide_eq_false (fun e => h50 (by rw [e]))], hE⟩
            · refine wl_val (ov_pick_t rfl rfl) rfl rfl rfl ?_
              refine vm rfl rfl ?_
              iterate 5 refine wl_gskip rfl rfl rfl rfl rfl rfl ?_
              refine wl_val (ov_pick_f rfl rfl) rfl rfl rfl ?_
              refine vm rfl rfl ?_
              iterate 5 refine wl_gskip rfl rfl rfl rfl rfl rfl ?_
              refine wl_val (ov_pick_f rfl rfl) rfl rfl rfl ?_
              refine vm rfl rfl ?_
              iterate 5 refine wl_gskip rfl rfl rfl rfl rfl rfl ?_
              refine wl_val (ov_pick_f rfl rfl) rfl rfl rfl ?_
              refine vm rfl rfl ?_
              iterate 5 refine wl_gskip rfl rfl rfl rfl rfl rfl ?_
              refine wl_val (ov_pick_f rfl rfl) rfl rfl rfl ?_
              refine va rfl rfl ?_
              refine q_nil (k_then (q_ret ?_))
              refine e_ret rfl rfl ?_
              exact ⟨by rw [decide_eq_false (fun e => h43 (by rw [e]))], hE⟩
          · refine wl_val (ov_pick_t rfl rfl) rfl rfl rfl ?_
            refine vm rfl rfl ?_
            iterate 5 refine wl_gskip rfl rfl rfl rfl rfl rfl ?_
            refine wl_val (ov_pick_f rfl rfl) rfl rfl rfl ?_
            refine vm rfl rfl ?_
            iterate 5 refine wl_gskip rfl rfl rfl rfl rfl rfl ?_
            refine wl_val (ov_pick_f rfl rfl) rfl rfl rfl ?_
            refine vm rfl rfl ?_
            iterate 5 refine wl_gskip rfl rfl rfl rfl rfl rfl ?_
            refine wl_val (ov_pick_f rfl rfl) rfl rfl rfl ?_
            refine vm rfl rfl ?_
            iterate 5 refine wl_gskip rfl rfl rfl rfl rfl rfl ?_
            refine wl_val (ov_pick_f rfl rfl) rfl rfl rfl ?_
            refine vm rfl rfl ?_
            iterate 5 refine wl_gskip rfl rfl rfl rfl rfl rfl ?_
            refine wl_val (ov_pick_f rfl rfl) rfl rfl rfl ?_
            refine va rfl rfl ?_
            refine q_nil (k_then (q_ret ?_))
            refine e_ret rfl rfl ?_
            exact ⟨by rw [decide_eq_false (fun e => h36 (by rw [e]))], hE⟩
        · refine wl_val (ov_pick_t rfl rfl) rfl rfl rfl ?_
          refine vm rfl rfl ?_
          iterate 5 refine wl_gskip rfl rfl rfl rfl rfl rfl ?_
          refine wl_val (ov_pick_f rfl rfl) rfl rfl rfl ?_
          refine vm rfl rfl ?_
          iterate 5 refine wl_gskip rfl rfl rfl rfl rfl rfl ?_
          refine wl_val (ov_pick_f rfl rfl) rfl rfl rfl ?_
          refine vm rfl rfl ?_
          iterate 5 refine wl_gskip rfl rfl rfl rfl rfl rfl ?_
          refine wl_val (ov_pick_f rfl rfl) rfl rfl rfl ?_
          refine vm rfl rfl ?_
          iterate 5 refine wl_gskip rfl rfl rfl rfl rfl rfl ?_
          refine wl_val (ov_pick_f rfl rfl) rfl rfl rfl ?_
          refine vm rfl rfl ?_
          iterate 5 refine wl_gskip rfl rfl rfl rfl rfl rfl ?_
          refine wl_val (ov_pick_f rfl rfl) rfl rfl rfl ?_
          refine vm rfl rfl ?_
          iterate 5 refine wl_gskip rfl rfl rfl rfl rfl rfl ?_
          refine wl_val (ov_pick_f rfl rfl) rfl rfl rfl ?_
          refine va rfl rfl ?_
          refine q_nil (k_then (q_ret ?_))
          refine e_ret rfl rfl ?_
          exact ⟨by rw [decide_eq_false (fun e => h29 (by rw [e]))], hE⟩
      · refine wl_val (ov_pick_t rfl rfl) rfl rfl rfl ?_
        refine vm rfl rfl ?_
        iterate 5 refine wl_gskip rfl rfl rfl rfl rfl rfl ?_
        refine wl_val (ov_pick_f rfl rfl) rfl rfl rfl ?_
        refine vm rfl rfl ?_
        iterate 5 refine wl_gskip rfl rfl rfl rfl rfl rfl ?_
        refine wl_val (ov_pick_f rfl rfl) rfl rfl rfl ?_
        refine vm rfl rfl ?_
        iterate 5 refine wl_gskip rfl rfl rfl rfl rfl rfl ?_
        refine wl_val (ov_pick_f rfl rfl) rfl rfl rfl ?_
        refine vm rfl rfl ?_
        iterate 5 refine wl_gskip rfl rfl rfl rfl rfl rfl ?_
        refine wl_val (ov_pick_f rfl rfl) rfl rfl rfl ?_
        refine vm rfl rfl ?_
        iterate 5 refine wl_gskip rfl rfl rfl rfl rfl rfl ?_
        refine wl_val (ov_pick_f rfl rfl) rfl rfl rfl ?_
        refine vm rfl rfl ?_
        iterate 5 refine wl_gskip rfl rfl rfl rfl rfl rfl ?_
        refine wl_val (ov_pick_f rfl rfl) rfl rfl rfl ?_
        refine vm rfl rfl ?_
        iterate 5 refine wl_gskip rfl rfl rfl rfl rfl rfl ?_
        refine wl_val (ov_pick_f rfl rfl) rfl rfl rfl ?_
        refine va rfl rfl ?_
        refine q_nil (k_then (q_ret ?_))
        refine e_ret rfl rfl ?_
        exact ⟨by rw [decide_eq_false (fun e => h22 (by rw [e]))], hE⟩
    · refine wl_val (ov_pick_t rfl rfl) rfl rfl rfl ?_
      refine vm rfl rfl ?_
      iterate 5 refine wl_gskip rfl rfl rfl rfl rfl rfl ?_
      refine wl_val (ov_pick_f rfl rfl) rfl rfl rfl ?_
      refine vm rfl rfl ?_
      iterate 5 refine wl_gskip rfl rfl rfl rfl rfl rfl ?_
      refine wl_val (ov_pick_f rfl rfl) rfl rfl rfl ?_
      refine vm rfl rfl ?_
      iterate 5 refine wl_gskip rfl rfl rfl rfl rfl rfl ?_
      refine wl_val (ov_pick_f rfl rfl) rfl rfl rfl ?_
      refine vm rfl rfl ?_
      iterate 5 refine wl_gskip rfl rfl rfl rfl rfl rfl ?_
      refine wl_val (ov_pick_f rfl rfl) rfl rfl rfl ?_
      refine vm rfl rfl ?_
      iterate 5 refine wl_gskip rfl rfl rfl rfl rfl rfl ?_
      refine wl_val (ov_pick_f rfl rfl) rfl rfl rfl ?_
      refine vm rfl rfl ?_
      iterate 5 refine wl_gskip rfl rfl rfl rfl rfl rfl ?_
      refine wl_val (ov_pick_f rfl rfl) rfl rfl rfl ?_
      refine vm rfl rfl ?_
      iterate 5 refine wl_gskip rfl rfl rfl rfl rfl rfl ?_
      refine wl_val (ov_pick_f rfl rfl) rfl rfl rfl ?_
      refine vm rfl rfl ?_
      iterate 5 refine wl_gskip rfl rfl rfl rfl rfl rfl ?_
      refine wl_val (ov_pick_f rfl rfl) rfl rfl rfl ?_
      refine va rfl rfl ?_
      refine q_nil (k_then (q_ret ?_))
      refine e_ret rfl rfl ?_
      exact ⟨by rw [decide_eq_false (fun e => h15 (by rw [e]))], hE⟩
  · refine vm rfl rfl ?_
    iterate 5 refine wl_gskip rfl rfl rfl rfl rfl rfl ?_
    refine wl_val (ov_pick_f rfl rfl) rfl rfl rfl ?_
    refine vm rfl rfl ?_
    iterate 5 refine wl_gskip rfl rfl rfl rfl rfl rfl ?_
    refine wl_val (ov_pick_f rfl rfl) rfl rfl rfl ?_
    refine vm rfl rfl ?_
    iterate 5 refine wl_gskip rfl rfl rfl rfl rfl rfl ?_
    refine wl_val (ov_pick_f rfl rfl) rfl rfl rfl ?_
    refine vm rfl rfl ?_
    iterate 5 refine wl_gskip rfl rfl rfl rfl rfl rfl ?_
    refine wl_val (ov_pick_f rfl rfl) rfl rfl rfl ?_
    refine vm rfl rfl ?_
    iterate 5 refine wl_gskip rfl rfl rfl rfl rfl rfl ?_
    refine wl_val (ov_pick_f rfl rfl) rfl rfl rfl ?_
    refine vm rfl rfl ?_
    iterate 5 refine wl_gskip rfl rfl rfl rfl rfl rfl ?_
    refine wl_val (ov_pick_f rfl rfl) rfl rfl rfl ?_
    refine vm rfl rfl ?_
    iterate 5 refine wl_gskip rfl rfl rfl rfl rfl rfl ?_
    refine wl_val (ov_pick_f rfl rfl) rfl rfl rfl ?_
    refine vm rfl rfl ?_
    iterate 5 refine wl_gskip rfl rfl rfl rfl rfl rfl ?_
    refine wl_val (ov_pick_f rfl rfl) rfl rfl rfl ?_
    refine vm rfl rfl ?_
    iterate 5 refine wl_gskip rfl rfl rfl rfl rfl rfl ?_
    refine wl_val (ov_pick_f rfl rfl) rfl rfl rfl ?_
    refine va rfl rfl ?_
    refine q_nil (k_then (q_ret ?_))
    refine e_ret rfl rfl ?_
    exact ⟨by rw [decide_eq_false (fun e => h9 (by rw [e]))], hE⟩

theorem requal_any (w : World) (a : Cmd) (lo hi : Nat) (K : Option Addr) (ck : Nat) (V : Option Addr) (cv : Nat) (T : Option Addr) (ct : Nat) (hK : RdS w lo hi K ck a.keys) (hV : RdB w lo hi V cv a.value) (hT : RdS w lo hi T ct a.tags) (b : Cmd) (lo2 hi2 : Nat) (K2 : Option Addr) (ck2 : Nat) (V2 : Option Addr) (cv2 : Nat) (T2 : Option Addr) (ct2 : Nat) (hK2 : RdS w lo2 hi2 K2 ck2 b.keys) (hV2 : RdB w lo2 hi2 V2 cv2 b.value) (hT2 : RdS w lo2 hi2 T2 ct2 b.tags) :
    Fn Tryd.prog 18 #[(.agg #[(.int .i64 a.op), (.string (strB a.key)), (.slice K a.keys.length ck), (.slice V a.value.length cv), (.slice T a.tags.length ct), (.int .u64 (↑a.life : Int)), (.int .u64 (↑a.ver : Int)), (.string (strB a.tag)), (.string (strB a.pre)), (.string (strB a.child))]), (.agg #[(.int .i64 b.op), (.string (strB b.key)), (.slice K2 b.keys.length ck2), (.slice V2 b.value.length cv2), (.slice T2 b.tags.length ct2), (.int .u64 (↑b.life : Int)), (.int .u64 (↑b.ver : Int)), (.string (strB b.tag)), (.string (strB b.pre)), (.string (strB b.child))])] w (fun v w' => v = .bool (decide (a = b)) ∧ Ext w w')  := by
  have hE := ext_refl w
  refine fn_enter (args := [(.agg #[(.int .i64 a.op), (.string (strB a.key)), (.slice K a.keys.length ck), (.slice V a.value.length cv), (.slice T a.tags.length ct), (.int .u64 (↑a.life : Int)), (.int .u64 (↑a.ver : Int)), (.string (strB a.tag)), (.string (strB a.pre)), (.string (strB a.child))]), (.agg #[(.int .i64 b.op), (.string (strB b.key)), (.slice K2 b.keys.length ck2), (.slice V2 b.value.length cv2), (.slice T2 b.tags.length ct2), (.int .u64 (↑b.life : Int)), (.int .u64 (↑b.ver : Int)), (.string (strB b.tag)), (.string (strB b.pre)), (.string (strB b.child))])]) Tryd.func18 rfl rfl rfl ?_
  show WC _ _ _ _ [(0, (.agg #[(.int .i64 a.op), (.string (strB a.key)), (.slice K a.keys.length ck), (.slice V a.value.length cv), (.slice T a.tags.length ct), (.int .u64 (↑a.life : Int)), (.int .u64 (↑a.ver : Int)), (.string (strB a.tag)), (.string (strB a.pre)), (.string (strB a.child))])), (1, (.agg #[(.int .i64 b.op), (.string (strB b.key)), (.slice K2 b.keys.length ck2), (.slice V2 b.value.length cv2), (.slice T2 b.tags.length ct2), (.int .u64 (↑b.life : Int)), (.int .u64 (↑b.ver : Int)), (.string (strB b.tag)), (.string (strB b.pre)), (.string (strB b.child))]))] _
  refine wc_seq (wc_regionL ?_)
  refine wl_step (or_box (cs := [(.int .i64 a.op), (.string (strB a.key)), (.slice K a.keys.length ck), (.slice V a.value.length cv), (.slice T a.tags.length ct), (.int .u64 (↑a.life : Int)), (.int .u64 (↑a.ver : Int)), (.string (strB a.tag)), (.string (strB a.pre)), (.string (strB a.child))]) rfl rfl) rfl rfl rfl ?_
  rintro v w1 ⟨g2, rfl, hb_g2, he2, hl2, hu2⟩
  replace hK := hK.ext he2
  replace hV := hV.ext he2
  replace hT := hT.ext he2
  replace hK2 := hK2.ext he2
  replace hV2 := hV2.ext he2
  replace hT2 := hT2.ext he2
  replace hE := hE.tr he2
  have hz_he2 := he2.size
  refine wl_step (or_box (cs := [(.int .i64 b.op), (.string (strB b.key)), (.slice K2 b.keys.length ck2), (.slice V2 b.value.length cv2), (.slice T2 b.tags.length ct2), (.int .u64 (↑b.life : Int)), (.int .u64 (↑b.ver : Int)), (.string (strB b.tag)), (.string (strB b.pre)), (.string (strB b.child))]) rfl rfl) rfl rfl rfl ?_
  rintro v w2 ⟨g3, rfl, hb_g3, he3, hl3, hu3⟩
  replace hK := hK.ext he3
  replace hV := hV.ext he3
  replace hT := hT.ext he3
  replace hK2 := hK2.ext he3
  replace hV2 := hV2.ext he3
  replace hT2 := hT2.ext he3
  replace hE := hE.tr he3
  replace hb_g2 := hb_g2.ext he3
  have hz_he3 := he3.size
  refine va rfl rfl ?_
  refine q_nil (k_then (wc_seq (wc_regionL ?_)))
  refine wl_val (ov_field0 (off := 0) fo36_0 rfl) rfl rfl rfl ?_
  refine wl_val (ov_loadAt oc22 rfl hb_g2 rfl) rfl rfl rfl ?_
  refine wl_val (ov_field0 (off := 0) fo36_0 rfl) rfl rfl rfl ?_
  refine wl_val (ov_loadAt oc22 rfl hb_g3 rfl) rfl rfl rfl ?_
  refine ve rfl rfl rfl ?_
  refine wl_case_d (d := 9) rfl (fun h9 => ?_) (fun h9 => ?_)
  · refine vm rfl rfl ?_
    refine wl_gval (ov_field0 (off := 1) fo36_1 rfl) rfl rfl rfl rfl rfl ?_
    refine wl_gval (ov_loadAt oc9 rfl hb_g2 rfl) rfl rfl rfl rfl rfl ?_
    refine wl_gval (ov_field0 (off := 1) fo36_1 rfl) rfl rfl rfl rfl rfl ?_
    refine wl_gval (ov_loadAt oc9 rfl hb_g3 rfl) rfl rfl rfl rfl rfl ?_
    refine wl_gval (ov_seq rfl rfl) rfl rfl rfl rfl rfl ?_
    refine wl_case_d (d := 15) rfl (fun h15 => ?_) (fun h15 => ?_)
    · refine wl_val (ov_pick_t rfl rfl) rfl rfl rfl ?_
      refine vm rfl rfl ?_
      refine wl_gval (ov_field0 (off := 2) fo36_2 rfl) rfl rfl rfl rfl rfl ?_
      refine wl_gval (ov_loadAt oc27 rfl hb_g2 rfl) rfl rfl rfl rfl rfl ?_
      refine wl_gval (ov_field0 (off := 2) fo36_2 rfl) rfl rfl rfl rfl rfl ?_
      refine wl_gval (ov_loadAt oc27 rfl hb_g3 rfl) rfl rfl rfl rfl rfl ?_
      refine wl_gstep (or_call0 cl32 rfl rfl (same_any _ _ _ _ _ K ck a.keys K2 ck2 b.keys hK hK2)) rfl rfl rfl rfl rfl ?_
      rintro v w3 ⟨rfl, he22⟩
      replace hK := hK.ext he22
      replace hV := hV.ext he22
      replace hT := hT.ext he22
      replace hK2 := hK2.ext he22
      replace hV2 := hV2.ext he22
      replace hT2 := hT2.ext he22
      replace hE := hE.tr he22
      replace hb_g2 := hb_g2.ext he22
      replace hb_g3 := hb_g3.ext he22
      have hz_he22 := he22.size
      refine wl_case_d (d := 22) rfl (fun h22 => ?_) (fun h22 => ?_)
      · refine wl_val (ov_pick_t rfl rfl) rfl rfl rfl ?_
        refine vm rfl rfl ?_
        refine wl_gval (ov_field0 (off := 3) fo36_3 rfl) rfl rfl rfl rfl rfl ?_
        refine wl_gval (ov_loadAt oc32 rfl hb_g2 rfl) rfl rfl rfl rfl rfl ?_
        refine wl_gval (ov_bstr bt32 Tryd.underlying9 rfl hV) rfl rfl rfl rfl rfl ?_
        refine wl_gval (ov_field0 (off := 3) fo36_3 rfl) rfl rfl rfl rfl rfl ?_
        refine wl_gval (ov_loadAt oc32 rfl hb_g3 rfl) rfl rfl rfl rfl rfl ?_
        refine wl_gval (ov_bstr bt32 Tryd.underlying9 rfl hV2) rfl rfl rfl rfl rfl ?_
        refine wl_gval (ov_seq rfl rfl) rfl rfl rfl rfl rfl ?_
        refine wl_case_d (d := 31) rfl (fun h31 => ?_) (fun h31 => ?_)
        · refine wl_val (ov_pick_t rfl rfl) rfl rfl rfl ?_
          refine vm rfl rfl ?_
          refine wl_gval (ov_field0 (off := 4) fo36_4 rfl) rfl rfl rfl rfl rfl ?_
          refine wl_gval (ov_loadAt oc27 rfl hb_g2 rfl) rfl rfl rfl rfl rfl ?_
          refine wl_gval (ov_field0 (off := 4) fo36_4 rfl) rfl rfl rfl rfl rfl ?_
          refine wl_gval (ov_loadAt oc27 rfl hb_g3 rfl) rfl rfl rfl rfl rfl ?_
          refine wl_gstep (or_call0 cl32 rfl rfl (same_any _ _ _ _ _ T ct a.tags T2 ct2 b.tags hT hT2)) rfl rfl rfl rfl rfl ?_
          rintro v w4 ⟨rfl, he38⟩
          replace hK := hK.ext he38
          replace hV := hV.ext he38
          replace hT := hT.ext he38
          replace hK2 := hK2.ext he38
          replace hV2 := hV2.ext he38
          replace hT2 := hT2.ext he38
          replace hE := hE.tr he38
          replace hb_g2 := hb_g2.ext he38
          replace hb_g3 := hb_g3.ext he38
          have hz_he38 := he38.size
          refine wl_case_d (d := 38) rfl (fun h38 => ?_) (fun h38 => ?_)
          · refine wl_val (ov_pick_t rfl rfl) rfl rfl rfl ?_
            refine vm rfl rfl ?_
            refine wl_gval (ov_field0 (off := 5) fo36_5 rfl) rfl rfl rfl rfl rfl ?_
            refine wl_gval (ov_loadAt oc34 rfl hb_g2 rfl) rfl rfl rfl rfl rfl ?_
            refine wl_gval (ov_field0 (off := 5) fo36_5 rfl) rfl rfl rfl rfl rfl ?_
            refine wl_gval (ov_loadAt oc34 rfl hb_g3 rfl) rfl rfl rfl rfl rfl ?_
            refine wl_gval (ov_eql rfl rfl) rfl rfl rfl rfl rfl ?_
            refine wl_case_d (d := 45) rfl (fun h45 => ?_) (fun h45 => ?_)
            · refine wl_val (ov_pick_t rfl rfl) rfl rfl rfl ?_
              refine vm rfl rfl ?_
              refine wl_gval (ov_field0 (off := 6) fo36_6 rfl) rfl rfl rfl rfl rfl ?_
              refine wl_gval (ov_loadAt oc33 rfl hb_g2 rfl) rfl rfl rfl rfl rfl ?_
              refine wl_gval (ov_field0 (off := 6) fo36_6 rfl) rfl rfl rfl rfl rfl ?_
              refine wl_gval (ov_loadAt oc33 rfl hb_g3 rfl) rfl rfl rfl rfl rfl ?_
              refine wl_gval (ov_eql rfl rfl) rfl rfl rfl rfl rfl ?_
              refine wl_case_d (d := 52) rfl (fun h52 => ?_) (fun h52 => ?_)
              · refine wl_val (ov_pick_t rfl rfl) rfl rfl rfl ?_
                refine vm rfl rfl ?_
                refine wl_gval (ov_field0 (off := 7) fo36_7 rfl) rfl rfl rfl rfl rfl ?_
                refine wl_gval (ov_loadAt oc9 rfl hb_g2 rfl) rfl rfl rfl rfl rfl ?_
                refine wl_gval (ov_field0 (off := 7) fo36_7 rfl) rfl rfl rfl rfl rfl ?_
                refine wl_gval (ov_loadAt oc9 rfl hb_g3 rfl) rfl rfl rfl rfl rfl ?_
                refine wl_gval (ov_seq rfl rfl) rfl rfl rfl rfl rfl ?_
                refine wl_case_d (d := 59) rfl (fun h59 => ?_) (fun h59 => ?_)
                · refine wl_val (ov_pick_t rfl rfl) rfl rfl rfl ?_
                  refine vm rfl rfl ?_
                  refine wl_gval (ov_field0 (off := 8) fo36_8 rfl) rfl rfl rfl rfl rfl ?_
                  refine wl_gval (ov_loadAt oc9 rfl hb_g2 rfl) rfl rfl rfl rfl rfl ?_
                  refine wl_gval (ov_field0 (off := 8) fo36_8 rfl) rfl rfl rfl rfl rfl ?_
                  refine wl_gval (ov_loadAt oc9 rfl hb_g3 rfl) rfl rfl rfl rfl rfl ?_
                  refine wl_gval (ov_seq rfl rfl) rfl rfl rfl rfl rfl ?_
                  refine wl_case_d (d := 66) rfl (fun h66 => ?_) (fun h66 => ?_)
                  · refine wl_val (ov_pick_t rfl rfl) rfl rfl rfl ?_
                    refine vm rfl rfl ?_
                    refine wl_gval (ov_field0 (off := 9) fo36_9 rfl) rfl rfl rfl rfl rfl ?_
                    refine wl_gval (ov_loadAt oc9 rfl hb_g2 rfl) rfl rfl rfl rfl rfl ?_
                    refine wl_gval (ov_field0 (off := 9) fo36_9 rfl) rfl rfl rfl rfl rfl ?_
                    refine wl_gval (ov_loadAt oc9 rfl hb_g3 rfl) rfl rfl rfl rfl rfl ?_
                    refine wl_gval (ov_seq rfl rfl) rfl rfl rfl rfl rfl ?_
                    refine wl_case_d (d := 73) rfl (fun h73 => ?_) (fun h73 => ?_)
                    · refine wl_val (ov_pick_t rfl rfl) rfl rfl rfl ?_
                      refine va rfl rfl ?_
                      refine q_nil (k_then (q_ret ?_))
                      refine e_ret rfl rfl ?_
                      exact ⟨by rw [decide_eq_true (Cmd.ext_iff'.2 ⟨h9, h15, h22, h31, h38, by omega, by omega, h59, h66, h73⟩)], hE⟩
                    · refine wl_val (ov_pick_t rfl rfl) rfl rfl rfl ?_
                      refine va rfl rfl ?_
                      refine q_nil (k_then (q_ret ?_))
                      refine e_ret rfl rfl ?_
                      exact ⟨by rw [decide_eq_false (fun e => h73 (by rw [e]))], hE⟩
                  · refine wl_val (ov_pick_t rfl rfl) rfl rfl rfl ?_
                    refine vm rfl rfl ?_
                    iterate 5 refine wl_gskip rfl rfl rfl rfl rfl rfl ?_
                    refine wl_val (ov_pick_f rfl rfl) rfl rfl rfl ?_
                    refine va rfl rfl ?_
                    refine q_nil (k_then (q_ret ?_))
                    refine e_ret rfl rfl ?_
                    exact ⟨by rw [decide_eq_false (fun e => h66 (by rw [e]))], hE⟩
                · refine wl_val (ov_pick_t rfl rfl) rfl rfl rfl ?_
                  refine vm rfl rfl ?_
                  iterate 5 refine wl_gskip rfl rfl rfl rfl rfl rfl ?_
                  refine wl_val (ov_pick_f rfl rfl) rfl rfl rfl ?_
                  refine vm rfl rfl ?_
                  iterate 5 refine wl_gskip rfl rfl rfl rfl rfl rfl ?_
                  refine wl_val (ov_pick_f rfl rfl) rfl rfl rfl ?_
                  refine va rfl rfl ?_
                  refine q_nil (k_then (q_ret ?_))
                  refine e_ret rfl rfl ?_
                  exact ⟨by rw [decide_eq_false (fun e => h59 (by rw [e]))], hE⟩
              · refine wl_val (ov_pick_t rfl rfl) rfl rfl rfl ?_
                refine vm rfl rfl ?_
                iterate 5 refine wl_gskip rfl rfl rfl rfl rfl rfl ?_
                refine wl_val (ov_pick_f rfl rfl) rfl rfl rfl ?_
                refine vm rfl rfl ?_
                iterate 5 refine wl_gskip rfl rfl rfl rfl rfl rfl ?_
                refine wl_val (ov_pick_f rfl rfl) rfl rfl rfl ?_
                refine vm rfl rfl ?_
                iterate 5 refine wl_gskip rfl rfl rfl rfl rfl rfl ?_
                refine wl_val (ov_pick_f rfl rfl) rfl rfl rfl ?_
                refine va rfl rfl ?_
                refine q_nil (k_then (q_ret ?_))
                refine e_ret rfl rfl ?_
                exact ⟨by rw [decide_eq_false (fun e => h52 (by rw [e]))], hE⟩
            · refine wl_val (ov_pick_t rfl rfl) rfl rfl rfl ?_
              refine vm rfl rfl ?_
              iterate 5 refine wl_gskip rfl rfl rfl rfl rfl rfl ?_
              refine wl_val (ov_pick_f rfl rfl) rfl rfl rfl ?_
              refine vm rfl rfl ?_
              iterate 5 refine wl_gskip rfl rfl rfl rfl rfl rfl ?_
              refine wl_val (ov_pick_f rfl rfl) rfl rfl rfl ?_
              refine vm rfl rfl ?_
              iterate 5 refine wl_gskip rfl rfl rfl rfl rfl rfl ?_
              refine wl_val (ov_pick_f rfl rfl) rfl rfl rfl ?_
              refine vm rfl rfl ?_
              iterate 5 refine wl_gskip rfl rfl rfl rfl rfl rfl ?_
              refine wl_val (ov_pick_f rfl rfl) rfl rfl rfl ?_
              refine va rfl rfl ?_
              refine q_nil (k_then (q_ret ?_))
              refine e_ret rfl rfl ?_
              exact ⟨by rw [decide_eq_false (fun e => h45 (by rw [e]))], hE⟩
          · refine wl_val (ov_pick_t rfl rfl) rfl rfl rfl ?_
            refine vm rfl rfl ?_
            iterate 5 refine wl_gskip rfl rfl rfl rfl rfl rfl ?_
            refine wl_val (ov_pick_f rfl rfl) rfl rfl rfl ?_
            refine vm rfl rfl ?_
            iterate 5 refine wl_gskip rfl rfl rfl rfl rfl rfl ?_
            refine wl_val (ov_pick_f rfl rfl) rfl rfl rfl ?_
            refine vm rfl rfl ?_
            iterate 5 refine wl_gskip rfl rfl rfl rfl rfl rfl ?_
            refine wl_val (ov_pick_f rfl rfl) rfl rfl rfl ?_
            refine vm rfl rfl ?_
            iterate 5 refine wl_gskip rfl rfl rfl rfl rfl rfl ?_
            refine wl_val (ov_pick_f rfl rfl) rfl rfl rfl ?_
            refine vm rfl rfl ?_
            iterate 5 refine wl_gskip rfl rfl rfl rfl rfl rfl ?_
            refine wl_val (ov_pick_f rfl rfl) rfl rfl rfl ?_
            refine va rfl rfl ?_
            refine q_nil (k_then (q_ret ?_))
            refine e_ret rfl rfl ?_
            exact ⟨by rw [decide_eq_false (fun e => h38 (by rw [e]))], hE⟩
        · refine wl_val (ov_pick_t rfl rfl) rfl rfl rfl ?_
          refine vm rfl rfl ?_
          iterate 5 refine wl_gskip rfl rfl rfl rfl rfl rfl ?_
          refine wl_val (ov_pick_f rfl rfl) rfl rfl rfl ?_
          refine vm rfl rfl ?_
          iterate 5 refine wl_gskip rfl rfl rfl rfl rfl rfl ?_
          refine wl_val (ov_pick_f rfl rfl) rfl rfl rfl ?_
          refine vm rfl rfl ?_
          iterate 5 refine wl_gskip rfl rfl rfl rfl rfl rfl ?_
          refine wl_val (ov_pick_f rfl rfl) rfl rfl rfl ?_
          refine vm rfl rfl ?_
          iterate 5 refine wl_gskip rfl rfl rfl rfl rfl rfl ?_
          refine wl_val (ov_pick_f rfl rfl) rfl rfl rfl ?_
          refine vm rfl rfl ?_
          iterate 5 refine wl_gskip rfl rfl rfl rfl rfl rfl ?_
          refine wl_val (ov_pick_f rfl rfl) rfl rfl rfl ?_
          refine vm rfl rfl ?_
          iterate 5 refine wl_gskip rfl rfl rfl rfl rfl rfl ?_
          refine wl_val (ov_pick_f rfl rfl) rfl rfl rfl ?_
          refine va rfl rfl ?_
          refine q_nil (k_then (q_ret ?_))
          refine e_ret rfl rfl ?_
          exact ⟨by rw [decide_eq_false (fun e => h31 (by rw [e]))], hE⟩
      · refine wl_val (ov_pick_t rfl rfl) rfl rfl rfl ?_
        refine vm rfl rfl ?_
        iterate 7 refine wl_gskip rfl rfl rfl rfl rfl rfl ?_
        refine wl_val (ov_pick_f rfl rfl) rfl rfl rfl ?_
        refine vm rfl rfl ?_
        iterate 5 refine wl_gskip rfl rfl rfl rfl rfl rfl ?_
        refine wl_val (ov_pick_f rfl rfl) rfl rfl rfl ?_
        refine vm rfl rfl ?_
        iterate 5 refine wl_gskip rfl rfl rfl rfl rfl rfl ?_
        refine wl_val (ov_pick_f rfl rfl) rfl rfl rfl ?_
        refine vm rfl rfl ?_
        iterate 5 refine wl_gskip rfl rfl rfl rfl rfl rfl ?_
        refine wl_val (ov_pick_f rfl rfl) rfl rfl rfl ?_
        refine vm rfl rfl ?_
        iterate 5 refine wl_gskip rfl rfl rfl rfl rfl rfl ?_
        refine wl_val (ov_pick_f rfl rfl) rfl rfl rfl ?_
        refine vm rfl rfl ?_
        iterate 5 refine wl_gskip rfl rfl rfl rfl rfl rfl ?_
        refine wl_val (ov_pick_f rfl rfl) rfl rfl rfl ?_
        refine vm rfl rfl ?_
        iterate 5 refine wl_gskip rfl rfl rfl rfl rfl rfl ?_
        refine wl_val (ov_pick_f rfl rfl) rfl rfl rfl ?_
        refine va rfl rfl ?_
        refine q_nil (k_then (q_ret ?_))
        refine e_ret rfl rfl ?_
        exact ⟨by rw [decide_eq_false (fun e => h22 (by rw [e]))], hE⟩
    · refine wl_val (ov_pick_t rfl rfl) rfl rfl rfl ?_
      refine vm rfl rfl ?_
      iterate 5 refine wl_gskip rfl rfl rfl rfl rfl rfl ?_
      refine wl_val (ov_pick_f rfl rfl) rfl rfl rfl ?_
      refine vm rfl rfl ?_
      iterate 7 refine wl_gskip rfl rfl rfl rfl rfl rfl ?_
      refine wl_val (ov_pick_f rfl rfl) rfl rfl rfl ?_
      refine vm rfl rfl ?_
      iterate 5 refine wl_gskip rfl rfl rfl rfl rfl rfl ?_
      refine wl_val (ov_pick_f rfl rfl) rfl rfl rfl ?_
      refine vm rfl rfl ?_
      iterate 5 refine wl_gskip rfl rfl rfl rfl rfl rfl ?_
      refine wl_val (ov_pick_f rfl rfl) rfl rfl rfl ?_
      refine vm rfl rfl ?_
      iterate 5 refine wl_gskip rfl rfl rfl rfl rfl rfl ?_
      refine wl_val (ov_pick_f rfl rfl) rfl rfl rfl ?_
      refine vm rfl rfl ?_
      iterate 5 refine wl_gskip rfl rfl rfl rfl rfl rfl ?_
      refine wl_val (ov_pick_f rfl rfl) rfl rfl rfl ?_
      refine vm rfl rfl ?_
      iterate 5 refine wl_gskip rfl rfl rfl rfl rfl rfl ?_
      refine wl_val (ov_pick_f rfl rfl) rfl rfl rfl ?_
      refine vm rfl rfl ?_
      iterate 5 refine wl_gskip rfl rfl rfl rfl rfl rfl ?_
      refine wl_val (ov_pick_f rfl rfl) rfl rfl rfl ?_
      refine va rfl rfl ?_
      refine q_nil (k_then (q_ret ?_))
      refine e_ret rfl rfl ?_
      exact ⟨by rw [decide_eq_false (fun e => h15 (by rw [e]))], hE⟩
  · refine vm rfl rfl ?_
    iterate 5 refine wl_gskip rfl rfl rfl rfl rfl rfl ?_
    refine wl_val (ov_pick_f rfl rfl) rfl rfl rfl ?_
    refine vm rfl rfl ?_
    iterate 5 refine wl_gskip rfl rfl rfl rfl rfl rfl ?_
    refine wl_val (ov_pick_f rfl rfl) rfl rfl rfl ?_
    refine vm rfl rfl ?_
    iterate 7 refine wl_gskip rfl rfl rfl rfl rfl rfl ?_
    refine wl_val (ov_pick_f rfl rfl) rfl rfl rfl ?_
    refine vm rfl rfl ?_
    iterate 5 refine wl_gskip rfl rfl rfl rfl rfl rfl ?_
    refine wl_val (ov_pick_f rfl rfl) rfl rfl rfl ?_
    refine vm rfl rfl ?_
    iterate 5 refine wl_gskip rfl rfl rfl rfl rfl rfl ?_
    refine wl_val (ov_pick_f rfl rfl) rfl rfl rfl ?_
    refine vm rfl rfl ?_
    iterate 5 refine wl_gskip rfl rfl rfl rfl rfl rfl ?_
    refine wl_val (ov_pick_f rfl rfl) rfl rfl rfl ?_
    refine vm rfl rfl ?_
    iterate 5 refine wl_gskip rfl rfl rfl rfl rfl rfl ?_
    refine wl_val (ov_pick_f rfl rfl) rfl rfl rfl ?_
    refine vm rfl rfl ?_
    iterate 5 refine wl_gskip rfl rfl rfl rfl rfl rfl ?_
    refine wl_val (ov_pick_f rfl rfl) rfl rfl rfl ?_
    refine vm rfl rfl ?_
    iterate 5 refine wl_gskip rfl rfl rfl rfl rfl rfl ?_
    refine wl_val (ov_pick_f rfl rfl) rfl rfl rfl ?_
    refine va rfl rfl ?_
    refine q_nil (k_then (q_ret ?_))
    refine e_ret rfl rfl ?_
    exact ⟨by rw [decide_eq_false (fun e => h9 (by rw [e]))], hE⟩

/-- The command of a frame, and the error. -/
def rdC (code : UInt8) (l : List UInt8) : Cmd × Nat := if 1 ≤ code.toNat ∧ code.toNat ≤ 15 ∧ (rfold (code.toNat : Int) l).2.2 = false ∧ (rfold (code.toNat : Int) l).2.1 = [] then ((rfold (code.toNat : Int) l).1, 0) else (cmd0 0, 6)
theorem rdC_ok {code : UInt8} {l : List UInt8} (h1 : 1 ≤ code.toNat) (h2 : code.toNat ≤ 15) (h3 : (rfold (code.toNat : Int) l).2.2 = false) (h4 : (rfold (code.toNat : Int) l).2.1 = []) : rdC code l = ((rfold (code.toNat : Int) l).1, 0) := if_pos ⟨h1, h2, h3, h4⟩
theorem rdC_bad {code : UInt8} {l : List UInt8} (h : ¬ (1 ≤ code.toNat ∧ code.toNat ≤ 15 ∧ (rfold (code.toNat : Int) l).2.2 = false ∧ (rfold (code.toNat : Int) l).2.1 = [])) : rdC code l = (cmd0 0, 6) := if_neg h

theorem rread_ok (w : World) (code : UInt8) (lo hi : Nat) (A : Option Addr) (c : Nat) (l : List UInt8) (hr : RdB w lo hi A c l) (hlen : l.length ≤ 140737488355328) (h1 : 1 ≤ code.toNat) (h2 : code.toNat ≤ 15) (h3 : (rfold (↑code.toNat : Int) l).2.2 = false) (h4 : (rfold (↑code.toNat : Int) l).2.1 = []) :
    Fn Tryd.prog 24 #[(.agg #[(.int .u8 (↑code.toNat : Int)), (.slice A l.length c)])] w (fun v w' => ∃ K ck V cv T ct, v = .tuple #[.agg (cmdc (rfold (↑code.toNat : Int) l).1 K ck V cv T ct).toArray, .int .i64 0] ∧ RdS w' w.heap.size w'.heap.size K ck (rfold (↑code.toNat : Int) l).1.keys ∧ RdB w' w.heap.size w'.heap.size V cv (rfold (↑code.toNat : Int) l).1.value ∧ RdS w' w.heap.size w'.heap.size T ct (rfold (↑code.toNat : Int) l).1.tags ∧ Ext w w')  := by
  replace hr := hr.top
  have hE := ext_refl w
  have hct := code.toNat_lt
  refine fn_enter (args := [(.agg #[(.int .u8 (↑code.toNat : Int)), (.slice A l.length c)])]) Tryd.func24 rfl rfl rfl ?_
  show WC _ _ _ _ [(0, (.agg #[(.int .u8 (↑code.toNat : Int)), (.slice A l.length c)]))] _
  refine wc_seq (wc_regionL ?_)
  refine wl_step (or_box (cs := [(.int .u8 (↑code.toNat : Int)), (.slice A l.length c)]) rfl rfl) rfl rfl rfl ?_
  rintro v w1 ⟨g1, rfl, hb_g1, he1, hl1, hu1⟩
  replace hr := hr.ext he1
  replace hE := hE.tr he1
  have hz_he1 := he1.size
  refine wl_step (or_alloc (cs := [(.int .i64 0), (.string (strB [])), (.slice none 0 0), (.slice none 0 0), (.slice none 0 0), (.int .u64 0), (.int .u64 0), (.string (strB [])), (.string (strB [])), (.string (strB []))]) ze36 rfl) rfl rfl rfl ?_
  rintro v w2 ⟨g2, rfl, hb_g2, he2, hl2, hu2⟩
  replace hr := hr.ext he2
  replace hE := hE.tr he2
  replace hb_g1 := hb_g1.ext he2
  have hz_he2 := he2.size
  refine va rfl rfl ?_
  refine q_nil (k_then (wc_seq (wc_regionL ?_)))
  refine wl_val (ov_field0 (off := 0) fo40_0 rfl) rfl rfl rfl ?_
  refine wl_val (ov_loadAt oc5 rfl hb_g1 rfl) rfl rfl rfl ?_
  refine wl_val (ov_conv Tryd.underlying5 Tryd.underlying22 rfl (wi64 (by omega) (by omega))) rfl rfl rfl ?_
  refine wl_val (ov_build (cs := [(.int .i64 (↑code.toNat : Int)), (.string (strB [])), (.slice none 0 0), (.slice none 0 0), (.slice none 0 0), (.int .u64 0), (.int .u64 0), (.string (strB [])), (.string (strB [])), (.string (strB []))]) ze36 pl36 rfl rfl) rfl rfl rfl ?_
  refine wl_step (or_alloc (cs := [(.int .i64 0), (.string (strB [])), (.slice none 0 0), (.slice none 0 0), (.slice none 0 0), (.int .u64 0), (.int .u64 0), (.string (strB [])), (.string (strB [])), (.string (strB []))]) ze36 rfl) rfl rfl rfl ?_
  rintro v w3 ⟨g4, rfl, hb_g4, he4, hl4, hu4⟩
  replace hr := hr.ext he4
  replace hE := hE.tr he4
  replace hb_g1 := hb_g1.ext he4
  replace hb_g2 := hb_g2.ext he4
  have hz_he4 := he4.size
  refine wl_step0 (or_storeBlk (vs := [(.int .i64 (↑code.toNat : Int)), (.string (strB [])), (.slice none 0 0), (.slice none 0 0), (.slice none 0 0), (.int .u64 0), (.int .u64 0), (.string (strB [])), (.string (strB [])), (.string (strB []))]) sz36 rfl rfl (by simp [Value.oneCell']) hb_g4 rfl) rfl rfl ?_
  rintro _ w4 ⟨hN4, hg4⟩
  have hz_hg4 := hg4.size
  replace hr := hr.gr hg4 (fun _ e => by cases e; omega)
  replace hE := hE.gr hg4 (fun _ e => by cases e; omega)
  replace hb_g1 := hb_g1.gr hg4 (by intro e; cases e; omega)
  replace hb_g2 := hb_g2.gr hg4 (by intro e; cases e; omega)
  replace hb_g4 := hN4
  refine q_nil (k_then (wc_seq (wc_regionL ?_)))
  refine wl_val (ov_field0 (off := 1) fo40_1 rfl) rfl rfl rfl ?_
  refine wl_val (ov_loadAt oc32 rfl hb_g1 rfl) rfl rfl rfl ?_
  have hz4 := hb_g4.lt
  refine wl_step (or_call0 cl35 rfl rfl (rnew_any _ _ _ _ _ l hr hlen)) rfl rfl rfl ?_
  rintro v w5 ⟨gr, A1, c1, h2, rfl, hb_gr, hr1, hle, he12, hg1, hg2⟩
  replace hr := hr.ext he12
  replace hE := hE.tr he12
  replace hb_g1 := hb_g1.ext he12
  replace hb_g2 := hb_g2.ext he12
  replace hb_g4 := hb_g4.ext he12
  have hz_he12 := he12.size
  have hzr := hb_gr.lt
  refine wl_val (ov_build (cs := [(.pointer (some ⟨g4, 0, none⟩)), (.pointer (some ⟨gr, 0, none⟩)), (.slice none 0 0), (.bool false)]) ze64 pl64 rfl rfl) rfl rfl rfl ?_
  refine wl_step (or_alloc (cs := [(.pointer none), (.pointer none), (.slice none 0 0), (.bool false)]) ze64 rfl) rfl rfl rfl ?_
  rintro v w6 ⟨g5, rfl, hb_g5, he5, hl5, hu5⟩
  replace hr := hr.ext he5
  replace hE := hE.tr he5
  replace hb_g1 := hb_g1.ext he5
  replace hb_g2 := hb_g2.ext he5
  replace hb_g4 := hb_g4.ext he5
  replace hb_gr := hb_gr.ext he5
  replace hr1 := hr1.ext he5
  have hz_he5 := he5.size
  refine wl_step0 (or_storeBlk (vs := [(.pointer (some ⟨g4, 0, none⟩)), (.pointer (some ⟨gr, 0, none⟩)), (.slice none 0 0), (.bool false)]) sz64 rfl rfl (by simp [Value.oneCell']) hb_g5 rfl) rfl rfl ?_
  rintro _ w7 ⟨hN7, hg7⟩
  have hz_hg7 := hg7.size
  replace hr := hr.gr hg7 (fun _ e => by cases e; omega)
  replace hE := hE.gr hg7 (fun _ e => by cases e; omega)
  replace hb_g1 := hb_g1.gr hg7 (by intro e; cases e; omega)
  replace hb_g2 := hb_g2.gr hg7 (by intro e; cases e; omega)
  replace hb_g4 := hb_g4.gr hg7 (by intro e; cases e; omega)
  replace hb_gr := hb_gr.gr hg7 (by intro e; cases e; omega)
  replace hr1 := hr1.gr hg7 (fun _ e => by cases e; omega)
  replace hb_g5 := hN7
  refine q_nil (k_then (wc_seq (wc_regionL ?_)))
  refine wl_step (or_call0 cl31 rfl rfl (partsr _ g5 g4 gr _ _ A1 c1 l hb_g5 hb_gr hr1 (by omega) (by omega) (by omega) (by omega) (↑code.toNat : Int) hb_g4 (by omega) (by omega) (by omega) (by omega) (by omega) (by omega))) rfl rfl rfl ?_
  rintro v w8 ⟨rfl, hN, ⟨A14, c14, hQ, hr14⟩, ⟨K, ck, V, cv, T, ct, hT0, hKk, hVv, hTt⟩, hKp⟩
  have hz_hKp := hKp.size
  replace hr := hKp.rd hr (by intro g hg; simp at hg; omega)
  replace hE := hKp.e0 hE (by intro g hg; simp at hg; omega)
  replace hb_g1 := hKp.bk hb_g1 (by intro hg; simp at hg; omega)
  replace hb_g2 := hKp.bk hb_g2 (by intro hg; simp at hg; omega)
  replace hb_g5 := hN
  replace hb_gr := hQ
  replace hb_g4 := hT0
  refine q_nil (k_then (wc_seq (wc_seq (wc_regionL ?_))))
  refine wl_val (ov_field0 (off := 3) fo64_3 rfl) rfl rfl rfl ?_
  refine wl_val (ov_loadAt oc4 rfl hb_g5 rfl) rfl rfl rfl ?_
  refine wl_spell (d := 16) rfl (v' := (.bool false)) (by rw [h3]) ?_
  refine vm rfl rfl ?_
  refine wl_gval (ov_field0 (off := 1) fo64_1 rfl) rfl rfl rfl rfl rfl ?_
  refine wl_gval (ov_loadAt oc62 rfl hb_g5 rfl) rfl rfl rfl rfl rfl ?_
  have h40 : (rfold (↑code.toNat : Int) l).2.1.length = 0 := by rw [h4]; rfl
  refine wl_gval (or_call0 cl36 rfl rfl (left_ok _ gr _ _ A14 c14 (rfold (↑code.toNat : Int) l).2.1 hb_gr hr14 (by omega) (by omega))) rfl rfl rfl rfl rfl ?_
  refine wl_gval (ov_gtr rfl rfl) rfl rfl rfl rfl rfl ?_
  refine wl_spell (d := 21) rfl (bf (by omega)) ?_
  refine wl_val (ov_pick_f rfl rfl) rfl rfl rfl ?_
  refine q_nil (k_then ?_)
  refine wc_cond_f rfl ?_
  refine q_skip (k_then (wc_seq (wc_regionL ?_)))
  refine wl_val (ov_loadBlk (cs := [(.int .i64 (rfold (↑code.toNat : Int) l).1.op), (.string (strB (rfold (↑code.toNat : Int) l).1.key)), (.slice K (rfold (↑code.toNat : Int) l).1.keys.length ck), (.slice V (rfold (↑code.toNat : Int) l).1.value.length cv), (.slice T (rfold (↑code.toNat : Int) l).1.tags.length ct), (.int .u64 (↑(rfold (↑code.toNat : Int) l).1.life : Int)), (.int .u64 (↑(rfold (↑code.toNat : Int) l).1.ver : Int)), (.string (strB (rfold (↑code.toNat : Int) l).1.tag)), (.string (strB (rfold (↑code.toNat : Int) l).1.pre)), (.string (strB (rfold (↑code.toNat : Int) l).1.child))]) ag36_10 rfl hb_g4) rfl rfl rfl ?_
  refine wl_step0 (or_storeBlk (vs := [(.int .i64 (rfold (↑code.toNat : Int) l).1.op), (.string (strB (rfold (↑code.toNat : Int) l).1.key)), (.slice K (rfold (↑code.toNat : Int) l).1.keys.length ck), (.slice V (rfold (↑code.toNat : Int) l).1.value.length cv), (.slice T (rfold (↑code.toNat : Int) l).1.tags.length ct), (.int .u64 (↑(rfold (↑code.toNat : Int) l).1.life : Int)), (.int .u64 (↑(rfold (↑code.toNat : Int) l).1.ver : Int)), (.string (strB (rfold (↑code.toNat : Int) l).1.tag)), (.string (strB (rfold (↑code.toNat : Int) l).1.pre)), (.string (strB (rfold (↑code.toNat : Int) l).1.child))]) sz36 rfl rfl (by simp [Value.oneCell']) hb_g2 rfl) rfl rfl ?_
  rintro _ w9 ⟨hN9, hg9⟩
  have hz_hg9 := hg9.size
  replace hr := hr.gr hg9 (fun _ e => by cases e; omega)
  replace hE := hE.gr hg9 (fun _ e => by cases e; omega)
  replace hb_g1 := hb_g1.gr hg9 (by intro e; cases e; omega)
  replace hb_g5 := hb_g5.gr hg9 (by intro e; cases e; omega)
  replace hb_gr := hb_gr.gr hg9 (by intro e; cases e; omega)
  replace hb_g4 := hb_g4.gr hg9 (by intro e; cases e; omega)
  replace hr14 := hr14.gr hg9 (fun _ e => by cases e; omega)
  replace hKk := hKk.gr hg9 (fun _ e => by cases e; omega)
  replace hVv := hVv.gr hg9 (fun _ e => by cases e; omega)
  replace hTt := hTt.gr hg9 (fun _ e => by cases e; omega)
  replace hb_g2 := hN9
  refine va rfl rfl ?_
  refine q_nil (k_then (q_ret ?_))
  refine e_retL (rs := [.cell 2 36, .tmp 3]) (vs := [.agg #[(.int .i64 (rfold (↑code.toNat : Int) l).1.op), (.string (strB (rfold (↑code.toNat : Int) l).1.key)), (.slice K (rfold (↑code.toNat : Int) l).1.keys.length ck), (.slice V (rfold (↑code.toNat : Int) l).1.value.length cv), (.slice T (rfold (↑code.toNat : Int) l).1.tags.length ct), (.int .u64 (↑(rfold (↑code.toNat : Int) l).1.life : Int)), (.int .u64 (↑(rfold (↑code.toNat : Int) l).1.ver : Int)), (.string (strB (rfold (↑code.toNat : Int) l).1.tag)), (.string (strB (rfold (↑code.toNat : Int) l).1.pre)), (.string (strB (rfold (↑code.toNat : Int) l).1.child))], (.int .i64 0)]) rfl ⟨⟨_, _, [(.int .i64 (rfold (↑code.toNat : Int) l).1.op), (.string (strB (rfold (↑code.toNat : Int) l).1.key)), (.slice K (rfold (↑code.toNat : Int) l).1.keys.length ck), (.slice V (rfold (↑code.toNat : Int) l).1.value.length cv), (.slice T (rfold (↑code.toNat : Int) l).1.tags.length ct), (.int .u64 (↑(rfold (↑code.toNat : Int) l).1.life : Int)), (.int .u64 (↑(rfold (↑code.toNat : Int) l).1.ver : Int)), (.string (strB (rfold (↑code.toNat : Int) l).1.tag)), (.string (strB (rfold (↑code.toNat : Int) l).1.pre)), (.string (strB (rfold (↑code.toNat : Int) l).1.child))], rfl, ag36_10, hb_g2, rfl⟩, rfl, trivial⟩ ?_
  exact ⟨K, ck, V, cv, T, ct, rfl, hKk.mono (by omega) (by omega), hVv.mono (by omega) (by omega), hTt.mono (by omega) (by omega), hE⟩

theorem rread_bad (w : World) (code : UInt8) (lo hi : Nat) (A : Option Addr) (c : Nat) (l : List UInt8) (hr : RdB w lo hi A c l) (hlen : l.length ≤ 140737488355328) (h1 : 1 ≤ code.toNat) (h2 : code.toNat ≤ 15) (h3 : (rfold (↑code.toNat : Int) l).2.2 = true) :
    Fn Tryd.prog 24 #[(.agg #[(.int .u8 (↑code.toNat : Int)), (.slice A l.length c)])] w (fun v w' => ∃ K ck V cv T ct, v = .tuple #[.agg (cmdc (cmd0 0) K ck V cv T ct).toArray, .int .i64 6] ∧ RdS w' w.heap.size w'.heap.size K ck (cmd0 0).keys ∧ RdB w' w.heap.size w'.heap.size V cv (cmd0 0).value ∧ RdS w' w.heap.size w'.heap.size T ct (cmd0 0).tags ∧ Ext w w')  := by
  replace hr := hr.top
  have hE := ext_refl w
  have hct := code.toNat_lt
  refine fn_enter (args := [(.agg #[(.int .u8 (↑code.toNat : Int)), (.slice A l.length c)])]) Tryd.func24 rfl rfl rfl ?_
  show WC _ _ _ _ [(0, (.agg #[(.int .u8 (↑code.toNat : Int)), (.slice A l.length c)]))] _
  refine wc_seq (wc_regionL ?_)
  refine wl_step (or_box (cs := [(.int .u8 (↑code.toNat : Int)), (.slice A l.length c)]) rfl rfl) rfl rfl rfl ?_
  rintro v w1 ⟨g1, rfl, hb_g1, he1, hl1, hu1⟩
  replace hr := hr.ext he1
  replace hE := hE.tr he1
  have hz_he1 := he1.size
  refine wl_step (or_alloc (cs := [(.int .i64 0), (.string (strB [])), (.slice none 0 0), (.slice none 0 0), (.slice none 0 0), (.int .u64 0), (.int .u64 0), (.string (strB [])), (.string (strB [])), (.string (strB []))]) ze36 rfl) rfl rfl rfl ?_
  rintro v w2 ⟨g2, rfl, hb_g2, he2, hl2, hu2⟩
  replace hr := hr.ext he2
  replace hE := hE.tr he2
  replace hb_g1 := hb_g1.ext he2
  have hz_he2 := he2.size
  refine va rfl rfl ?_
  refine q_nil (k_then (wc_seq (wc_regionL ?_)))
  refine wl_val (ov_field0 (off := 0) fo40_0 rfl) rfl rfl rfl ?_
  refine wl_val (ov_loadAt oc5 rfl hb_g1 rfl) rfl rfl rfl ?_
  refine wl_val (ov_conv Tryd.underlying5 Tryd.underlying22 rfl (wi64 (by omega) (by omega))) rfl rfl rfl ?_
  refine wl_val (ov_build (cs := [(.int .i64 (↑code.toNat : Int)), (.string (strB [])), (.slice none 0 0), (.slice none 0 0), (.slice none 0 0), (.int .u64 0), (.int .u64 0), (.string (strB [])), (.string (strB [])), (.string (strB []))]) ze36 pl36 rfl rfl) rfl rfl rfl ?_
  refine wl_step (or_alloc (cs := [(.int .i64 0), (.string (strB [])), (.slice none 0 0), (.slice none 0 0), (.slice none 0 0), (.int .u64 0), (.int .u64 0), (.string (strB [])), (.string (strB [])), (.string (strB []))]) ze36 rfl) rfl rfl rfl ?_
  rintro v w3 ⟨g4, rfl, hb_g4, he4, hl4, hu4⟩
  replace hr := hr.ext he4
  replace hE := hE.tr he4
  replace hb_g1 := hb_g1.ext he4
  replace hb_g2 := hb_g2.ext he4
  have hz_he4 := he4.size
  refine wl_step0 (or_storeBlk (vs := [(.int .i64 (↑code.toNat : Int)), (.string (strB [])), (.slice none 0 0), (.slice none 0 0), (.slice none 0 0), (.int .u64 0), (.int .u64 0), (.string (strB [])), (.string (strB [])), (.string (strB []))]) sz36 rfl rfl (by simp [Value.oneCell']) hb_g4 rfl) rfl rfl ?_
  rintro _ w4 ⟨hN4, hg4⟩
  have hz_hg4 := hg4.size
  replace hr := hr.gr hg4 (fun _ e => by cases e; omega)
  replace hE := hE.gr hg4 (fun _ e => by cases e; omega)
  replace hb_g1 := hb_g1.gr hg4 (by intro e; cases e; omega)
  replace hb_g2 := hb_g2.gr hg4 (by intro e; cases e; omega)
  replace hb_g4 := hN4
  refine q_nil (k_then (wc_seq (wc_regionL ?_)))
  refine wl_val (ov_field0 (off := 1) fo40_1 rfl) rfl rfl rfl ?_
  refine wl_val (ov_loadAt oc32 rfl hb_g1 rfl) rfl rfl rfl ?_
  have hz4 := hb_g4.lt
  refine wl_step (or_call0 cl35 rfl rfl (rnew_any _ _ _ _ _ l hr hlen)) rfl rfl rfl ?_
  rintro v w5 ⟨gr, A1, c1, h2, rfl, hb_gr, hr1, hle, he12, hg1, hg2⟩
  replace hr := hr.ext he12
  replace hE := hE.tr he12
  replace hb_g1 := hb_g1.ext he12
  replace hb_g2 := hb_g2.ext he12
  replace hb_g4 := hb_g4.ext he12
  have hz_he12 := he12.size
  have hzr := hb_gr.lt
  refine wl_val (ov_build (cs := [(.pointer (some ⟨g4, 0, none⟩)), (.pointer (some ⟨gr, 0, none⟩)), (.slice none 0 0), (.bool false)]) ze64 pl64 rfl rfl) rfl rfl rfl ?_
  refine wl_step (or_alloc (cs := [(.pointer none), (.pointer none), (.slice none 0 0), (.bool false)]) ze64 rfl) rfl rfl rfl ?_
  rintro v w6 ⟨g5, rfl, hb_g5, he5, hl5, hu5⟩
  replace hr := hr.ext he5
  replace hE := hE.tr he5
  replace hb_g1 := hb_g1.ext he5
  replace hb_g2 := hb_g2.ext he5
  replace hb_g4 := hb_g4.ext he5
  replace hb_gr := hb_gr.ext he5
  replace hr1 := hr1.ext he5
  have hz_he5 := he5.size
  refine wl_step0 (or_storeBlk (vs := [(.pointer (some ⟨g4, 0, none⟩)), (.pointer (some ⟨gr, 0, none⟩)), (.slice none 0 0), (.bool false)]) sz64 rfl rfl (by simp [Value.oneCell']) hb_g5 rfl) rfl rfl ?_
  rintro _ w7 ⟨hN7, hg7⟩
  have hz_hg7 := hg7.size
  replace hr := hr.gr hg7 (fun _ e => by cases e; omega)
  replace hE := hE.gr hg7 (fun _ e => by cases e; omega)
  replace hb_g1 := hb_g1.gr hg7 (by intro e; cases e; omega)
  replace hb_g2 := hb_g2.gr hg7 (by intro e; cases e; omega)
  replace hb_g4 := hb_g4.gr hg7 (by intro e; cases e; omega)
  replace hb_gr := hb_gr.gr hg7 (by intro e; cases e; omega)
  replace hr1 := hr1.gr hg7 (fun _ e => by cases e; omega)
  replace hb_g5 := hN7
  refine q_nil (k_then (wc_seq (wc_regionL ?_)))
  refine wl_step (or_call0 cl31 rfl rfl (partsr _ g5 g4 gr _ _ A1 c1 l hb_g5 hb_gr hr1 (by omega) (by omega) (by omega) (by omega) (↑code.toNat : Int) hb_g4 (by omega) (by omega) (by omega) (by omega) (by omega) (by omega))) rfl rfl rfl ?_
  rintro v w8 ⟨rfl, hN, ⟨A14, c14, hQ, hr14⟩, ⟨K, ck, V, cv, T, ct, hT0, hKk, hVv, hTt⟩, hKp⟩
  have hz_hKp := hKp.size
  replace hr := hKp.rd hr (by intro g hg; simp at hg; omega)
  replace hE := hKp.e0 hE (by intro g hg; simp at hg; omega)
  replace hb_g1 := hKp.bk hb_g1 (by intro hg; simp at hg; omega)
  replace hb_g2 := hKp.bk hb_g2 (by intro hg; simp at hg; omega)
  replace hb_g5 := hN
  replace hb_gr := hQ
  replace hb_g4 := hT0
  refine q_nil (k_then (wc_seq (wc_seq (wc_regionL ?_))))
  refine wl_val (ov_field0 (off := 3) fo64_3 rfl) rfl rfl rfl ?_
  refine wl_val (ov_loadAt oc4 rfl hb_g5 rfl) rfl rfl rfl ?_
  refine wl_spell (d := 16) rfl (v' := (.bool true)) (by rw [h3]) ?_
  refine vm rfl rfl ?_
  iterate 4 refine wl_gskip rfl rfl rfl rfl rfl rfl ?_
  refine wl_val (ov_pick_t rfl rfl) rfl rfl rfl ?_
  refine q_nil (k_then ?_)
  refine wc_cond_t rfl ?_
  refine wc_seq (wc_regionL ?_)
  refine wl_val (ov_build (cs := [(.int .i64 0), (.string (strB [])), (.slice none 0 0), (.slice none 0 0), (.slice none 0 0), (.int .u64 0), (.int .u64 0), (.string (strB [])), (.string (strB [])), (.string (strB []))]) ze36 pl36 rfl rfl) rfl rfl rfl ?_
  refine wl_step0 (or_storeBlk (vs := [(.int .i64 0), (.string (strB [])), (.slice none 0 0), (.slice none 0 0), (.slice none 0 0), (.int .u64 0), (.int .u64 0), (.string (strB [])), (.string (strB [])), (.string (strB []))]) sz36 rfl rfl (by simp [Value.oneCell']) hb_g2 rfl) rfl rfl ?_
  rintro _ w9 ⟨hN9, hg9⟩
  have hz_hg9 := hg9.size
  replace hr := hr.gr hg9 (fun _ e => by cases e; omega)
  replace hE := hE.gr hg9 (fun _ e => by cases e; omega)
  replace hb_g1 := hb_g1.gr hg9 (by intro e; cases e; omega)
  replace hb_g5 := hb_g5.gr hg9 (by intro e; cases e; omega)
  replace hb_gr := hb_gr.gr hg9 (by intro e; cases e; omega)
  replace hb_g4 := hb_g4.gr hg9 (by intro e; cases e; omega)
  replace hr14 := hr14.gr hg9 (fun _ e => by cases e; omega)
  replace hKk := hKk.gr hg9 (fun _ e => by cases e; omega)
  replace hVv := hVv.gr hg9 (fun _ e => by cases e; omega)
  replace hTt := hTt.gr hg9 (fun _ e => by cases e; omega)
  replace hb_g2 := hN9
  refine va rfl rfl ?_
  refine q_nil (k_then (q_ret (k_thenR ?_)))
  refine e_retL (rs := [.cell 2 36, .tmp 3]) (vs := [.agg #[(.int .i64 0), (.string (strB [])), (.slice none 0 0), (.slice none 0 0), (.slice none 0 0), (.int .u64 0), (.int .u64 0), (.string (strB [])), (.string (strB [])), (.string (strB []))], (.int .i64 6)]) rfl ⟨⟨_, _, [(.int .i64 0), (.string (strB [])), (.slice none 0 0), (.slice none 0 0), (.slice none 0 0), (.int .u64 0), (.int .u64 0), (.string (strB [])), (.string (strB [])), (.string (strB []))], rfl, ag36_10, hb_g2, rfl⟩, rfl, trivial⟩ ?_
  exact ⟨none, 0, none, 0, none, 0, rfl, Rd.nil _ _ _ _ _ _ (Nat.zero_le _), Rd.nil _ _ _ _ _ _ (Nat.zero_le _), Rd.nil _ _ _ _ _ _ (Nat.zero_le _), hE⟩

theorem rread_left (w : World) (code : UInt8) (lo hi : Nat) (A : Option Addr) (c : Nat) (l : List UInt8) (hr : RdB w lo hi A c l) (hlen : l.length ≤ 140737488355328) (h1 : 1 ≤ code.toNat) (h2 : code.toNat ≤ 15) (h3 : (rfold (↑code.toNat : Int) l).2.2 = false) (h4 : ¬ (rfold (↑code.toNat : Int) l).2.1.length = 0) (h5 : (rfold (↑code.toNat : Int) l).2.1.length ≤ l.length) :
    Fn Tryd.prog 24 #[(.agg #[(.int .u8 (↑code.toNat : Int)), (.slice A l.length c)])] w (fun v w' => ∃ K ck V cv T ct, v = .tuple #[.agg (cmdc (cmd0 0) K ck V cv T ct).toArray, .int .i64 6] ∧ RdS w' w.heap.size w'.heap.size K ck (cmd0 0).keys ∧ RdB w' w.heap.size w'.heap.size V cv (cmd0 0).value ∧ RdS w' w.heap.size w'.heap.size T ct (cmd0 0).tags ∧ Ext w w')  := by
  replace hr := hr.top
  have hE := ext_refl w
  have hct := code.toNat_lt
  refine fn_enter (args := [(.agg #[(.int .u8 (↑code.toNat : Int)), (.slice A l.length c)])]) Tryd.func24 rfl rfl rfl ?_
  show WC _ _ _ _ [(0, (.agg #[(.int .u8 (↑code.toNat : Int)), (.slice A l.length c)]))] _
  refine wc_seq (wc_regionL ?_)
  refine wl_step (or_box (cs := [(.int .u8 (↑code.toNat : Int)), (.slice A l.length c)]) rfl rfl) rfl rfl rfl ?_
  rintro v w1 ⟨g1, rfl, hb_g1, he1, hl1, hu1⟩
  replace hr := hr.ext he1
  replace hE := hE.tr he1
  have hz_he1 := he1.size
  refine wl_step (or_alloc (cs := [(.int .i64 0), (.string (strB [])), (.slice none 0 0), (.slice none 0 0), (.slice none 0 0), (.int .u64 0), (.int .u64 0), (.string (strB [])), (.string (strB [])), (.string (strB []))]) ze36 rfl) rfl rfl rfl ?_
  rintro v w2 ⟨g2, rfl, hb_g2, he2, hl2, hu2⟩
  replace hr := hr.ext he2
  replace hE := hE.tr he2
  replace hb_g1 := hb_g1.ext he2
  have hz_he2 := he2.size
  refine va rfl rfl ?_
  refine q_nil (k_then (wc_seq (wc_regionL ?_)))
  refine wl_val (ov_field0 (off := 0) fo40_0 rfl) rfl rfl rfl ?_
  refine wl_val (ov_loadAt oc5 rfl hb_g1 rfl) rfl rfl rfl ?_
  refine wl_val (ov_conv Tryd.underlying5 Tryd.underlying22 rfl (wi64 (by omega) (by omega))) rfl rfl rfl ?_
  refine wl_val (ov_build (cs := [(.int .i64 (↑code.toNat : Int)), (.string (strB [])), (.slice none 0 0), (.slice none 0 0), (.slice none 0 0), (.int .u64 0), (.int .u64 0), (.string (strB [])), (.string (strB [])), (.string (strB []))]) ze36 pl36 rfl rfl) rfl rfl rfl ?_
  refine wl_step (or_alloc (cs := [(.int .i64 0), (.string (strB [])), (.slice none 0 0), (.slice none 0 0), (.slice none 0 0), (.int .u64 0), (.int .u64 0), (.string (strB [])), (.string (strB [])), (.string (strB []))]) ze36 rfl) rfl rfl rfl ?_
  rintro v w3 ⟨g4, rfl, hb_g4, he4, hl4, hu4⟩
  replace hr := hr.ext he4
  replace hE := hE.tr he4
  replace hb_g1 := hb_g1.ext he4
  replace hb_g2 := hb_g2.ext he4
  have hz_he4 := he4.size
  refine wl_step0 (or_storeBlk (vs := [(.int .i64 (↑code.toNat : Int)), (.string (strB [])), (.slice none 0 0), (.slice none 0 0), (.slice none 0 0), (.int .u64 0), (.int .u64 0), (.string (strB [])), (.string (strB [])), (.string (strB []))]) sz36 rfl rfl (by simp [Value.oneCell']) hb_g4 rfl) rfl rfl ?_
  rintro _ w4 ⟨hN4, hg4⟩
  have hz_hg4 := hg4.size
  replace hr := hr.gr hg4 (fun _ e => by cases e; omega)
  replace hE := hE.gr hg4 (fun _ e => by cases e; omega)
  replace hb_g1 := hb_g1.gr hg4 (by intro e; cases e; omega)
  replace hb_g2 := hb_g2.gr hg4 (by intro e; cases e; omega)
  replace hb_g4 := hN4
  refine q_nil (k_then (wc_seq (wc_regionL ?_)))
  refine wl_val (ov_field0 (off := 1) fo40_1 rfl) rfl rfl rfl ?_
  refine wl_val (ov_loadAt oc32 rfl hb_g1 rfl) rfl rfl rfl ?_
  have hz4 := hb_g4.lt
  refine wl_step (or_call0 cl35 rfl rfl (rnew_any _ _ _ _ _ l hr hlen)) rfl rfl rfl ?_
  rintro v w5 ⟨gr, A1, c1, h2, rfl, hb_gr, hr1, hle, he12, hg1, hg2⟩
  replace hr := hr.ext he12
  replace hE := hE.tr he12
  replace hb_g1 := hb_g1.ext he12
  replace hb_g2 := hb_g2.ext he12
  replace hb_g4 := hb_g4.ext he12
  have hz_he12 := he12.size
  have hzr := hb_gr.lt
  refine wl_val (ov_build (cs := [(.pointer (some ⟨g4, 0, none⟩)), (.pointer (some ⟨gr, 0, none⟩)), (.slice none 0 0), (.bool false)]) ze64 pl64 rfl rfl) rfl rfl rfl ?_
  refine wl_step (or_alloc (cs := [(.pointer none), (.pointer none), (.slice none 0 0), (.bool false)]) ze64 rfl) rfl rfl rfl ?_
  rintro v w6 ⟨g5, rfl, hb_g5, he5, hl5, hu5⟩
  replace hr := hr.ext he5
  replace hE := hE.tr he5
  replace hb_g1 := hb_g1.ext he5
  replace hb_g2 := hb_g2.ext he5
  replace hb_g4 := hb_g4.ext he5
  replace hb_gr := hb_gr.ext he5
  replace hr1 := hr1.ext he5
  have hz_he5 := he5.size
  refine wl_step0 (or_storeBlk (vs := [(.pointer (some ⟨g4, 0, none⟩)), (.pointer (some ⟨gr, 0, none⟩)), (.slice none 0 0), (.bool false)]) sz64 rfl rfl (by simp [Value.oneCell']) hb_g5 rfl) rfl rfl ?_
  rintro _ w7 ⟨hN7, hg7⟩
  have hz_hg7 := hg7.size
  replace hr := hr.gr hg7 (fun _ e => by cases e; omega)
  replace hE := hE.gr hg7 (fun _ e => by cases e; omega)
  replace hb_g1 := hb_g1.gr hg7 (by intro e; cases e; omega)
  replace hb_g2 := hb_g2.gr hg7 (by intro e; cases e; omega)
  replace hb_g4 := hb_g4.gr hg7 (by intro e; cases e; omega)
  replace hb_gr := hb_gr.gr hg7 (by intro e; cases e; omega)
  replace hr1 := hr1.gr hg7 (fun _ e => by cases e; omega)
  replace hb_g5 := hN7
  refine q_nil (k_then (wc_seq (wc_regionL ?_)))
  refine wl_step (or_call0 cl31 rfl rfl (partsr _ g5 g4 gr _ _ A1 c1 l hb_g5 hb_gr hr1 (by omega) (by omega) (by omega) (by omega) (↑code.toNat : Int) hb_g4 (by omega) (by omega) (by omega) (by omega) (by omega) (by omega))) rfl rfl rfl ?_
  rintro v w8 ⟨rfl, hN, ⟨A14, c14, hQ, hr14⟩, ⟨K, ck, V, cv, T, ct, hT0, hKk, hVv, hTt⟩, hKp⟩
  have hz_hKp := hKp.size
  replace hr := hKp.rd hr (by intro g hg; simp at hg; omega)
  replace hE := hKp.e0 hE (by intro g hg; simp at hg; omega)
  replace hb_g1 := hKp.bk hb_g1 (by intro hg; simp at hg; omega)
  replace hb_g2 := hKp.bk hb_g2 (by intro hg; simp at hg; omega)
  replace hb_g5 := hN
  replace hb_gr := hQ
  replace hb_g4 := hT0
  refine q_nil (k_then (wc_seq (wc_seq (wc_regionL ?_))))
  refine wl_val (ov_field0 (off := 3) fo64_3 rfl) rfl rfl rfl ?_
  refine wl_val (ov_loadAt oc4 rfl hb_g5 rfl) rfl rfl rfl ?_
  refine wl_spell (d := 16) rfl (v' := (.bool false)) (by rw [h3]) ?_
  refine vm rfl rfl ?_
  refine wl_gval (ov_field0 (off := 1) fo64_1 rfl) rfl rfl rfl rfl rfl ?_
  refine wl_gval (ov_loadAt oc62 rfl hb_g5 rfl) rfl rfl rfl rfl rfl ?_
  refine wl_gval (or_call0 cl36 rfl rfl (left_ok _ gr _ _ A14 c14 (rfold (↑code.toNat : Int) l).2.1 hb_gr hr14 (by omega) (by omega))) rfl rfl rfl rfl rfl ?_
  refine wl_gval (ov_gtr rfl rfl) rfl rfl rfl rfl rfl ?_
  refine wl_spell (d := 21) rfl (bt (by omega)) ?_
  refine wl_val (ov_pick_f rfl rfl) rfl rfl rfl ?_
  refine q_nil (k_then ?_)
  refine wc_cond_t rfl ?_
  refine wc_seq (wc_regionL ?_)
  refine wl_val (ov_build (cs := [(.int .i64 0), (.string (strB [])), (.slice none 0 0), (.slice none 0 0), (.slice none 0 0), (.int .u64 0), (.int .u64 0), (.string (strB [])), (.string (strB [])), (.string (strB []))]) ze36 pl36 rfl rfl) rfl rfl rfl ?_
  refine wl_step0 (or_storeBlk (vs := [(.int .i64 0), (.string (strB [])), (.slice none 0 0), (.slice none 0 0), (.slice none 0 0), (.int .u64 0), (.int .u64 0), (.string (strB [])), (.string (strB [])), (.string (strB []))]) sz36 rfl rfl (by simp [Value.oneCell']) hb_g2 rfl) rfl rfl ?_
  rintro _ w9 ⟨hN9, hg9⟩
  have hz_hg9 := hg9.size
  replace hr := hr.gr hg9 (fun _ e => by cases e; omega)
  replace hE := hE.gr hg9 (fun _ e => by cases e; omega)
  replace hb_g1 := hb_g1.gr hg9 (by intro e; cases e; omega)
  replace hb_g5 := hb_g5.gr hg9 (by intro e; cases e; omega)
  replace hb_gr := hb_gr.gr hg9 (by intro e; cases e; omega)
  replace hb_g4 := hb_g4.gr hg9 (by intro e; cases e; omega)
  replace hr14 := hr14.gr hg9 (fun _ e => by cases e; omega)
  replace hKk := hKk.gr hg9 (fun _ e => by cases e; omega)
  replace hVv := hVv.gr hg9 (fun _ e => by cases e; omega)
  replace hTt := hTt.gr hg9 (fun _ e => by cases e; omega)
  replace hb_g2 := hN9
  refine va rfl rfl ?_
  refine q_nil (k_then (q_ret (k_thenR ?_)))
  refine e_retL (rs := [.cell 2 36, .tmp 3]) (vs := [.agg #[(.int .i64 0), (.string (strB [])), (.slice none 0 0), (.slice none 0 0), (.slice none 0 0), (.int .u64 0), (.int .u64 0), (.string (strB [])), (.string (strB [])), (.string (strB []))], (.int .i64 6)]) rfl ⟨⟨_, _, [(.int .i64 0), (.string (strB [])), (.slice none 0 0), (.slice none 0 0), (.slice none 0 0), (.int .u64 0), (.int .u64 0), (.string (strB [])), (.string (strB [])), (.string (strB []))], rfl, ag36_10, hb_g2, rfl⟩, rfl, trivial⟩ ?_
  exact ⟨none, 0, none, 0, none, 0, rfl, Rd.nil _ _ _ _ _ _ (Nat.zero_le _), Rd.nil _ _ _ _ _ _ (Nat.zero_le _), Rd.nil _ _ _ _ _ _ (Nat.zero_le _), hE⟩

theorem rread_none (w : World) (code : UInt8) (lo hi : Nat) (A : Option Addr) (c : Nat) (l : List UInt8) (hr : RdB w lo hi A c l) (hlen : l.length ≤ 140737488355328) (h1 : code.toNat < 1 ∨ 15 < code.toNat) :
    Fn Tryd.prog 24 #[(.agg #[(.int .u8 (↑code.toNat : Int)), (.slice A l.length c)])] w (fun v w' => ∃ K ck V cv T ct, v = .tuple #[.agg (cmdc (cmd0 0) K ck V cv T ct).toArray, .int .i64 6] ∧ RdS w' w.heap.size w'.heap.size K ck (cmd0 0).keys ∧ RdB w' w.heap.size w'.heap.size V cv (cmd0 0).value ∧ RdS w' w.heap.size w'.heap.size T ct (cmd0 0).tags ∧ Ext w w')  := by
  replace hr := hr.top
  have hE := ext_refl w
  have hct := code.toNat_lt
  refine fn_enter (args := [(.agg #[(.int .u8 (↑code.toNat : Int)), (.slice A l.length c)])]) Tryd.func24 rfl rfl rfl ?_
  show WC _ _ _ _ [(0, (.agg #[(.int .u8 (↑code.toNat : Int)), (.slice A l.length c)]))] _
  refine wc_seq (wc_regionL ?_)
  refine wl_step (or_box (cs := [(.int .u8 (↑code.toNat : Int)), (.slice A l.length c)]) rfl rfl) rfl rfl rfl ?_
  rintro v w1 ⟨g1, rfl, hb_g1, he1, hl1, hu1⟩
  replace hr := hr.ext he1
  replace hE := hE.tr he1
  have hz_he1 := he1.size
  refine wl_step (or_alloc (cs := [(.int .i64 0), (.string (strB [])), (.slice none 0 0), (.slice none 0 0), (.slice none 0 0), (.int .u64 0), (.int .u64 0), (.string (strB [])), (.string (strB [])), (.string (strB []))]) ze36 rfl) rfl rfl rfl ?_
  rintro v w2 ⟨g2, rfl, hb_g2, he2, hl2, hu2⟩
  replace hr := hr.ext he2
  replace hE := hE.tr he2
  replace hb_g1 := hb_g1.ext he2
  have hz_he2 := he2.size
  refine va rfl rfl ?_
  refine q_nil (k_then (wc_seq (wc_regionL ?_)))
  refine wl_val (ov_field0 (off := 0) fo40_0 rfl) rfl rfl rfl ?_
  refine wl_val (ov_loadAt oc5 rfl hb_g1 rfl) rfl rfl rfl ?_
  refine wl_val (ov_conv Tryd.underlying5 Tryd.underlying22 rfl (wi64 (by omega) (by omega))) rfl rfl rfl ?_
  refine wl_val (ov_build (cs := [(.int .i64 (↑code.toNat : Int)), (.string (strB [])), (.slice none 0 0), (.slice none 0 0), (.slice none 0 0), (.int .u64 0), (.int .u64 0), (.string (strB [])), (.string (strB [])), (.string (strB []))]) ze36 pl36 rfl rfl) rfl rfl rfl ?_
  refine wl_step (or_alloc (cs := [(.int .i64 0), (.string (strB [])), (.slice none 0 0), (.slice none 0 0), (.slice none 0 0), (.int .u64 0), (.int .u64 0), (.string (strB [])), (.string (strB [])), (.string (strB []))]) ze36 rfl) rfl rfl rfl ?_
  rintro v w3 ⟨g4, rfl, hb_g4, he4, hl4, hu4⟩
  replace hr := hr.ext he4
  replace hE := hE.tr he4
  replace hb_g1 := hb_g1.ext he4
  replace hb_g2 := hb_g2.ext he4
  have hz_he4 := he4.size
  refine wl_step0 (or_storeBlk (vs := [(.int .i64 (↑code.toNat : Int)), (.string (strB [])), (.slice none 0 0), (.slice none 0 0), (.slice none 0 0), (.int .u64 0), (.int .u64 0), (.string (strB [])), (.string (strB [])), (.string (strB []))]) sz36 rfl rfl (by simp [Value.oneCell']) hb_g4 rfl) rfl rfl ?_
  rintro _ w4 ⟨hN4, hg4⟩
  have hz_hg4 := hg4.size
  replace hr := hr.gr hg4 (fun _ e => by cases e; omega)
  replace hE := hE.gr hg4 (fun _ e => by cases e; omega)
  replace hb_g1 := hb_g1.gr hg4 (by intro e; cases e; omega)
  replace hb_g2 := hb_g2.gr hg4 (by intro e; cases e; omega)
  replace hb_g4 := hN4
  refine q_nil (k_then (wc_seq (wc_regionL ?_)))
  refine wl_val (ov_field0 (off := 1) fo40_1 rfl) rfl rfl rfl ?_
  refine wl_val (ov_loadAt oc32 rfl hb_g1 rfl) rfl rfl rfl ?_
  have hz4 := hb_g4.lt
  refine wl_step (or_call0 cl35 rfl rfl (rnew_any _ _ _ _ _ l hr hlen)) rfl rfl rfl ?_
  rintro v w5 ⟨gr, A1, c1, h2, rfl, hb_gr, hr1, hle, he12, hg1, hg2⟩
  replace hr := hr.ext he12
  replace hE := hE.tr he12
  replace hb_g1 := hb_g1.ext he12
  replace hb_g2 := hb_g2.ext he12
  replace hb_g4 := hb_g4.ext he12
  have hz_he12 := he12.size
  have hzr := hb_gr.lt
  refine wl_val (ov_build (cs := [(.pointer (some ⟨g4, 0, none⟩)), (.pointer (some ⟨gr, 0, none⟩)), (.slice none 0 0), (.bool false)]) ze64 pl64 rfl rfl) rfl rfl rfl ?_
  refine wl_step (or_alloc (cs := [(.pointer none), (.pointer none), (.slice none 0 0), (.bool false)]) ze64 rfl) rfl rfl rfl ?_
  rintro v w6 ⟨g5, rfl, hb_g5, he5, hl5, hu5⟩
  replace hr := hr.ext he5
  replace hE := hE.tr he5
  replace hb_g1 := hb_g1.ext he5
  replace hb_g2 := hb_g2.ext he5
  replace hb_g4 := hb_g4.ext he5
  replace hb_gr := hb_gr.ext he5
  replace hr1 := hr1.ext he5
  have hz_he5 := he5.size
  refine wl_step0 (or_storeBlk (vs := [(.pointer (some ⟨g4, 0, none⟩)), (.pointer (some ⟨gr, 0, none⟩)), (.slice none 0 0), (.bool false)]) sz64 rfl rfl (by simp [Value.oneCell']) hb_g5 rfl) rfl rfl ?_
  rintro _ w7 ⟨hN7, hg7⟩
  have hz_hg7 := hg7.size
  replace hr := hr.gr hg7 (fun _ e => by cases e; omega)
  replace hE := hE.gr hg7 (fun _ e => by cases e; omega)
  replace hb_g1 := hb_g1.gr hg7 (by intro e; cases e; omega)
  replace hb_g2 := hb_g2.gr hg7 (by intro e; cases e; omega)
  replace hb_g4 := hb_g4.gr hg7 (by intro e; cases e; omega)
  replace hb_gr := hb_gr.gr hg7 (by intro e; cases e; omega)
  replace hr1 := hr1.gr hg7 (fun _ e => by cases e; omega)
  replace hb_g5 := hN7
  refine q_nil (k_then (wc_seq (wc_regionL ?_)))
  refine wl_step (or_call0 cl31 rfl rfl (partsr_d _ g5 g4 gr _ _ A1 c1 l hb_g5 hb_gr hr1 (by omega) (by omega) (by omega) (by omega) (↑code.toNat : Int) hb_g4 (by omega) (by omega) (by omega) (by omega) (by omega))) rfl rfl rfl ?_
  rintro v w8 ⟨rfl, hN, _, hKp⟩
  have hz_hKp := hKp.size
  replace hr := hKp.rd hr (by intro g hg; simp at hg; omega)
  replace hE := hKp.e0 hE (by intro g hg; simp at hg; omega)
  replace hb_g1 := hKp.bk hb_g1 (by intro hg; simp at hg; omega)
  replace hb_g2 := hKp.bk hb_g2 (by intro hg; simp at hg; omega)
  replace hb_g5 := hN
  refine q_nil (k_then (wc_seq (wc_seq (wc_regionL ?_))))
  refine wl_val (ov_field0 (off := 3) fo64_3 rfl) rfl rfl rfl ?_
  refine wl_val (ov_loadAt oc4 rfl hb_g5 rfl) rfl rfl rfl ?_
  refine vm rfl rfl ?_
  iterate 4 refine wl_gskip rfl rfl rfl rfl rfl rfl ?_
  refine wl_val (ov_pick_t rfl rfl) rfl rfl rfl ?_
  refine q_nil (k_then ?_)
  refine wc_cond_t rfl ?_
  refine wc_seq (wc_regionL ?_)
  refine wl_val (ov_build (cs := [(.int .i64 0), (.string (strB [])), (.slice none 0 0), (.slice none 0 0), (.slice none 0 0), (.int .u64 0), (.int .u64 0), (.string (strB [])), (.string (strB [])), (.string (strB []))]) ze36 pl36 rfl rfl) rfl rfl rfl ?_
  refine wl_step0 (or_storeBlk (vs := [(.int .i64 0), (.string (strB [])), (.slice none 0 0), (.slice none 0 0), (.slice none 0 0), (.int .u64 0), (.int .u64 0), (.string (strB [])), (.string (strB [])), (.string (strB []))]) sz36 rfl rfl (by simp [Value.oneCell']) hb_g2 rfl) rfl rfl ?_
  rintro _ w9 ⟨hN9, hg9⟩
  have hz_hg9 := hg9.size
  replace hr := hr.gr hg9 (fun _ e => by cases e; omega)
  replace hE := hE.gr hg9 (fun _ e => by cases e; omega)
  replace hb_g1 := hb_g1.gr hg9 (by intro e; cases e; omega)
  replace hb_g5 := hb_g5.gr hg9 (by intro e; cases e; omega)
  replace hb_g2 := hN9
  refine va rfl rfl ?_
  refine q_nil (k_then (q_ret (k_thenR ?_)))
  refine e_retL (rs := [.cell 2 36, .tmp 3]) (vs := [.agg #[(.int .i64 0), (.string (strB [])), (.slice none 0 0), (.slice none 0 0), (.slice none 0 0), (.int .u64 0), (.int .u64 0), (.string (strB [])), (.string (strB [])), (.string (strB []))], (.int .i64 6)]) rfl ⟨⟨_, _, [(.int .i64 0), (.string (strB [])), (.slice none 0 0), (.slice none 0 0), (.slice none 0 0), (.int .u64 0), (.int .u64 0), (.string (strB [])), (.string (strB [])), (.string (strB []))], rfl, ag36_10, hb_g2, rfl⟩, rfl, trivial⟩ ?_
  exact ⟨none, 0, none, 0, none, 0, rfl, Rd.nil _ _ _ _ _ _ (Nat.zero_le _), Rd.nil _ _ _ _ _ _ (Nat.zero_le _), Rd.nil _ _ _ _ _ _ (Nat.zero_le _), hE⟩

theorem rstep_len (s : Cmd × List UInt8 × Bool) (p : UInt8) : (rstep s p).2.1.length ≤ s.2.1.length := by
  have h1 := partR_len s.2.1
  have h2 := numR_len s.2.1
  have h3 := rlR_len 0 16 s.2.1
  have h4 := rlR_len 1 16 s.2.1
  unfold rstep
  repeat' split
  all_goals assumption
theorem rfold_len0 (ps : List UInt8) (s : Cmd × List UInt8 × Bool) : (ps.foldl rstep s).2.1.length ≤ s.2.1.length := by
  induction ps generalizing s with
  | nil => exact Nat.le_refl _
  | cons p r ih => have h1 := ih (rstep s p); have h2 := rstep_len s p; rw [List.foldl_cons]; omega
theorem rfold_len (op : Int) (l : List UInt8) : (rfold op l).2.1.length ≤ l.length := rfold_len0 _ _

theorem rread_any (w : World) (code : UInt8) (lo hi : Nat) (A : Option Addr) (c : Nat) (l : List UInt8) (hr : RdB w lo hi A c l) (hlen : l.length ≤ 140737488355328) :
    Fn Tryd.prog 24 #[.agg #[.int .u8 (code.toNat : Int), .slice A l.length c]] w (fun v w' => ∃ K ck V cv T ct, v = .tuple #[.agg (cmdc (rdC code l).1 K ck V cv T ct).toArray, .int .i64 ((rdC code l).2 : Int)] ∧ RdS w' w.heap.size w'.heap.size K ck (rdC code l).1.keys ∧ RdB w' w.heap.size w'.heap.size V cv (rdC code l).1.value ∧ RdS w' w.heap.size w'.heap.size T ct (rdC code l).1.tags ∧ Ext w w') := by
  by_cases h0 : 1 ≤ code.toNat ∧ code.toNat ≤ 15
  · obtain ⟨h1, h2⟩ := h0
    by_cases h3 : (rfold (code.toNat : Int) l).2.2 = true
    · rw [rdC_bad (by rintro ⟨_, _, h, _⟩; rw [h3] at h; cases h)]; exact rread_bad w code lo hi A c l hr hlen h1 h2 h3
    · have h3' : (rfold (code.toNat : Int) l).2.2 = false := by simpa using h3
      by_cases h4 : (rfold (code.toNat : Int) l).2.1 = []
      · rw [rdC_ok h1 h2 h3' h4]; exact rread_ok w code lo hi A c l hr hlen h1 h2 h3' h4
      · rw [rdC_bad (by rintro ⟨_, _, _, h⟩; exact h4 h)]; exact rread_left w code lo hi A c l hr hlen h1 h2 h3' (fun e => h4 (List.eq_nil_of_length_eq_zero e)) (rfold_len _ _)
  · rw [rdC_bad (by rintro ⟨a, b, _⟩; exact h0 ⟨a, b⟩)]; exact rread_none w code lo hi A c l hr hlen (by omega)

end Go.Proofs.YtohnkjjjejnkpaaDoor
