/-
  Equal responses.
-/
import Derived.Test.YtohnkjjjejnkpaaRf
namespace Go.Proofs.Ytohnkjjjejnkpaa
open Go.RowKit
set_option linter.unusedVariables false
set_option maxRecDepth 4000
theorem cl37 : callable Try.prog 37 = true := by kernel_rfl
theorem cl38 : callable Try.prog 38 = true := by kernel_rfl
theorem cl39 : callable Try.prog 39 = true := by kernel_rfl
theorem cl52 : callable Try.prog 52 = true := by kernel_rfl
theorem oc23 : oneCellTy Try.prog 23 = true := by kernel_rfl

theorem take_eqA {α : Type} {xs ys : List α} {i : Nat} {s : α} (h : xs.take i = ys.take i) (hx : xs[i]? = some s) (hy : ys[i]? = some s) : xs.take (i + 1) = ys.take (i + 1) := by
  rw [List.take_add_one, List.take_add_one, h, hx, hy]
theorem vals_len (xs : List IT) : (vals xs).length = xs.length := List.length_map ..
theorem vals_get {xs : List IT} {k : Nat} {x : IT} (h : xs[k]? = some x) : (vals xs)[k]? = some x.1 := by unfold vals; rw [List.getElem?_map, h]; rfl

theorem nleq_any (w : World) (lo hi lo2 hi2 : Nat) (K : Option Addr) (ck : Nat) (xs : List Nat) (K2 : Option Addr) (ck2 : Nat) (ys : List Nat) (hK : RdN w lo hi K ck xs) (hK2 : RdN w lo2 hi2 K2 ck2 ys) :
    Fn Try.prog 39 #[(.slice K xs.length ck), (.slice K2 ys.length ck2)] w (fun v w' => v = .bool (decide (xs = ys)) ∧ Ext w w')  := by
  have hE := ext_refl w
  have hcx := hK.2.1
  have hcy := hK2.2.1
  have hcx1 := hK.1
  have hcy1 := hK2.1
  simp only [maxLen] at hcx hcy
  refine fn_enter (args := [(.slice K xs.length ck), (.slice K2 ys.length ck2)]) Try.func39 rfl rfl rfl ?_
  show WC _ _ _ _ [(0, (.slice K xs.length ck)), (1, (.slice K2 ys.length ck2))] _
  refine wc_seq (wc_regionL ?_)
  refine va rfl rfl ?_
  refine q_nil (k_then (wc_seq (wc_seq (wc_regionL ?_))))
  refine vm rfl rfl ?_
  refine wl_val (ov_len Try.underlying26 rfl) rfl rfl rfl ?_
  refine vm rfl rfl ?_
  refine wl_val (ov_len Try.underlying26 rfl) rfl rfl rfl ?_
  refine wl_val (ov_neq rfl rfl) rfl rfl rfl ?_
  refine q_nil (k_then ?_)
  refine wc_cond_d rfl (fun hc1 => ?_) (fun hc1 => ?_)
  · have hne : ¬ xs = ys := fun e => by subst e; omega
    refine wc_seq (wc_regionL ?_)
    refine va rfl rfl ?_
    refine q_nil (k_then (q_ret (k_thenR ?_)))
    refine e_ret rfl rfl ?_
    first | exact ⟨by rw [decide_eq_false hne], hE⟩ | exact ⟨by rw [decide_eq_true heq], hE⟩
  · refine q_skip (k_then (wc_seq (wc_seq (wc_regionL ?_))))
    refine vm rfl rfl ?_
    refine wl_val (ov_len Try.underlying26 rfl) rfl rfl rfl ?_
    refine vm rfl rfl ?_
    refine q_nil (k_then (wc_block ?_))
    refine wc_loop (σ := Nat) (fun i => xs.length - i) (fun i => [(0, .slice K xs.length ck), (1, .slice K2 ys.length ck2), (12, .int .i64 (xs.length : Int)), (13, .int .i64 (i : Int))]) (fun i w' => i ≤ xs.length ∧ xs.take i = ys.take i ∧ RdN w' lo hi K ck xs ∧ RdN w' lo2 hi2 K2 ck2 ys ∧ Ext w w') (0) (⟨Nat.zero_le _, rfl, hK, hK2, hE⟩) (⟨rfl, rfl, rfl, rfl, trivial⟩) ?_
    rintro i wq ⟨hi0, htk, hK, hK2, hE⟩
    show WC _ _ _ _ [(0, (.slice K xs.length ck)), (1, (.slice K2 ys.length ck2)), (12, (.int .i64 (↑xs.length : Int))), (13, (.int .i64 (↑i : Int)))] _
    refine wc_seq (wc_regionL ?_)
    refine wl_val (ov_lss rfl rfl) rfl rfl rfl ?_
    refine q_nil (k_then (wc_seq ?_))
    refine wc_cond_d rfl (fun hc2 => ?_) (fun hc2 => ?_)
    · obtain ⟨s1, hk1⟩ : ∃ s, xs[i]? = some s := ⟨_, List.getElem?_eq_getElem (by omega)⟩
      obtain ⟨s2, hk2⟩ : ∃ s, ys[i]? = some s := ⟨_, List.getElem?_eq_getElem (by omega)⟩
      refine q_skip (k_then (wc_seq (wc_block (wc_seq (wc_regionL ?_)))))
      refine vm rfl rfl ?_
      refine va rfl rfl ?_
      refine q_nil (k_then (wc_seq ?_))
      refine wc_draw mixed 8 [(16, eqv (.slice K xs.length ck)), (17, eqv (.int .i64 (↑i : Int))), (18, isCells [(.int .u64 (↑s1 : Int))]), (19, eqv (.int .u64 (↑s1 : Int))), (20, eqv (.slice K2 ys.length ck2)), (21, eqv (.int .i64 (↑i : Int))), (22, isCells [(.int .u64 (↑s2 : Int))]), (23, eqv (.int .u64 (↑s2 : Int)))] [[], [], [0, 1], [2], [], [], [4, 5], [6]] _ [] [] (fun _ _ h => h) trivial (by kernel_rfl) rfl ⟨⟨stb_eqv _, fun _ he => by cases he⟩, ⟨stb_eqv _, fun _ he => by cases he⟩, ⟨stb_isCells _, fun _ he => by cases he⟩, ⟨stb_eqv _, fun _ he => by cases he⟩, ⟨stb_eqv _, fun _ he => by cases he⟩, ⟨stb_eqv _, fun _ he => by cases he⟩, ⟨stb_isCells _, fun _ he => by cases he⟩, ⟨stb_eqv _, fun _ he => by cases he⟩, trivial⟩ ⟨?_, ?_, ?_, ?_, ?_, ?_, ?_, ?_, trivial⟩ ?_
      · intro wd hxE
        replace hK := hK.ext hxE
        replace hK2 := hK2.ext hxE
        replace hE := hE.tr hxE
        have hz_hxE := hxE.size
        show OpG _ _ _ _ _ _
        exact og_plain rfl (ox_val (ov_move rfl))
      · intro wd hxE
        replace hK := hK.ext hxE
        replace hK2 := hK2.ext hxE
        replace hE := hE.tr hxE
        have hz_hxE := hxE.size
        show OpG _ _ _ _ _ _
        exact og_plain rfl (ox_val (ov_move rfl))
      · intro wd hxE
        replace hK := hK.ext hxE
        replace hK2 := hK2.ext hxE
        replace hE := hE.tr hxE
        have hz_hxE := hxE.size
        rintro _ rfl
        rintro _ rfl
        show OpG _ _ _ _ _ _
        refine og_plain rfl (OpRun.mono (or_rindex (m := (i)) sl26 rfl rfl hK (fun _ _ => rfl) hk1) ?_)
        rintro v _ ⟨rfl, p18, rfl, hp18, hpl18, hph18⟩
        exact ⟨⟨p18, rfl, hp18⟩, ext_refl _⟩
      · intro wd hxE
        replace hK := hK.ext hxE
        replace hK2 := hK2.ext hxE
        replace hE := hE.tr hxE
        have hz_hxE := hxE.size
        rintro _ ⟨p18, rfl, hp18⟩
        show OpG _ _ _ _ _ _
        exact og_plain rfl (ox_val (ov_load oc25 rfl (cell_zero hp18 rfl)))
      · intro wd hxE
        replace hK := hK.ext hxE
        replace hK2 := hK2.ext hxE
        replace hE := hE.tr hxE
        have hz_hxE := hxE.size
        show OpG _ _ _ _ _ _
        exact og_plain rfl (ox_val (ov_move rfl))
      · intro wd hxE
        replace hK := hK.ext hxE
        replace hK2 := hK2.ext hxE
        replace hE := hE.tr hxE
        have hz_hxE := hxE.size
        show OpG _ _ _ _ _ _
        exact og_plain rfl (ox_val (ov_move rfl))
      · intro wd hxE
        replace hK := hK.ext hxE
        replace hK2 := hK2.ext hxE
        replace hE := hE.tr hxE
        have hz_hxE := hxE.size
        rintro _ rfl
        rintro _ rfl
        show OpG _ _ _ _ _ _
        refine og_plain rfl (OpRun.mono (or_rindex (m := (i)) sl26 rfl rfl hK2 (fun _ _ => rfl) hk2) ?_)
        rintro v _ ⟨rfl, p22, rfl, hp22, hpl22, hph22⟩
        exact ⟨⟨p22, rfl, hp22⟩, ext_refl _⟩
      · intro wd hxE
        replace hK := hK.ext hxE
        replace hK2 := hK2.ext hxE
        replace hE := hE.tr hxE
        have hz_hxE := hxE.size
        rintro _ ⟨p22, rfl, hp22⟩
        show OpG _ _ _ _ _ _
        exact og_plain rfl (ox_val (ov_load oc25 rfl (cell_zero hp22 rfl)))
      · intro wf6 hf6
        replace hK := hK.ext hf6
        replace hK2 := hK2.ext hf6
        replace hE := hE.tr hf6
        have hz_hf6 := hf6.size
        rintro _ rfl
        rintro _ rfl
        rintro _ ⟨p18, rfl, hp18⟩
        rintro _ rfl
        rintro _ rfl
        rintro _ rfl
        rintro _ ⟨p22, rfl, hp22⟩
        rintro _ rfl
        show WL _ _ _ [_] _ _ _
        refine wl_val (ov_neq rfl rfl) rfl rfl rfl ?_
        refine q_nil (k_then ?_)
        refine wc_cond_d rfl (fun hc3 => ?_) (fun hc3 => ?_)
        · have hne : ¬ xs = ys := fun e => by subst e; rw [hk1] at hk2; have h5 := Option.some.inj hk2; omega
          refine wc_seq (wc_regionL ?_)
          refine va rfl rfl ?_
          refine q_nil (k_then (q_ret (k_blockR (k_thenR (k_thenR (k_blockR (k_thenR ?_)))))))
          refine e_ret rfl rfl ?_
          first | exact ⟨by rw [decide_eq_false hne], hE⟩ | exact ⟨by rw [decide_eq_true heq], hE⟩
        · have heq : s1 = s2 := by omega
          refine q_skip (k_block (k_then (wc_regionL ?_)))
          refine wl_val (ov_add rfl rfl (wi64 (by omega) (by omega))) rfl rfl rfl ?_
          refine vm rfl rfl ?_
          refine q_nil ?_
          refine k_loop (i + 1) (by show xs.length - (i + 1) < xs.length - i; omega) (⟨rfl, rfl, rfl, rfl, trivial⟩) (⟨by omega, take_eqA htk hk1 (hk2.trans (congrArg some heq.symm)), hK, hK2, hE⟩)
    · have heq : xs = ys := by rw [List.take_of_length_le (by omega), List.take_of_length_le (by omega)] at htk; exact htk
      refine q_exit (k_thenX (k_thenX (k_blockE (k_then (wc_seq (wc_regionL ?_))))))
      refine va rfl rfl ?_
      refine q_nil (k_then (q_ret ?_))
      refine e_ret rfl rfl ?_
      first | exact ⟨by rw [decide_eq_false hne], hE⟩ | exact ⟨by rw [decide_eq_true heq], hE⟩

theorem ieq_any (w : World) (x y : Itm) (lo hi lo2 hi2 : Nat) (A : Option Addr) (c : Nat) (B : Option Addr) (d : Nat) (hA : RdB w lo hi A c x.value) (hB : RdB w lo2 hi2 B d y.value) :
    Fn Try.prog 38 #[(.agg #[(.int .i64 x.mark), (.slice A x.value.length c), (.int .u64 (↑x.ver : Int)), (.int .u64 (↑x.dead : Int))]), (.agg #[(.int .i64 y.mark), (.slice B y.value.length d), (.int .u64 (↑y.ver : Int)), (.int .u64 (↑y.dead : Int))])] w (fun v w' => v = .bool (decide (x = y)) ∧ Ext w w')  := by
  have hE := ext_refl w
  refine fn_enter (args := [(.agg #[(.int .i64 x.mark), (.slice A x.value.length c), (.int .u64 (↑x.ver : Int)), (.int .u64 (↑x.dead : Int))]), (.agg #[(.int .i64 y.mark), (.slice B y.value.length d), (.int .u64 (↑y.ver : Int)), (.int .u64 (↑y.dead : Int))])]) Try.func38 rfl rfl rfl ?_
  show WC _ _ _ _ [(0, (.agg #[(.int .i64 x.mark), (.slice A x.value.length c), (.int .u64 (↑x.ver : Int)), (.int .u64 (↑x.dead : Int))])), (1, (.agg #[(.int .i64 y.mark), (.slice B y.value.length d), (.int .u64 (↑y.ver : Int)), (.int .u64 (↑y.dead : Int))]))] _
  refine wc_seq (wc_regionL ?_)
  refine wl_step (or_box (cs := [(.int .i64 x.mark), (.slice A x.value.length c), (.int .u64 (↑x.ver : Int)), (.int .u64 (↑x.dead : Int))]) rfl rfl) rfl rfl rfl ?_
  rintro v w1 ⟨g2, rfl, hb_g2, he2, hl2, hu2⟩
  replace hA := hA.ext he2
  replace hB := hB.ext he2
  replace hE := hE.tr he2
  have hz_he2 := he2.size
  refine wl_step (or_box (cs := [(.int .i64 y.mark), (.slice B y.value.length d), (.int .u64 (↑y.ver : Int)), (.int .u64 (↑y.dead : Int))]) rfl rfl) rfl rfl rfl ?_
  rintro v w2 ⟨g3, rfl, hb_g3, he3, hl3, hu3⟩
  replace hA := hA.ext he3
  replace hB := hB.ext he3
  replace hE := hE.tr he3
  replace hb_g2 := hb_g2.ext he3
  have hz_he3 := he3.size
  refine va rfl rfl ?_
  refine q_nil (k_then (wc_seq (wc_regionL ?_)))
  refine wl_val (ov_field0 (off := 0) fo53_0 rfl) rfl rfl rfl ?_
  refine wl_val (ov_loadAt oc50 rfl hb_g2 rfl) rfl rfl rfl ?_
  refine wl_val (ov_field0 (off := 0) fo53_0 rfl) rfl rfl rfl ?_
  refine wl_val (ov_loadAt oc50 rfl hb_g3 rfl) rfl rfl rfl ?_
  refine ve rfl rfl rfl ?_
  refine wl_case_d (d := 9) rfl (fun h9 => ?_) (fun h9 => ?_)
  · refine vm rfl rfl ?_
    refine wl_gval (ov_field0 (off := 1) fo53_1 rfl) rfl rfl rfl rfl rfl ?_
    refine wl_gval (ov_loadAt oc32 rfl hb_g2 rfl) rfl rfl rfl rfl rfl ?_
    refine wl_gval (ov_field0 (off := 1) fo53_1 rfl) rfl rfl rfl rfl rfl ?_
    refine wl_gval (ov_loadAt oc32 rfl hb_g3 rfl) rfl rfl rfl rfl rfl ?_
    refine wl_gval (or_call0 cl52 rfl rfl (bequal_any _ _ _ _ _ _ _ x.value _ _ y.value hA hB)) rfl rfl rfl rfl rfl ?_
    refine wl_case_d (d := 15) rfl (fun h15 => ?_) (fun h15 => ?_)
    · refine wl_val (ov_pick_t rfl rfl) rfl rfl rfl ?_
      refine vm rfl rfl ?_
      refine wl_gval (ov_field0 (off := 2) fo53_2 rfl) rfl rfl rfl rfl rfl ?_
      refine wl_gval (ov_loadAt oc25 rfl hb_g2 rfl) rfl rfl rfl rfl rfl ?_
      refine wl_gval (ov_field0 (off := 2) fo53_2 rfl) rfl rfl rfl rfl rfl ?_
      refine wl_gval (ov_loadAt oc25 rfl hb_g3 rfl) rfl rfl rfl rfl rfl ?_
      refine wl_gval (ov_eql rfl rfl) rfl rfl rfl rfl rfl ?_
      refine wl_case_d (d := 22) rfl (fun h22 => ?_) (fun h22 => ?_)
      · refine wl_val (ov_pick_t rfl rfl) rfl rfl rfl ?_
        refine vm rfl rfl ?_
        refine wl_gval (ov_field0 (off := 3) fo53_3 rfl) rfl rfl rfl rfl rfl ?_
        refine wl_gval (ov_loadAt oc51 rfl hb_g2 rfl) rfl rfl rfl rfl rfl ?_
        refine wl_gval (ov_field0 (off := 3) fo53_3 rfl) rfl rfl rfl rfl rfl ?_
        refine wl_gval (ov_loadAt oc51 rfl hb_g3 rfl) rfl rfl rfl rfl rfl ?_
        refine wl_gval (ov_eql rfl rfl) rfl rfl rfl rfl rfl ?_
        refine wl_case_d (d := 29) rfl (fun h29 => ?_) (fun h29 => ?_)
        · refine wl_val (ov_pick_t rfl rfl) rfl rfl rfl ?_
          refine va rfl rfl ?_
          refine q_nil (k_then (q_ret ?_))
          refine e_ret rfl rfl ?_
          exact ⟨by rw [decide_eq_true (Itm.ext_iff'.2 ⟨h9, h15, (by omega), (by omega)⟩)], hE⟩
        · refine wl_val (ov_pick_t rfl rfl) rfl rfl rfl ?_
          refine va rfl rfl ?_
          refine q_nil (k_then (q_ret ?_))
          refine e_ret rfl rfl ?_
          exact ⟨by rw [decide_eq_false (fun e => h29 (by rw [e]))], hE⟩
      · refine wl_val (ov_pick_t rfl rfl) rfl rfl rfl ?_
        refine vm rfl rfl ?_
        iterate 5 refine wl_gskip rfl rfl rfl rfl rfl rfl ?_
        refine wl_val (ov_pick_f rfl rfl) rfl rfl rfl ?_
        refine va rfl rfl ?_
        refine q_nil (k_then (q_ret ?_))
        refine e_ret rfl rfl ?_
        exact ⟨by rw [decide_eq_false (fun e => h22 (by rw [e]))], hE⟩
    · refine wl_val (ov_pick_t rfl rfl) rfl rfl rfl ?_
      refine vm rfl rfl ?_
      iterate 5 refine wl_gskip rfl rfl rfl rfl rfl rfl ?_
      refine wl_val (ov_pick_f rfl rfl) rfl rfl rfl ?_
      refine vm rfl rfl ?_
      iterate 5 refine wl_gskip rfl rfl rfl rfl rfl rfl ?_
      refine wl_val (ov_pick_f rfl rfl) rfl rfl rfl ?_
      refine va rfl rfl ?_
      refine q_nil (k_then (q_ret ?_))
      refine e_ret rfl rfl ?_
      exact ⟨by rw [decide_eq_false (fun e => h15 (by rw [e]))], hE⟩
  · refine vm rfl rfl ?_
    iterate 5 refine wl_gskip rfl rfl rfl rfl rfl rfl ?_
    refine wl_val (ov_pick_f rfl rfl) rfl rfl rfl ?_
    refine vm rfl rfl ?_
    iterate 5 refine wl_gskip rfl rfl rfl rfl rfl rfl ?_
    refine wl_val (ov_pick_f rfl rfl) rfl rfl rfl ?_
    refine vm rfl rfl ?_
    iterate 5 refine wl_gskip rfl rfl rfl rfl rfl rfl ?_
    refine wl_val (ov_pick_f rfl rfl) rfl rfl rfl ?_
    refine va rfl rfl ?_
    refine q_nil (k_then (q_ret ?_))
    refine e_ret rfl rfl ?_
    exact ⟨by rw [decide_eq_false (fun e => h9 (by rw [e]))], hE⟩

theorem eqf_any (w : World) (lo hi lo2 hi2 : Nat) (K : Option Addr) (ck : Nat) (xs : List IT) (K2 : Option Addr) (ck2 : Nat) (ys : List IT) (hx : RdI w lo hi K ck xs) (hy : RdI w lo2 hi2 K2 ck2 ys) :
    Fn Try.prog 37 #[(.slice K xs.length ck), (.slice K2 ys.length ck2), (.func (.func 38) #[] #[])] w (fun v w' => v = .bool (decide (vals xs = vals ys)) ∧ Ext w w')  := by
  replace hx := hx.top
  replace hy := hy.top
  have hE := ext_refl w
  have hcx := hx.1.2.1
  have hcy := hy.1.2.1
  have hcx1 := hx.1.1
  have hcy1 := hy.1.1
  simp only [maxLen] at hcx hcy
  have hvx := vals_len xs
  have hvy := vals_len ys
  obtain ⟨h1, hh1⟩ : ∃ n, n = w.heap.size := ⟨_, rfl⟩
  rw [← hh1] at hx hy
  refine fn_enter (args := [(.slice K xs.length ck), (.slice K2 ys.length ck2), (.func (.func 38) #[] #[])]) Try.func37 rfl rfl rfl ?_
  show WC _ _ _ _ [(0, (.slice K xs.length ck)), (1, (.slice K2 ys.length ck2)), (2, (.func (.func 38) #[] #[]))] _
  refine wc_seq (wc_regionL ?_)
  refine va rfl rfl ?_
  refine q_nil (k_then (wc_seq (wc_seq (wc_regionL ?_))))
  refine vm rfl rfl ?_
  refine wl_val (ov_len Try.underlying24 rfl) rfl rfl rfl ?_
  refine vm rfl rfl ?_
  refine wl_val (ov_len Try.underlying24 rfl) rfl rfl rfl ?_
  refine wl_val (ov_neq rfl rfl) rfl rfl rfl ?_
  refine q_nil (k_then ?_)
  refine wc_cond_d rfl (fun hc1 => ?_) (fun hc1 => ?_)
  · have hne : ¬ vals xs = vals ys := fun e => by have e2 := congrArg List.length e; omega
    refine wc_seq (wc_regionL ?_)
    refine va rfl rfl ?_
    refine q_nil (k_then (q_ret (k_thenR ?_)))
    refine e_ret rfl rfl ?_
    first | exact ⟨by rw [decide_eq_false hne], hE⟩ | exact ⟨by rw [decide_eq_true heq], hE⟩
  · refine q_skip (k_then (wc_seq (wc_seq (wc_regionL ?_))))
    refine vm rfl rfl ?_
    refine wl_val (ov_len Try.underlying24 rfl) rfl rfl rfl ?_
    refine vm rfl rfl ?_
    refine q_nil (k_then (wc_block ?_))
    refine wc_loop (σ := Nat) (fun i => xs.length - i) (fun i => [(1, .slice K2 ys.length ck2), (2, .func (.func 38) #[] #[]), (15, .slice K xs.length ck), (16, .int .i64 (xs.length : Int)), (17, .int .i64 (i : Int))]) (fun i w' => i ≤ xs.length ∧ (vals xs).take i = (vals ys).take i ∧ RdI w' lo h1 K ck xs ∧ RdI w' lo2 h1 K2 ck2 ys ∧ Ext w w') (0) (⟨Nat.zero_le _, rfl, hx, hy, hE⟩) (⟨rfl, rfl, rfl, rfl, rfl, trivial⟩) ?_
    rintro i wq ⟨hi0, htk, hx, hy, hE⟩
    show WC _ _ _ _ [(1, (.slice K2 ys.length ck2)), (2, (.func (.func 38) #[] #[])), (15, (.slice K xs.length ck)), (16, (.int .i64 (↑xs.length : Int))), (17, (.int .i64 (↑i : Int)))] _
    have hz_E := hE.size
    refine wc_seq (wc_regionL ?_)
    refine wl_val (ov_lss rfl rfl) rfl rfl rfl ?_
    refine q_nil (k_then (wc_seq ?_))
    refine wc_cond_d rfl (fun hc2 => ?_) (fun hc2 => ?_)
    · obtain ⟨x, hk1⟩ : ∃ s, xs[i]? = some s := ⟨_, List.getElem?_eq_getElem (by omega)⟩
      obtain ⟨y, hk2⟩ : ∃ s, ys[i]? = some s := ⟨_, List.getElem?_eq_getElem (by omega)⟩
      refine q_skip (k_then (wc_seq (wc_block (wc_seq (wc_regionL ?_)))))
      refine vm rfl rfl ?_
      refine wl_step (or_rindex (m := (i)) sl24 rfl rfl hx.1 (fun _ _ => rfl) hk1) rfl rfl rfl ?_
      rintro v _ ⟨rfl, p20, rfl, hp20, hpl20, hph20⟩
      refine wl_val (ov_loadAgg (cs := [(.int .i64 x.1.mark), (.slice x.2.1 x.1.value.length x.2.2), (.int .u64 (↑x.1.ver : Int)), (.int .u64 (↑x.1.dead : Int))]) ag53_4 rfl rfl hp20) rfl rfl rfl ?_
      refine wl_step (or_alloc (cs := [(.int .i64 0), (.slice none 0 0), (.int .u64 0), (.int .u64 0)]) ze53 rfl) rfl rfl rfl ?_
      rintro v w201 ⟨g8, rfl, hb_g8, he8, hl8, hu8⟩
      replace hx := RdI.ext hx he8
      replace hy := RdI.ext hy he8
      replace hE := hE.tr he8
      have hz_he8 := he8.size
      refine va rfl rfl ?_
      refine wl_step0 (or_storeBlk (vs := [(.int .i64 x.1.mark), (.slice x.2.1 x.1.value.length x.2.2), (.int .u64 (↑x.1.ver : Int)), (.int .u64 (↑x.1.dead : Int))]) sz53 rfl rfl (by simp [Value.oneCell']) hb_g8 rfl) rfl rfl ?_
      rintro _ w202 ⟨hN202, hg202⟩
      have hz_hg202 := hg202.size
      replace hx := RdI.gr hx hg202 (fun _ e => by cases e; omega)
      replace hy := RdI.gr hy hg202 (fun _ e => by cases e; omega)
      replace hE := hE.gr hg202 (fun _ e => by cases e; omega)
      replace hb_g8 := hN202
      refine q_nil (k_then (wc_seq (wc_regionL ?_)))
      iterate 2 refine vm rfl rfl ?_
      refine wl_step (or_rindex (m := (i)) sl24 rfl rfl hy.1 (fun _ _ => rfl) hk2) rfl rfl rfl ?_
      rintro v _ ⟨rfl, p24, rfl, hp24, hpl24, hph24⟩
      refine wl_val (ov_loadAgg (cs := [(.int .i64 y.1.mark), (.slice y.2.1 y.1.value.length y.2.2), (.int .u64 (↑y.1.ver : Int)), (.int .u64 (↑y.1.dead : Int))]) ag53_4 rfl rfl hp24) rfl rfl rfl ?_
      refine wl_step (or_alloc (cs := [(.int .i64 0), (.slice none 0 0), (.int .u64 0), (.int .u64 0)]) ze53 rfl) rfl rfl rfl ?_
      rintro v w203 ⟨g9, rfl, hb_g9, he9, hl9, hu9⟩
      replace hx := RdI.ext hx he9
      replace hy := RdI.ext hy he9
      replace hE := hE.tr he9
      replace hb_g8 := hb_g8.ext he9
      have hz_he9 := he9.size
      refine wl_step0 (or_storeBlk (vs := [(.int .i64 y.1.mark), (.slice y.2.1 y.1.value.length y.2.2), (.int .u64 (↑y.1.ver : Int)), (.int .u64 (↑y.1.dead : Int))]) sz53 rfl rfl (by simp [Value.oneCell']) hb_g9 rfl) rfl rfl ?_
      rintro _ w204 ⟨hN204, hg204⟩
      have hz_hg204 := hg204.size
      replace hx := RdI.gr hx hg204 (fun _ e => by cases e; omega)
      replace hy := RdI.gr hy hg204 (fun _ e => by cases e; omega)
      replace hE := hE.gr hg204 (fun _ e => by cases e; omega)
      replace hb_g8 := hb_g8.gr hg204 (by intro e; cases e; omega)
      replace hb_g9 := hN204
      refine q_nil (k_then (wc_seq (wc_regionL ?_)))
      refine vm rfl rfl ?_
      refine wl_val (ov_loadBlk (cs := [(.int .i64 x.1.mark), (.slice x.2.1 x.1.value.length x.2.2), (.int .u64 (↑x.1.ver : Int)), (.int .u64 (↑x.1.dead : Int))]) ag53_4 rfl hb_g8) rfl rfl rfl ?_
      refine wl_val (ov_loadBlk (cs := [(.int .i64 y.1.mark), (.slice y.2.1 y.1.value.length y.2.2), (.int .u64 (↑y.1.ver : Int)), (.int .u64 (↑y.1.dead : Int))]) ag53_4 rfl hb_g9) rfl rfl rfl ?_
      refine wl_step (or_call0 cl38 rfl rfl (ieq_any _ x.1 y.1 _ _ _ _ _ _ _ _ (hx.2 x (List.mem_of_getElem? hk1)) (hy.2 y (List.mem_of_getElem? hk2)))) rfl rfl rfl ?_
      rintro v w205 ⟨rfl, he29⟩
      replace hx := RdI.ext hx he29
      replace hy := RdI.ext hy he29
      replace hE := hE.tr he29
      replace hb_g8 := hb_g8.ext he29
      replace hb_g9 := hb_g9.ext he29
      have hz_he29 := he29.size
      refine wl_val (ov_not rfl) rfl rfl rfl ?_
      refine wl_spell (d := 30) rfl (v' := (.bool (decide (¬ x.1 = y.1)))) (by by_cases h : x.1 = y.1 <;> simp [h]) ?_
      refine q_nil (k_then ?_)
      refine wc_cond_d rfl (fun hc3 => ?_) (fun hc3 => ?_)
      · have hne : ¬ vals xs = vals ys := fun e => by have h5 := vals_get hk1; rw [e, vals_get hk2] at h5; exact hc3 (Option.some.inj h5).symm
        refine wc_seq (wc_regionL ?_)
        refine va rfl rfl ?_
        refine q_nil (k_then (q_ret (k_blockR (k_thenR (k_thenR (k_blockR (k_thenR ?_)))))))
        refine e_ret rfl rfl ?_
        first | exact ⟨by rw [decide_eq_false hne], hE⟩ | exact ⟨by rw [decide_eq_true heq], hE⟩
      · have heq : x.1 = y.1 := Decidable.not_not.1 hc3
        refine q_skip (k_block (k_then (wc_regionL ?_)))
        refine wl_val (ov_add rfl rfl (wi64 (by omega) (by omega))) rfl rfl rfl ?_
        refine vm rfl rfl ?_
        refine q_nil ?_
        refine k_loop (i + 1) (by show xs.length - (i + 1) < xs.length - i; omega) (⟨rfl, rfl, rfl, rfl, rfl, trivial⟩) (⟨by omega, take_eqA htk (vals_get hk1) ((vals_get hk2).trans (congrArg some heq.symm)), hx, hy, hE⟩)
    · have heq : vals xs = vals ys := by rw [List.take_of_length_le (by omega), List.take_of_length_le (by omega)] at htk; exact htk
      refine q_exit (k_thenX (k_thenX (k_blockE (k_then (wc_seq (wc_regionL ?_))))))
      refine va rfl rfl ?_
      refine q_nil (k_then (q_ret ?_))
      refine e_ret rfl rfl ?_
      first | exact ⟨by rw [decide_eq_false hne], hE⟩ | exact ⟨by rw [decide_eq_true heq], hE⟩

theorem eq8_any (w : World) (a : Rsp) (xs : List IT) (hv : vals xs = a.items) (lo hi : Nat) (X : Option Addr) (cx : Nat) (N : Option Addr) (cn : Nat) (hx : RdI w lo hi X cx xs) (hn : RdN w lo hi N cn a.nums) (b : Rsp) (xs2 : List IT) (hv2 : vals xs2 = b.items) (lo2 hi2 : Nat) (X2 : Option Addr) (cx2 : Nat) (N2 : Option Addr) (cn2 : Nat) (hx2 : RdI w lo2 hi2 X2 cx2 xs2) (hn2 : RdN w lo2 hi2 N2 cn2 b.nums) :
    Fn Try.prog 22 #[(.agg #[(.int .i64 a.op), (.int .i64 a.err), (.slice X a.items.length cx), (.int .u64 (↑a.ver : Int)), (.int .i64 a.count), (.slice N a.nums.length cn)]), (.agg #[(.int .i64 b.op), (.int .i64 b.err), (.slice X2 b.items.length cx2), (.int .u64 (↑b.ver : Int)), (.int .i64 b.count), (.slice N2 b.nums.length cn2)])] w (fun v w' => v = .bool (decide (a = b)) ∧ Ext w w')  := by
  have hE := ext_refl w
  refine fn_enter (args := [(.agg #[(.int .i64 a.op), (.int .i64 a.err), (.slice X a.items.length cx), (.int .u64 (↑a.ver : Int)), (.int .i64 a.count), (.slice N a.nums.length cn)]), (.agg #[(.int .i64 b.op), (.int .i64 b.err), (.slice X2 b.items.length cx2), (.int .u64 (↑b.ver : Int)), (.int .i64 b.count), (.slice N2 b.nums.length cn2)])]) Try.func22 rfl rfl rfl ?_
  show WC _ _ _ _ [(0, (.agg #[(.int .i64 a.op), (.int .i64 a.err), (.slice X a.items.length cx), (.int .u64 (↑a.ver : Int)), (.int .i64 a.count), (.slice N a.nums.length cn)])), (1, (.agg #[(.int .i64 b.op), (.int .i64 b.err), (.slice X2 b.items.length cx2), (.int .u64 (↑b.ver : Int)), (.int .i64 b.count), (.slice N2 b.nums.length cn2)]))] _
  refine wc_seq (wc_regionL ?_)
  refine wl_step (or_box (cs := [(.int .i64 a.op), (.int .i64 a.err), (.slice X a.items.length cx), (.int .u64 (↑a.ver : Int)), (.int .i64 a.count), (.slice N a.nums.length cn)]) rfl rfl) rfl rfl rfl ?_
  rintro v w1 ⟨g2, rfl, hb_g2, he2, hl2, hu2⟩
  replace hx := RdI.ext hx he2
  replace hn := hn.ext he2
  replace hx2 := RdI.ext hx2 he2
  replace hn2 := hn2.ext he2
  replace hE := hE.tr he2
  have hz_he2 := he2.size
  refine wl_step (or_box (cs := [(.int .i64 b.op), (.int .i64 b.err), (.slice X2 b.items.length cx2), (.int .u64 (↑b.ver : Int)), (.int .i64 b.count), (.slice N2 b.nums.length cn2)]) rfl rfl) rfl rfl rfl ?_
  rintro v w2 ⟨g3, rfl, hb_g3, he3, hl3, hu3⟩
  replace hx := RdI.ext hx he3
  replace hn := hn.ext he3
  replace hx2 := RdI.ext hx2 he3
  replace hn2 := hn2.ext he3
  replace hE := hE.tr he3
  replace hb_g2 := hb_g2.ext he3
  have hz_he3 := he3.size
  refine va rfl rfl ?_
  refine q_nil (k_then (wc_seq (wc_regionL ?_)))
  refine wl_val (ov_field0 (off := 0) fo28_0 rfl) rfl rfl rfl ?_
  refine wl_val (ov_loadAt oc22 rfl hb_g2 rfl) rfl rfl rfl ?_
  refine wl_val (ov_field0 (off := 0) fo28_0 rfl) rfl rfl rfl ?_
  refine wl_val (ov_loadAt oc22 rfl hb_g3 rfl) rfl rfl rfl ?_
  refine ve rfl rfl rfl ?_
  refine wl_case_d (d := 9) rfl (fun h9 => ?_) (fun h9 => ?_)
  · refine vm rfl rfl ?_
    refine wl_gval (ov_field0 (off := 1) fo28_1 rfl) rfl rfl rfl rfl rfl ?_
    refine wl_gval (ov_loadAt oc23 rfl hb_g2 rfl) rfl rfl rfl rfl rfl ?_
    refine wl_gval (ov_field0 (off := 1) fo28_1 rfl) rfl rfl rfl rfl rfl ?_
    refine wl_gval (ov_loadAt oc23 rfl hb_g3 rfl) rfl rfl rfl rfl rfl ?_
    refine wl_gval (ov_eql rfl rfl) rfl rfl rfl rfl rfl ?_
    refine wl_case_d (d := 15) rfl (fun h15 => ?_) (fun h15 => ?_)
    · refine wl_val (ov_pick_t rfl rfl) rfl rfl rfl ?_
      refine vm rfl rfl ?_
      refine wl_gval (ov_field0 (off := 2) fo28_2 rfl) rfl rfl rfl rfl rfl ?_
      refine wl_gval (ov_loadAt oc24 rfl hb_g2 rfl) rfl rfl rfl rfl rfl ?_
      refine wl_spell (d := 19) rfl (v' := .slice X xs.length cx) (by rw [← hv, vals_len]) ?_
      refine wl_gval (ov_field0 (off := 2) fo28_2 rfl) rfl rfl rfl rfl rfl ?_
      refine wl_gval (ov_loadAt oc24 rfl hb_g3 rfl) rfl rfl rfl rfl rfl ?_
      refine wl_spell (d := 21) rfl (v' := .slice X2 xs2.length cx2) (by rw [← hv2, vals_len]) ?_
      refine wl_gstep (or_call0 cl37 rfl rfl (eqf_any _ _ _ _ _ X cx xs X2 cx2 xs2 hx hx2)) rfl rfl rfl rfl rfl ?_
      rintro v w3 ⟨rfl, he22⟩
      replace hx := RdI.ext hx he22
      replace hn := hn.ext he22
      replace hx2 := RdI.ext hx2 he22
      replace hn2 := hn2.ext he22
      replace hE := hE.tr he22
      replace hb_g2 := hb_g2.ext he22
      replace hb_g3 := hb_g3.ext he22
      have hz_he22 := he22.size
      refine wl_case_d (d := 22) rfl (fun h22 => ?_) (fun h22 => ?_)
      · refine wl_val (ov_pick_t rfl rfl) rfl rfl rfl ?_
        refine vm rfl rfl ?_
        refine wl_gval (ov_field0 (off := 3) fo28_3 rfl) rfl rfl rfl rfl rfl ?_
        refine wl_gval (ov_loadAt oc25 rfl hb_g2 rfl) rfl rfl rfl rfl rfl ?_
        refine wl_gval (ov_field0 (off := 3) fo28_3 rfl) rfl rfl rfl rfl rfl ?_
        refine wl_gval (ov_loadAt oc25 rfl hb_g3 rfl) rfl rfl rfl rfl rfl ?_
        refine wl_gval (ov_eql rfl rfl) rfl rfl rfl rfl rfl ?_
        refine wl_case_d (d := 29) rfl (fun h29 => ?_) (fun h29 => ?_)
        · refine wl_val (ov_pick_t rfl rfl) rfl rfl rfl ?_
          refine vm rfl rfl ?_
          refine wl_gval (ov_field0 (off := 4) fo28_4 rfl) rfl rfl rfl rfl rfl ?_
          refine wl_gval (ov_loadAt oc3 rfl hb_g2 rfl) rfl rfl rfl rfl rfl ?_
          refine wl_gval (ov_field0 (off := 4) fo28_4 rfl) rfl rfl rfl rfl rfl ?_
          refine wl_gval (ov_loadAt oc3 rfl hb_g3 rfl) rfl rfl rfl rfl rfl ?_
          refine wl_gval (ov_eql rfl rfl) rfl rfl rfl rfl rfl ?_
          refine wl_case_d (d := 36) rfl (fun h36 => ?_) (fun h36 => ?_)
          · refine wl_val (ov_pick_t rfl rfl) rfl rfl rfl ?_
            refine vm rfl rfl ?_
            refine wl_gval (ov_field0 (off := 5) fo28_5 rfl) rfl rfl rfl rfl rfl ?_
            refine wl_gval (ov_loadAt oc26 rfl hb_g2 rfl) rfl rfl rfl rfl rfl ?_
            refine wl_gval (ov_field0 (off := 5) fo28_5 rfl) rfl rfl rfl rfl rfl ?_
            refine wl_gval (ov_loadAt oc26 rfl hb_g3 rfl) rfl rfl rfl rfl rfl ?_
            refine wl_gstep (or_call0 cl39 rfl rfl (nleq_any _ _ _ _ _ N cn a.nums N2 cn2 b.nums hn hn2)) rfl rfl rfl rfl rfl ?_
            rintro v w4 ⟨rfl, he43⟩
            replace hx := RdI.ext hx he43
            replace hn := hn.ext he43
            replace hx2 := RdI.ext hx2 he43
            replace hn2 := hn2.ext he43
            replace hE := hE.tr he43
            replace hb_g2 := hb_g2.ext he43
            replace hb_g3 := hb_g3.ext he43
            have hz_he43 := he43.size
            refine wl_case_d (d := 43) rfl (fun h43 => ?_) (fun h43 => ?_)
            · refine wl_val (ov_pick_t rfl rfl) rfl rfl rfl ?_
              refine va rfl rfl ?_
              refine q_nil (k_then (q_ret ?_))
              refine e_ret rfl rfl ?_
              exact ⟨by rw [decide_eq_true (Rsp.ext_iff'.2 ⟨h9, h15, (hv.symm.trans (h22.trans hv2)), (by omega), h36, h43⟩)], hE⟩
            · refine wl_val (ov_pick_t rfl rfl) rfl rfl rfl ?_
              refine va rfl rfl ?_
              refine q_nil (k_then (q_ret ?_))
              refine e_ret rfl rfl ?_
              exact ⟨by rw [decide_eq_false (fun e => h43 (by rw [e]))], hE⟩
          · refine wl_val (ov_pick_t rfl rfl) rfl rfl rfl ?_
            refine vm rfl rfl ?_
            iterate 5 refine wl_gskip rfl rfl rfl rfl rfl rfl ?_
            refine wl_val (ov_pick_f rfl rfl) rfl rfl rfl ?_
            refine va rfl rfl ?_
            refine q_nil (k_then (q_ret ?_))
            refine e_ret rfl rfl ?_
            exact ⟨by rw [decide_eq_false (fun e => h36 (by rw [e]))], hE⟩
        · refine wl_val (ov_pick_t rfl rfl) rfl rfl rfl ?_
          refine vm rfl rfl ?_
          iterate 5 refine wl_gskip rfl rfl rfl rfl rfl rfl ?_
          refine wl_val (ov_pick_f rfl rfl) rfl rfl rfl ?_
          refine vm rfl rfl ?_
          iterate 5 refine wl_gskip rfl rfl rfl rfl rfl rfl ?_
          refine wl_val (ov_pick_f rfl rfl) rfl rfl rfl ?_
          refine va rfl rfl ?_
          refine q_nil (k_then (q_ret ?_))
          refine e_ret rfl rfl ?_
          exact ⟨by rw [decide_eq_false (fun e => h29 (by rw [e]))], hE⟩
      · refine wl_val (ov_pick_t rfl rfl) rfl rfl rfl ?_
        refine vm rfl rfl ?_
        iterate 5 refine wl_gskip rfl rfl rfl rfl rfl rfl ?_
        refine wl_val (ov_pick_f rfl rfl) rfl rfl rfl ?_
        refine vm rfl rfl ?_
        iterate 5 refine wl_gskip rfl rfl rfl rfl rfl rfl ?_
        refine wl_val (ov_pick_f rfl rfl) rfl rfl rfl ?_
        refine vm rfl rfl ?_
        iterate 5 refine wl_gskip rfl rfl rfl rfl rfl rfl ?_
        refine wl_val (ov_pick_f rfl rfl) rfl rfl rfl ?_
        refine va rfl rfl ?_
        refine q_nil (k_then (q_ret ?_))
        refine e_ret rfl rfl ?_
        exact ⟨by rw [decide_eq_false (fun e => h22 (by rw [hv, hv2, e]))], hE⟩
    · refine wl_val (ov_pick_t rfl rfl) rfl rfl rfl ?_
      refine vm rfl rfl ?_
      iterate 5 refine wl_gskip rfl rfl rfl rfl rfl rfl ?_
      refine wl_val (ov_pick_f rfl rfl) rfl rfl rfl ?_
      refine vm rfl rfl ?_
      iterate 5 refine wl_gskip rfl rfl rfl rfl rfl rfl ?_
      refine wl_val (ov_pick_f rfl rfl) rfl rfl rfl ?_
      refine vm rfl rfl ?_
      iterate 5 refine wl_gskip rfl rfl rfl rfl rfl rfl ?_
      refine wl_val (ov_pick_f rfl rfl) rfl rfl rfl ?_
      refine vm rfl rfl ?_
      iterate 5 refine wl_gskip rfl rfl rfl rfl rfl rfl ?_
      refine wl_val (ov_pick_f rfl rfl) rfl rfl rfl ?_
      refine va rfl rfl ?_
      refine q_nil (k_then (q_ret ?_))
      refine e_ret rfl rfl ?_
      exact ⟨by rw [decide_eq_false (fun e => h15 (by rw [e]))], hE⟩
  · refine vm rfl rfl ?_
    iterate 5 refine wl_gskip rfl rfl rfl rfl rfl rfl ?_
    refine wl_val (ov_pick_f rfl rfl) rfl rfl rfl ?_
    refine vm rfl rfl ?_
    iterate 5 refine wl_gskip rfl rfl rfl rfl rfl rfl ?_
    refine wl_val (ov_pick_f rfl rfl) rfl rfl rfl ?_
    refine vm rfl rfl ?_
    iterate 5 refine wl_gskip rfl rfl rfl rfl rfl rfl ?_
    refine wl_val (ov_pick_f rfl rfl) rfl rfl rfl ?_
    refine vm rfl rfl ?_
    iterate 5 refine wl_gskip rfl rfl rfl rfl rfl rfl ?_
    refine wl_val (ov_pick_f rfl rfl) rfl rfl rfl ?_
    refine vm rfl rfl ?_
    iterate 5 refine wl_gskip rfl rfl rfl rfl rfl rfl ?_
    refine wl_val (ov_pick_f rfl rfl) rfl rfl rfl ?_
    refine va rfl rfl ?_
    refine q_nil (k_then (q_ret ?_))
    refine e_ret rfl rfl ?_
    exact ⟨by rw [decide_eq_false (fun e => h9 (by rw [e]))], hE⟩

theorem fail8_any (w : World) (op e : Int) :
    Fn Try.prog 23 #[(.int .i64 op), (.int .i64 e)] w (fun v w' => v = .agg (rspc ⟨op, e, [], 0, 0, []⟩ none 0 none 0).toArray ∧ Ext w w')  := by
  have hE := ext_refl w
  refine fn_enter (args := [(.int .i64 op), (.int .i64 e)]) Try.func23 rfl rfl rfl ?_
  show WC _ _ _ _ [(0, (.int .i64 op)), (1, (.int .i64 e))] _
  refine wc_seq (wc_regionL ?_)
  refine wl_step (or_alloc (cs := [(.int .i64 0), (.int .i64 0), (.slice none 0 0), (.int .u64 0), (.int .i64 0), (.slice none 0 0)]) ze28 rfl) rfl rfl rfl ?_
  rintro v w1 ⟨g4, rfl, hb_g4, he4, hl4, hu4⟩
  replace hE := hE.tr he4
  have hz_he4 := he4.size
  refine q_nil (k_then (wc_seq (wc_regionL ?_)))
  iterate 2 refine vm rfl rfl ?_
  refine wl_val (ov_build (cs := [(.int .i64 op), (.int .i64 e), (.slice none 0 0), (.int .u64 0), (.int .i64 0), (.slice none 0 0)]) ze28 pl28 rfl rfl) rfl rfl rfl ?_
  refine wl_step0 (or_storeBlk (vs := [(.int .i64 op), (.int .i64 e), (.slice none 0 0), (.int .u64 0), (.int .i64 0), (.slice none 0 0)]) sz28 rfl rfl (by simp [Value.oneCell']) hb_g4 rfl) rfl rfl ?_
  rintro _ w2 ⟨hN2, hg2⟩
  have hz_hg2 := hg2.size
  replace hE := hE.gr hg2 (fun _ e => by cases e; omega)
  replace hb_g4 := hN2
  refine q_nil (k_then (q_ret ?_))
  refine e_retL (rs := [.cell 4 28]) (vs := [.agg #[(.int .i64 op), (.int .i64 e), (.slice none 0 0), (.int .u64 0), (.int .i64 0), (.slice none 0 0)]]) rfl ⟨⟨_, _, [(.int .i64 op), (.int .i64 e), (.slice none 0 0), (.int .u64 0), (.int .i64 0), (.slice none 0 0)], rfl, ag28_6, hb_g4, rfl⟩, trivial⟩ ?_
  exact ⟨rfl, hE⟩

end Go.Proofs.Ytohnkjjjejnkpaa
