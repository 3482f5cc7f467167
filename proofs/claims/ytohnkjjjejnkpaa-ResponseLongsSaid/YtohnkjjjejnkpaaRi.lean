/-
  The reference: equal responses.
-/
import Derived.Test.YtohnkjjjejnkpaaRh
namespace Go.Proofs.Ytohnkjjjejnkpaa
open Go.RowKit
set_option linter.unusedVariables false
set_option maxRecDepth 4000
theorem cl26 : callable Try.prog 26 = true := by kernel_rfl

theorem iref_any (w : World) (x y : Itm) (lo hi lo2 hi2 : Nat) (A : Option Addr) (c : Nat) (B : Option Addr) (d : Nat) (hA : RdB w lo hi A c x.value) (hB : RdB w lo2 hi2 B d y.value) :
    Fn Try.prog 26 #[(.agg #[(.int .i64 x.mark), (.slice A x.value.length c), (.int .u64 (↑x.ver : Int)), (.int .u64 (↑x.dead : Int))]), (.agg #[(.int .i64 y.mark), (.slice B y.value.length d), (.int .u64 (↑y.ver : Int)), (.int .u64 (↑y.dead : Int))])] w (fun v w' => v = .bool (decide (x = y)) ∧ Ext w w')  := by
  have hE := ext_refl w
  refine fn_enter (args := [(.agg #[(.int .i64 x.mark), (.slice A x.value.length c), (.int .u64 (↑x.ver : Int)), (.int .u64 (↑x.dead : Int))]), (.agg #[(.int .i64 y.mark), (.slice B y.value.length d), (.int .u64 (↑y.ver : Int)), (.int .u64 (↑y.dead : Int))])]) Try.func26 rfl rfl rfl ?_
  show WC _ _ _ _ [(0, (.agg #[(.int .i64 x.mark), (.slice A x.value.length c), (.int .u64 (↑x.ver : Int)), (.int .u64 (↑x.dead : Int))])), (1, (.agg #[(.int .i64 y.mark), (.slice B y.value.length d), (.int .u64 (↑y.ver : Int)), (.int .u64 (↑y.dead : Int))]))] _
  refine wc_seq (wc_regionL ?_)
  refine wl_step (or_box (cs := [(.int .i64 x.mark), (.slice A x.value.length c), (.int .u64 (↑x.ver : Int)), (.int .u64 (↑x.dead : Int))]) rfl rfl) rfl rfl rfl ?_
  rintro v w1 ⟨g2, rfl, hb_g2, he2, hl2, hu2⟩
  replace hA := hA.ext he2
  replace hB := hB.ext he2
  replace hE := hE.tr he2
  have hz_he2 := he2.size
  refine wl_step (or_box (cs := [(.int .i64 y.mark), (.slice B y.value.length d), (.int .u64 (↑y.ver : Int)), (.int .u64 (↑y.dead : Int))]) rfl rfl) rfl rfl rfl ?_
  rintro v w2 ⟨g3, rfl, hb_g3, he3, hl3, hu3⟩
  replace hA := hA.ext he3
  replace hB := hB.ext he3
  replace hE := hE.tr he3
  replace hb_g2 := hb_g2.ext he3
  have hz_he3 := he3.size
  refine va rfl rfl ?_
  refine q_nil (k_then (wc_seq (wc_regionL ?_)))
  refine wl_val (ov_field0 (off := 0) fo53_0 rfl) rfl rfl rfl ?_
  refine wl_val (ov_loadAt oc50 rfl hb_g2 rfl) rfl rfl rfl ?_
  refine wl_val (ov_field0 (off := 0) fo53_0 rfl) rfl rfl rfl ?_
  refine wl_val (ov_loadAt oc50 rfl hb_g3 rfl) rfl rfl rfl ?_
  refine ve rfl rfl rfl ?_
  refine wl_case_d (d := 9) rfl (fun h9 => ?_) (fun h9 => ?_)
  · refine vm rfl rfl ?_
    refine wl_gval (ov_field0 (off := 1) fo53_1 rfl) rfl rfl rfl rfl rfl ?_
    refine wl_gval (ov_loadAt oc32 rfl hb_g2 rfl) rfl rfl rfl rfl rfl ?_
    refine wl_gval (ov_bstr bt32 Try.underlying9 rfl hA) rfl rfl rfl rfl rfl ?_
    refine wl_gval (ov_field0 (off := 1) fo53_1 rfl) rfl rfl rfl rfl rfl ?_
    refine wl_gval (ov_loadAt oc32 rfl hb_g3 rfl) rfl rfl rfl rfl rfl ?_
    refine wl_gval (ov_bstr bt32 Try.underlying9 rfl hB) rfl rfl rfl rfl rfl ?_
    refine wl_gval (ov_seq rfl rfl) rfl rfl rfl rfl rfl ?_
    refine wl_case_d (d := 17) rfl (fun h17 => ?_) (fun h17 => ?_)
    · refine wl_val (ov_pick_t rfl rfl) rfl rfl rfl ?_
      refine vm rfl rfl ?_
      refine wl_gval (ov_field0 (off := 2) fo53_2 rfl) rfl rfl rfl rfl rfl ?_
      refine wl_gval (ov_loadAt oc25 rfl hb_g2 rfl) rfl rfl rfl rfl rfl ?_
      refine wl_gval (ov_field0 (off := 2) fo53_2 rfl) rfl rfl rfl rfl rfl ?_
      refine wl_gval (ov_loadAt oc25 rfl hb_g3 rfl) rfl rfl rfl rfl rfl ?_
      refine wl_gval (ov_eql rfl rfl) rfl rfl rfl rfl rfl ?_
      refine wl_case_d (d := 24) rfl (fun h24 => ?_) (fun h24 => ?_)
      · refine wl_val (ov_pick_t rfl rfl) rfl rfl rfl ?_
        refine vm rfl rfl ?_
        refine wl_gval (ov_field0 (off := 3) fo53_3 rfl) rfl rfl rfl rfl rfl ?_
        refine wl_gval (ov_loadAt oc51 rfl hb_g2 rfl) rfl rfl rfl rfl rfl ?_
        refine wl_gval (ov_field0 (off := 3) fo53_3 rfl) rfl rfl rfl rfl rfl ?_
        refine wl_gval (ov_loadAt oc51 rfl hb_g3 rfl) rfl rfl rfl rfl rfl ?_
        refine wl_gval (ov_eql rfl rfl) rfl rfl rfl rfl rfl ?_
        refine wl_case_d (d := 31) rfl (fun h31 => ?_) (fun h31 => ?_)
        · refine wl_val (ov_pick_t rfl rfl) rfl rfl rfl ?_
          refine va rfl rfl ?_
          refine q_nil (k_then (q_ret ?_))
          refine e_ret rfl rfl ?_
          exact ⟨by rw [decide_eq_true (Itm.ext_iff'.2 ⟨h9, h17, (by omega), (by omega)⟩)], hE⟩
        · refine wl_val (ov_pick_t rfl rfl) rfl rfl rfl ?_
          refine va rfl rfl ?_
          refine q_nil (k_then (q_ret ?_))
          refine e_ret rfl rfl ?_
          exact ⟨by rw [decide_eq_false (fun e => h31 (by rw [e]))], hE⟩
      · refine wl_val (ov_pick_t rfl rfl) rfl rfl rfl ?_
        refine vm rfl rfl ?_
        iterate 5 refine wl_gskip rfl rfl rfl rfl rfl rfl ?_
        refine wl_val (ov_pick_f rfl rfl) rfl rfl rfl ?_
        refine va rfl rfl ?_
        refine q_nil (k_then (q_ret ?_))
        refine e_ret rfl rfl ?_
        exact ⟨by rw [decide_eq_false (fun e => h24 (by rw [e]))], hE⟩
    · refine wl_val (ov_pick_t rfl rfl) rfl rfl rfl ?_
      refine vm rfl rfl ?_
      iterate 5 refine wl_gskip rfl rfl rfl rfl rfl rfl ?_
      refine wl_val (ov_pick_f rfl rfl) rfl rfl rfl ?_
      refine vm rfl rfl ?_
      iterate 5 refine wl_gskip rfl rfl rfl rfl rfl rfl ?_
      refine wl_val (ov_pick_f rfl rfl) rfl rfl rfl ?_
      refine va rfl rfl ?_
      refine q_nil (k_then (q_ret ?_))
      refine e_ret rfl rfl ?_
      exact ⟨by rw [decide_eq_false (fun e => h17 (by rw [e]))], hE⟩
  · refine vm rfl rfl ?_
    iterate 7 refine wl_gskip rfl rfl rfl rfl rfl rfl ?_
    refine wl_val (ov_pick_f rfl rfl) rfl rfl rfl ?_
    refine vm rfl rfl ?_
    iterate 5 refine wl_gskip rfl rfl rfl rfl rfl rfl ?_
    refine wl_val (ov_pick_f rfl rfl) rfl rfl rfl ?_
    refine vm rfl rfl ?_
    iterate 5 refine wl_gskip rfl rfl rfl rfl rfl rfl ?_
    refine wl_val (ov_pick_f rfl rfl) rfl rfl rfl ?_
    refine va rfl rfl ?_
    refine q_nil (k_then (q_ret ?_))
    refine e_ret rfl rfl ?_
    exact ⟨by rw [decide_eq_false (fun e => h9 (by rw [e]))], hE⟩

theorem req8_any (w : World) (a : Rsp) (xs : List IT) (hv : vals xs = a.items) (lo hi : Nat) (X : Option Addr) (cx : Nat) (N : Option Addr) (cn : Nat) (hx : RdI w lo hi X cx xs) (hn : RdN w lo hi N cn a.nums) (b : Rsp) (xs2 : List IT) (hv2 : vals xs2 = b.items) (lo2 hi2 : Nat) (X2 : Option Addr) (cx2 : Nat) (N2 : Option Addr) (cn2 : Nat) (hx2 : RdI w lo2 hi2 X2 cx2 xs2) (hn2 : RdN w lo2 hi2 N2 cn2 b.nums) :
    Fn Try.prog 14 #[(.agg #[(.int .i64 a.op), (.int .i64 a.err), (.slice X a.items.length cx), (.int .u64 (↑a.ver : Int)), (.int .i64 a.count), (.slice N a.nums.length cn)]), (.agg #[(.int .i64 b.op), (.int .i64 b.err), (.slice X2 b.items.length cx2), (.int .u64 (↑b.ver : Int)), (.int .i64 b.count), (.slice N2 b.nums.length cn2)])] w (fun v w' => v = .bool (decide (a = b)) ∧ Ext w w')  := by
  replace hx := hx.top
  replace hn := Rd.top hn
  replace hx2 := hx2.top
  replace hn2 := Rd.top hn2
  have hE := ext_refl w
  obtain ⟨hi, hh1⟩ : ∃ n, n = w.heap.size := ⟨_, rfl⟩
  rw [← hh1] at hx hn hx2 hn2
  obtain ⟨hi2, hh2⟩ : ∃ n, n = hi := ⟨_, rfl⟩
  rw [← hh2] at hx2 hn2
  have hvl := vals_len xs
  have hvl2 := vals_len xs2
  rw [hv] at hvl
  rw [hv2] at hvl2
  have hcx := hx.1.2.1
  have hcx1 := hx.1.1
  have hcn := hn.2.1
  have hcn1 := hn.1
  simp only [maxLen] at hcx hcn
  refine fn_enter (args := [(.agg #[(.int .i64 a.op), (.int .i64 a.err), (.slice X a.items.length cx), (.int .u64 (↑a.ver : Int)), (.int .i64 a.count), (.slice N a.nums.length cn)]), (.agg #[(.int .i64 b.op), (.int .i64 b.err), (.slice X2 b.items.length cx2), (.int .u64 (↑b.ver : Int)), (.int .i64 b.count), (.slice N2 b.nums.length cn2)])]) Try.func14 rfl rfl rfl ?_
  show WC _ _ _ _ [(0, (.agg #[(.int .i64 a.op), (.int .i64 a.err), (.slice X a.items.length cx), (.int .u64 (↑a.ver : Int)), (.int .i64 a.count), (.slice N a.nums.length cn)])), (1, (.agg #[(.int .i64 b.op), (.int .i64 b.err), (.slice X2 b.items.length cx2), (.int .u64 (↑b.ver : Int)), (.int .i64 b.count), (.slice N2 b.nums.length cn2)]))] _
  refine wc_seq (wc_regionL ?_)
  refine wl_step (or_box (cs := [(.int .i64 a.op), (.int .i64 a.err), (.slice X a.items.length cx), (.int .u64 (↑a.ver : Int)), (.int .i64 a.count), (.slice N a.nums.length cn)]) rfl rfl) rfl rfl rfl ?_
  rintro v w1 ⟨g2, rfl, hb_g2, he2, hl2, hu2⟩
  replace hx := RdI.ext hx he2
  replace hn := hn.ext he2
  replace hx2 := RdI.ext hx2 he2
  replace hn2 := hn2.ext he2
  replace hE := hE.tr he2
  have hz_he2 := he2.size
  refine wl_step (or_box (cs := [(.int .i64 b.op), (.int .i64 b.err), (.slice X2 b.items.length cx2), (.int .u64 (↑b.ver : Int)), (.int .i64 b.count), (.slice N2 b.nums.length cn2)]) rfl rfl) rfl rfl rfl ?_
  rintro v w2 ⟨g3, rfl, hb_g3, he3, hl3, hu3⟩
  replace hx := RdI.ext hx he3
  replace hn := hn.ext he3
  replace hx2 := RdI.ext hx2 he3
  replace hn2 := hn2.ext he3
  replace hE := hE.tr he3
  replace hb_g2 := hb_g2.ext he3
  have hz_he3 := he3.size
  refine va rfl rfl ?_
  refine q_nil (k_then (wc_seq (wc_seq (wc_regionL ?_))))
  refine wl_val (ov_field0 (off := 0) fo28_0 rfl) rfl rfl rfl ?_
  refine wl_val (ov_loadAt oc22 rfl hb_g2 rfl) rfl rfl rfl ?_
  refine wl_val (ov_field0 (off := 0) fo28_0 rfl) rfl rfl rfl ?_
  refine wl_val (ov_loadAt oc22 rfl hb_g3 rfl) rfl rfl rfl ?_
  refine wl_val (ov_neq rfl rfl) rfl rfl rfl ?_
  refine wl_case_d (d := 11) rfl (fun h11 => ?_) (fun h11 => ?_)
  · refine vm rfl rfl ?_
    iterate 5 refine wl_gskip rfl rfl rfl rfl rfl rfl ?_
    refine wl_val (ov_pick_t rfl rfl) rfl rfl rfl ?_
    refine vm rfl rfl ?_
    iterate 5 refine wl_gskip rfl rfl rfl rfl rfl rfl ?_
    refine wl_val (ov_pick_t rfl rfl) rfl rfl rfl ?_
    refine vm rfl rfl ?_
    iterate 5 refine wl_gskip rfl rfl rfl rfl rfl rfl ?_
    refine wl_val (ov_pick_t rfl rfl) rfl rfl rfl ?_
    refine vm rfl rfl ?_
    iterate 7 refine wl_gskip rfl rfl rfl rfl rfl rfl ?_
    refine wl_val (ov_pick_t rfl rfl) rfl rfl rfl ?_
    refine vm rfl rfl ?_
    iterate 7 refine wl_gskip rfl rfl rfl rfl rfl rfl ?_
    refine wl_val (ov_pick_t rfl rfl) rfl rfl rfl ?_
    refine q_nil (k_then ?_)
    refine wc_cond_t rfl ?_
    refine wc_seq (wc_regionL ?_)
    refine va rfl rfl ?_
    refine q_nil (k_then (q_ret (k_thenR ?_)))
    refine e_ret rfl rfl ?_
    exact ⟨by rw [decide_eq_false (fun e => h11 (by rw [e]))], hE⟩
  · refine vm rfl rfl ?_
    refine wl_gval (ov_field0 (off := 1) fo28_1 rfl) rfl rfl rfl rfl rfl ?_
    refine wl_gval (ov_loadAt oc23 rfl hb_g2 rfl) rfl rfl rfl rfl rfl ?_
    refine wl_gval (ov_field0 (off := 1) fo28_1 rfl) rfl rfl rfl rfl rfl ?_
    refine wl_gval (ov_loadAt oc23 rfl hb_g3 rfl) rfl rfl rfl rfl rfl ?_
    refine wl_gval (ov_neq rfl rfl) rfl rfl rfl rfl rfl ?_
    refine wl_case_d (d := 17) rfl (fun h17 => ?_) (fun h17 => ?_)
    · refine wl_val (ov_pick_f rfl rfl) rfl rfl rfl ?_
      refine vm rfl rfl ?_
      iterate 5 refine wl_gskip rfl rfl rfl rfl rfl rfl ?_
      refine wl_val (ov_pick_t rfl rfl) rfl rfl rfl ?_
      refine vm rfl rfl ?_
      iterate 5 refine wl_gskip rfl rfl rfl rfl rfl rfl ?_
      refine wl_val (ov_pick_t rfl rfl) rfl rfl rfl ?_
      refine vm rfl rfl ?_
      iterate 7 refine wl_gskip rfl rfl rfl rfl rfl rfl ?_
      refine wl_val (ov_pick_t rfl rfl) rfl rfl rfl ?_
      refine vm rfl rfl ?_
      iterate 7 refine wl_gskip rfl rfl rfl rfl rfl rfl ?_
      refine wl_val (ov_pick_t rfl rfl) rfl rfl rfl ?_
      refine q_nil (k_then ?_)
      refine wc_cond_t rfl ?_
      refine wc_seq (wc_regionL ?_)
      refine va rfl rfl ?_
      refine q_nil (k_then (q_ret (k_thenR ?_)))
      refine e_ret rfl rfl ?_
      exact ⟨by rw [decide_eq_false (fun e => h17 (by rw [e]))], hE⟩
    · refine wl_val (ov_pick_f rfl rfl) rfl rfl rfl ?_
      refine vm rfl rfl ?_
      refine wl_gval (ov_field0 (off := 3) fo28_3 rfl) rfl rfl rfl rfl rfl ?_
      refine wl_gval (ov_loadAt oc25 rfl hb_g2 rfl) rfl rfl rfl rfl rfl ?_
      refine wl_gval (ov_field0 (off := 3) fo28_3 rfl) rfl rfl rfl rfl rfl ?_
      refine wl_gval (ov_loadAt oc25 rfl hb_g3 rfl) rfl rfl rfl rfl rfl ?_
      refine wl_gval (ov_neq rfl rfl) rfl rfl rfl rfl rfl ?_
      refine wl_case_d (d := 24) rfl (fun h24 => ?_) (fun h24 => ?_)
      · refine wl_val (ov_pick_f rfl rfl) rfl rfl rfl ?_
        refine vm rfl rfl ?_
        iterate 5 refine wl_gskip rfl rfl rfl rfl rfl rfl ?_
        refine wl_val (ov_pick_t rfl rfl) rfl rfl rfl ?_
        refine vm rfl rfl ?_
        iterate 7 refine wl_gskip rfl rfl rfl rfl rfl rfl ?_
        refine wl_val (ov_pick_t rfl rfl) rfl rfl rfl ?_
        refine vm rfl rfl ?_
        iterate 7 refine wl_gskip rfl rfl rfl rfl rfl rfl ?_
        refine wl_val (ov_pick_t rfl rfl) rfl rfl rfl ?_
        refine q_nil (k_then ?_)
        refine wc_cond_t rfl ?_
        refine wc_seq (wc_regionL ?_)
        refine va rfl rfl ?_
        refine q_nil (k_then (q_ret (k_thenR ?_)))
        refine e_ret rfl rfl ?_
        exact ⟨by rw [decide_eq_false (fun e => h24 (by rw [e]))], hE⟩
      · refine wl_val (ov_pick_f rfl rfl) rfl rfl rfl ?_
        refine vm rfl rfl ?_
        refine wl_gval (ov_field0 (off := 4) fo28_4 rfl) rfl rfl rfl rfl rfl ?_
        refine wl_gval (ov_loadAt oc3 rfl hb_g2 rfl) rfl rfl rfl rfl rfl ?_
        refine wl_gval (ov_field0 (off := 4) fo28_4 rfl) rfl rfl rfl rfl rfl ?_
        refine wl_gval (ov_loadAt oc3 rfl hb_g3 rfl) rfl rfl rfl rfl rfl ?_
        refine wl_gval (ov_neq rfl rfl) rfl rfl rfl rfl rfl ?_
        refine wl_case_d (d := 31) rfl (fun h31 => ?_) (fun h31 => ?_)
        · refine wl_val (ov_pick_f rfl rfl) rfl rfl rfl ?_
          refine vm rfl rfl ?_
          iterate 7 refine wl_gskip rfl rfl rfl rfl rfl rfl ?_
          refine wl_val (ov_pick_t rfl rfl) rfl rfl rfl ?_
          refine vm rfl rfl ?_
          iterate 7 refine wl_gskip rfl rfl rfl rfl rfl rfl ?_
          refine wl_val (ov_pick_t rfl rfl) rfl rfl rfl ?_
          refine q_nil (k_then ?_)
          refine wc_cond_t rfl ?_
          refine wc_seq (wc_regionL ?_)
          refine va rfl rfl ?_
          refine q_nil (k_then (q_ret (k_thenR ?_)))
          refine e_ret rfl rfl ?_
          exact ⟨by rw [decide_eq_false (fun e => h31 (by rw [e]))], hE⟩
        · refine wl_val (ov_pick_f rfl rfl) rfl rfl rfl ?_
          refine vm rfl rfl ?_
          refine wl_gval (ov_field0 (off := 2) fo28_2 rfl) rfl rfl rfl rfl rfl ?_
          refine wl_gval (ov_loadAt oc24 rfl hb_g2 rfl) rfl rfl rfl rfl rfl ?_
          refine wl_gval (ov_len Try.underlying24 rfl) rfl rfl rfl rfl rfl ?_
          refine wl_gval (ov_field0 (off := 2) fo28_2 rfl) rfl rfl rfl rfl rfl ?_
          refine wl_gval (ov_loadAt oc24 rfl hb_g3 rfl) rfl rfl rfl rfl rfl ?_
          refine wl_gval (ov_len Try.underlying24 rfl) rfl rfl rfl rfl rfl ?_
          refine wl_gval (ov_neq rfl rfl) rfl rfl rfl rfl rfl ?_
          refine wl_case_d (d := 40) rfl (fun h40 => ?_) (fun h40 => ?_)
          · refine wl_val (ov_pick_f rfl rfl) rfl rfl rfl ?_
            refine vm rfl rfl ?_
            iterate 7 refine wl_gskip rfl rfl rfl rfl rfl rfl ?_
            refine wl_val (ov_pick_t rfl rfl) rfl rfl rfl ?_
            refine q_nil (k_then ?_)
            refine wc_cond_t rfl ?_
            refine wc_seq (wc_regionL ?_)
            refine va rfl rfl ?_
            refine q_nil (k_then (q_ret (k_thenR ?_)))
            refine e_ret rfl rfl ?_
            exact ⟨by rw [decide_eq_false (fun e => h40 (by rw [e]))], hE⟩
          · refine wl_val (ov_pick_f rfl rfl) rfl rfl rfl ?_
            refine vm rfl rfl ?_
            refine wl_gval (ov_field0 (off := 5) fo28_5 rfl) rfl rfl rfl rfl rfl ?_
            refine wl_gval (ov_loadAt oc26 rfl hb_g2 rfl) rfl rfl rfl rfl rfl ?_
            refine wl_gval (ov_len Try.underlying26 rfl) rfl rfl rfl rfl rfl ?_
            refine wl_gval (ov_field0 (off := 5) fo28_5 rfl) rfl rfl rfl rfl rfl ?_
            refine wl_gval (ov_loadAt oc26 rfl hb_g3 rfl) rfl rfl rfl rfl rfl ?_
            refine wl_gval (ov_len Try.underlying26 rfl) rfl rfl rfl rfl rfl ?_
            refine wl_gval (ov_neq rfl rfl) rfl rfl rfl rfl rfl ?_
            refine wl_case_d (d := 49) rfl (fun h49 => ?_) (fun h49 => ?_)
            · refine wl_val (ov_pick_f rfl rfl) rfl rfl rfl ?_
              refine q_nil (k_then ?_)
              refine wc_cond_t rfl ?_
              refine wc_seq (wc_regionL ?_)
              refine va rfl rfl ?_
              refine q_nil (k_then (q_ret (k_thenR ?_)))
              refine e_ret rfl rfl ?_
              exact ⟨by rw [decide_eq_false (fun e => h49 (by rw [e]))], hE⟩
            · refine wl_val (ov_pick_f rfl rfl) rfl rfl rfl ?_
              refine q_nil (k_then ?_)
              refine wc_cond_f rfl ?_
              refine q_skip (k_then (wc_seq (wc_seq (wc_regionL ?_))))
              refine va rfl rfl ?_
              refine q_nil (k_then (wc_block ?_))
              refine wc_loop (σ := Nat) (fun i => a.items.length - i) (fun i => [(2, .pointer (some ⟨g2, 0, none⟩)), (3, .pointer (some ⟨g3, 0, none⟩)), (5, .int .i64 (i : Int))]) (fun i w' => i ≤ a.items.length ∧ a.items.take i = b.items.take i ∧ RdI w' lo hi X cx xs ∧ RdN w' lo hi N cn a.nums ∧ RdI w' lo2 hi2 X2 cx2 xs2 ∧ RdN w' lo2 hi2 N2 cn2 b.nums ∧ Ext w w' ∧ Blk w' g2 28 (rspc a X cx N cn) ∧ Blk w' g3 28 (rspc b X2 cx2 N2 cn2)) (0) (⟨Nat.zero_le _, rfl, hx, hn, hx2, hn2, hE, hb_g2, hb_g3⟩) (⟨rfl, rfl, rfl, trivial⟩) ?_
              rintro i wq5 ⟨hi0, htk, hx, hn, hx2, hn2, hE, hb_g2, hb_g3⟩
              show WC _ _ _ _ [(2, (.pointer (some ⟨g2, 0, none⟩))), (3, (.pointer (some ⟨g3, 0, none⟩))), (5, (.int .i64 (↑i : Int)))] _
              have hz_E := hE.size
              have hz2 := hb_g2.lt
              have hz3 := hb_g3.lt
              refine wc_seq (wc_seq (wc_regionL ?_))
              refine vm rfl rfl ?_
              refine wl_val (ov_field0 (off := 2) fo28_2 rfl) rfl rfl rfl ?_
              refine wl_val (ov_loadAt oc24 rfl hb_g2 rfl) rfl rfl rfl ?_
              refine wl_val (ov_len Try.underlying24 rfl) rfl rfl rfl ?_
              refine wl_val (ov_lss rfl rfl) rfl rfl rfl ?_
              refine q_nil (k_then ?_)
              refine wc_cond_d rfl (fun hc2 => ?_) (fun hc2 => ?_)
              · obtain ⟨x, hk1⟩ : ∃ s, xs[i]? = some s := ⟨_, List.getElem?_eq_getElem (by omega)⟩
                obtain ⟨y, hk2⟩ : ∃ s, xs2[i]? = some s := ⟨_, List.getElem?_eq_getElem (by omega)⟩
                refine q_skip (k_then (wc_seq (wc_block (wc_seq ?_))))
                refine wc_draw mixed 10 [(58, eqv (.pointer (some ⟨g2, 2, none⟩))), (59, eqv (.slice X xs.length cx)), (60, eqv (.int .i64 (↑i : Int))), (61, isCells [(.int .i64 x.1.mark), (.slice x.2.1 x.1.value.length x.2.2), (.int .u64 (↑x.1.ver : Int)), (.int .u64 (↑x.1.dead : Int))]), (62, eqv (.agg #[(.int .i64 x.1.mark), (.slice x.2.1 x.1.value.length x.2.2), (.int .u64 (↑x.1.ver : Int)), (.int .u64 (↑x.1.dead : Int))])), (63, eqv (.pointer (some ⟨g3, 2, none⟩))), (64, eqv (.slice X2 xs2.length cx2)), (65, eqv (.int .i64 (↑i : Int))), (66, isCells [(.int .i64 y.1.mark), (.slice y.2.1 y.1.value.length y.2.2), (.int .u64 (↑y.1.ver : Int)), (.int .u64 (↑y.1.dead : Int))]), (67, eqv (.agg #[(.int .i64 y.1.mark), (.slice y.2.1 y.1.value.length y.2.2), (.int .u64 (↑y.1.ver : Int)), (.int .u64 (↑y.1.dead : Int))]))] [[], [0], [], [1, 2], [3], [], [5], [], [6, 7], [8]] _ [] [] (fun _ _ h => h) trivial (by kernel_rfl) rfl ⟨⟨stb_eqv _, fun _ he => by cases he⟩, ⟨stb_eqv _, fun _ he => by cases he⟩, ⟨stb_eqv _, fun _ he => by cases he⟩, ⟨stb_isCells _, fun _ he => by cases he⟩, ⟨stb_eqv _, fun _ he => by cases he⟩, ⟨stb_eqv _, fun _ he => by cases he⟩, ⟨stb_eqv _, fun _ he => by cases he⟩, ⟨stb_eqv _, fun _ he => by cases he⟩, ⟨stb_isCells _, fun _ he => by cases he⟩, ⟨stb_eqv _, fun _ he => by cases he⟩, trivial⟩ ⟨?_, ?_, ?_, ?_, ?_, ?_, ?_, ?_, ?_, ?_, trivial⟩ ?_
                · intro wd hxE
                  replace hx := RdI.ext hx hxE
                  replace hn := hn.ext hxE
                  replace hx2 := RdI.ext hx2 hxE
                  replace hn2 := hn2.ext hxE
                  replace hE := hE.tr hxE
                  replace hb_g2 := hb_g2.ext hxE
                  replace hb_g3 := hb_g3.ext hxE
                  have hz_hxE := hxE.size
                  show OpG _ _ _ _ _ _
                  exact og_plain rfl (ox_val (ov_field0 (off := 2) fo28_2 rfl))
                · intro wd hxE
                  replace hx := RdI.ext hx hxE
                  replace hn := hn.ext hxE
                  replace hx2 := RdI.ext hx2 hxE
                  replace hn2 := hn2.ext hxE
                  replace hE := hE.tr hxE
                  replace hb_g2 := hb_g2.ext hxE
                  replace hb_g3 := hb_g3.ext hxE
                  have hz_hxE := hxE.size
                  rintro _ rfl
                  show OpG _ _ _ _ _ _
                  exact og_plain rfl (ox_spell (by rw [← hv, vals_len]) (ov_loadAt oc24 rfl hb_g2 rfl))
                · intro wd hxE
                  replace hx := RdI.ext hx hxE
                  replace hn := hn.ext hxE
                  replace hx2 := RdI.ext hx2 hxE
                  replace hn2 := hn2.ext hxE
                  replace hE := hE.tr hxE
                  replace hb_g2 := hb_g2.ext hxE
                  replace hb_g3 := hb_g3.ext hxE
                  have hz_hxE := hxE.size
                  show OpG _ _ _ _ _ _
                  exact og_plain rfl (ox_val (ov_move rfl))
                · intro wd hxE
                  replace hx := RdI.ext hx hxE
                  replace hn := hn.ext hxE
                  replace hx2 := RdI.ext hx2 hxE
                  replace hn2 := hn2.ext hxE
                  replace hE := hE.tr hxE
                  replace hb_g2 := hb_g2.ext hxE
                  replace hb_g3 := hb_g3.ext hxE
                  have hz_hxE := hxE.size
                  rintro _ rfl
                  rintro _ rfl
                  show OpG _ _ _ _ _ _
                  refine og_plain rfl (OpRun.mono (or_rindex (m := (i)) sl24 rfl rfl hx.1 (fun _ _ => rfl) hk1) ?_)
                  rintro v _ ⟨rfl, p61, rfl, hp61, hpl61, hph61⟩
                  exact ⟨⟨p61, rfl, hp61⟩, ext_refl _⟩
                · intro wd hxE
                  replace hx := RdI.ext hx hxE
                  replace hn := hn.ext hxE
                  replace hx2 := RdI.ext hx2 hxE
                  replace hn2 := hn2.ext hxE
                  replace hE := hE.tr hxE
                  replace hb_g2 := hb_g2.ext hxE
                  replace hb_g3 := hb_g3.ext hxE
                  have hz_hxE := hxE.size
                  rintro _ ⟨p61, rfl, hp61⟩
                  show OpG _ _ _ _ _ _
                  exact og_plain rfl (ox_val (ov_loadAgg (cs := [(.int .i64 x.1.mark), (.slice x.2.1 x.1.value.length x.2.2), (.int .u64 (↑x.1.ver : Int)), (.int .u64 (↑x.1.dead : Int))]) ag53_4 rfl rfl hp61))
                · intro wd hxE
                  replace hx := RdI.ext hx hxE
                  replace hn := hn.ext hxE
                  replace hx2 := RdI.ext hx2 hxE
                  replace hn2 := hn2.ext hxE
                  replace hE := hE.tr hxE
                  replace hb_g2 := hb_g2.ext hxE
                  replace hb_g3 := hb_g3.ext hxE
                  have hz_hxE := hxE.size
                  show OpG _ _ _ _ _ _
                  exact og_plain rfl (ox_val (ov_field0 (off := 2) fo28_2 rfl))
                · intro wd hxE
                  replace hx := RdI.ext hx hxE
                  replace hn := hn.ext hxE
                  replace hx2 := RdI.ext hx2 hxE
                  replace hn2 := hn2.ext hxE
                  replace hE := hE.tr hxE
                  replace hb_g2 := hb_g2.ext hxE
                  replace hb_g3 := hb_g3.ext hxE
                  have hz_hxE := hxE.size
                  rintro _ rfl
                  show OpG _ _ _ _ _ _
                  exact og_plain rfl (ox_spell (by rw [← hv2, vals_len]) (ov_loadAt oc24 rfl hb_g3 rfl))
                · intro wd hxE
                  replace hx := RdI.ext hx hxE
                  replace hn := hn.ext hxE
                  replace hx2 := RdI.ext hx2 hxE
                  replace hn2 := hn2.ext hxE
                  replace hE := hE.tr hxE
                  replace hb_g2 := hb_g2.ext hxE
                  replace hb_g3 := hb_g3.ext hxE
                  have hz_hxE := hxE.size
                  show OpG _ _ _ _ _ _
                  exact og_plain rfl (ox_val (ov_move rfl))
                · intro wd hxE
                  replace hx := RdI.ext hx hxE
                  replace hn := hn.ext hxE
                  replace hx2 := RdI.ext hx2 hxE
                  replace hn2 := hn2.ext hxE
                  replace hE := hE.tr hxE
                  replace hb_g2 := hb_g2.ext hxE
                  replace hb_g3 := hb_g3.ext hxE
                  have hz_hxE := hxE.size
                  rintro _ rfl
                  rintro _ rfl
                  show OpG _ _ _ _ _ _
                  refine og_plain rfl (OpRun.mono (or_rindex (m := (i)) sl24 rfl rfl hx2.1 (fun _ _ => rfl) hk2) ?_)
                  rintro v _ ⟨rfl, p66, rfl, hp66, hpl66, hph66⟩
                  exact ⟨⟨p66, rfl, hp66⟩, ext_refl _⟩
                · intro wd hxE
                  replace hx := RdI.ext hx hxE
                  replace hn := hn.ext hxE
                  replace hx2 := RdI.ext hx2 hxE
                  replace hn2 := hn2.ext hxE
                  replace hE := hE.tr hxE
                  replace hb_g2 := hb_g2.ext hxE
                  replace hb_g3 := hb_g3.ext hxE
                  have hz_hxE := hxE.size
                  rintro _ ⟨p66, rfl, hp66⟩
                  show OpG _ _ _ _ _ _
                  exact og_plain rfl (ox_val (ov_loadAgg (cs := [(.int .i64 y.1.mark), (.slice y.2.1 y.1.value.length y.2.2), (.int .u64 (↑y.1.ver : Int)), (.int .u64 (↑y.1.dead : Int))]) ag53_4 rfl rfl hp66))
                · intro wf6 hf6
                  replace hx := RdI.ext hx hf6
                  replace hn := hn.ext hf6
                  replace hx2 := RdI.ext hx2 hf6
                  replace hn2 := hn2.ext hf6
                  replace hE := hE.tr hf6
                  replace hb_g2 := hb_g2.ext hf6
                  replace hb_g3 := hb_g3.ext hf6
                  have hz_hf6 := hf6.size
                  rintro _ rfl
                  rintro _ rfl
                  rintro _ rfl
                  rintro _ ⟨p61, rfl, hp61⟩
                  rintro _ rfl
                  rintro _ rfl
                  rintro _ rfl
                  rintro _ rfl
                  rintro _ ⟨p66, rfl, hp66⟩
                  rintro _ rfl
                  show WL _ _ _ [_, _] _ _ _
                  refine wl_step (or_call0 cl26 rfl rfl (iref_any _ x.1 y.1 _ _ _ _ _ _ _ _ (hx.2 x (List.mem_of_getElem? hk1)) (hx2.2 y (List.mem_of_getElem? hk2)))) rfl rfl rfl ?_
                  rintro v w203 ⟨rfl, he68⟩
                  replace hx := RdI.ext hx he68
                  replace hn := hn.ext he68
                  replace hx2 := RdI.ext hx2 he68
                  replace hn2 := hn2.ext he68
                  replace hE := hE.tr he68
                  replace hb_g2 := hb_g2.ext he68
                  replace hb_g3 := hb_g3.ext he68
                  have hz_he68 := he68.size
                  refine wl_val (ov_not rfl) rfl rfl rfl ?_
                  refine wl_spell (d := 69) rfl (v' := (.bool (decide (¬ x.1 = y.1)))) (by by_cases h : x.1 = y.1 <;> simp [h]) ?_
                  refine q_nil (k_then ?_)
                  refine wc_cond_d rfl (fun hc3 => ?_) (fun hc3 => ?_)
                  · have hne : ¬ a = b := fun e => by have h5 := vals_get hk1; rw [hv, e, ← hv2, vals_get hk2] at h5; exact hc3 (Option.some.inj h5).symm
                    refine wc_seq (wc_regionL ?_)
                    refine va rfl rfl ?_
                    refine q_nil (k_then (q_ret (k_blockR (k_thenR (k_thenR (k_blockR (k_thenR ?_)))))))
                    refine e_ret rfl rfl ?_
                    exact ⟨by rw [decide_eq_false hne], hE⟩
                  · have heq : x.1 = y.1 := Decidable.not_not.1 hc3
                    refine q_skip (k_block (k_then (wc_regionL ?_)))
                    refine vm rfl rfl ?_
                    refine wl_val (ov_add rfl rfl (wi64 (by omega) (by omega))) rfl rfl rfl ?_
                    refine va rfl rfl ?_
                    refine q_nil ?_
                    refine k_loop (i + 1) (by show a.items.length - (i + 1) < a.items.length - i; omega) (⟨rfl, rfl, rfl, trivial⟩) (⟨by omega, take_eqA htk (hv ▸ vals_get hk1) ((hv2 ▸ vals_get hk2).trans (congrArg some heq.symm)), hx, hn, hx2, hn2, hE, hb_g2, hb_g3⟩)
              · have heqi : a.items = b.items := by rw [List.take_of_length_le (by omega), List.take_of_length_le (by omega)] at htk; exact htk
                clear htk hi0
                refine q_exit (k_thenX (k_thenX (k_blockE (k_then (wc_seq (wc_seq (wc_regionL ?_)))))))
                refine va rfl rfl ?_
                refine q_nil (k_then (wc_block ?_))
                refine wc_loop (σ := Nat) (fun i => a.nums.length - i) (fun i => [(2, .pointer (some ⟨g2, 0, none⟩)), (3, .pointer (some ⟨g3, 0, none⟩)), (6, .int .i64 (i : Int))]) (fun i w' => i ≤ a.nums.length ∧ a.nums.take i = b.nums.take i ∧ RdI w' lo hi X cx xs ∧ RdN w' lo hi N cn a.nums ∧ RdI w' lo2 hi2 X2 cx2 xs2 ∧ RdN w' lo2 hi2 N2 cn2 b.nums ∧ Ext w w' ∧ Blk w' g2 28 (rspc a X cx N cn) ∧ Blk w' g3 28 (rspc b X2 cx2 N2 cn2)) (0) (⟨Nat.zero_le _, rfl, hx, hn, hx2, hn2, hE, hb_g2, hb_g3⟩) (⟨rfl, rfl, rfl, trivial⟩) ?_
                rintro i wq6 ⟨hi0, htk, hx, hn, hx2, hn2, hE, hb_g2, hb_g3⟩
                show WC _ _ _ _ [(2, (.pointer (some ⟨g2, 0, none⟩))), (3, (.pointer (some ⟨g3, 0, none⟩))), (6, (.int .i64 (↑i : Int)))] _
                have hz_E := hE.size
                have hz2 := hb_g2.lt
                have hz3 := hb_g3.lt
                refine wc_seq (wc_seq (wc_regionL ?_))
                refine vm rfl rfl ?_
                refine wl_val (ov_field0 (off := 5) fo28_5 rfl) rfl rfl rfl ?_
                refine wl_val (ov_loadAt oc26 rfl hb_g2 rfl) rfl rfl rfl ?_
                refine wl_val (ov_len Try.underlying26 rfl) rfl rfl rfl ?_
                refine wl_val (ov_lss rfl rfl) rfl rfl rfl ?_
                refine q_nil (k_then ?_)
                refine wc_cond_d rfl (fun hc4 => ?_) (fun hc4 => ?_)
                · obtain ⟨s1, hk1⟩ : ∃ s, a.nums[i]? = some s := ⟨_, List.getElem?_eq_getElem (by omega)⟩
                  obtain ⟨s2, hk2⟩ : ∃ s, b.nums[i]? = some s := ⟨_, List.getElem?_eq_getElem (by omega)⟩
                  refine q_skip (k_then (wc_seq (wc_block (wc_seq ?_))))
                  refine wc_draw mixed 10 [(77, eqv (.pointer (some ⟨g2, 5, none⟩))), (78, eqv (.slice N a.nums.length cn)), (79, eqv (.int .i64 (↑i : Int))), (80, isCells [(.int .u64 (↑s1 : Int))]), (81, eqv (.int .u64 (↑s1 : Int))), (82, eqv (.pointer (some ⟨g3, 5, none⟩))), (83, eqv (.slice N2 b.nums.length cn2)), (84, eqv (.int .i64 (↑i : Int))), (85, isCells [(.int .u64 (↑s2 : Int))]), (86, eqv (.int .u64 (↑s2 : Int)))] [[], [0], [], [1, 2], [3], [], [5], [], [6, 7], [8]] _ [] [] (fun _ _ h => h) trivial (by kernel_rfl) rfl ⟨⟨stb_eqv _, fun _ he => by cases he⟩, ⟨stb_eqv _, fun _ he => by cases he⟩, ⟨stb_eqv _, fun _ he => by cases he⟩, ⟨stb_isCells _, fun _ he => by cases he⟩, ⟨stb_eqv _, fun _ he => by cases he⟩, ⟨stb_eqv _, fun _ he => by cases he⟩, ⟨stb_eqv _, fun _ he => by cases he⟩, ⟨stb_eqv _, fun _ he => by cases he⟩, ⟨stb_isCells _, fun _ he => by cases he⟩, ⟨stb_eqv _, fun _ he => by cases he⟩, trivial⟩ ⟨?_, ?_, ?_, ?_, ?_, ?_, ?_, ?_, ?_, ?_, trivial⟩ ?_
                  · intro wd hxE
                    replace hx := RdI.ext hx hxE
                    replace hn := hn.ext hxE
                    replace hx2 := RdI.ext hx2 hxE
                    replace hn2 := hn2.ext hxE
                    replace hE := hE.tr hxE
                    replace hb_g2 := hb_g2.ext hxE
                    replace hb_g3 := hb_g3.ext hxE
                    have hz_hxE := hxE.size
                    show OpG _ _ _ _ _ _
                    exact og_plain rfl (ox_val (ov_field0 (off := 5) fo28_5 rfl))
                  · intro wd hxE
                    replace hx := RdI.ext hx hxE
                    replace hn := hn.ext hxE
                    replace hx2 := RdI.ext hx2 hxE
                    replace hn2 := hn2.ext hxE
                    replace hE := hE.tr hxE
                    replace hb_g2 := hb_g2.ext hxE
                    replace hb_g3 := hb_g3.ext hxE
                    have hz_hxE := hxE.size
                    rintro _ rfl
                    show OpG _ _ _ _ _ _
                    exact og_plain rfl (ox_val (ov_loadAt oc26 rfl hb_g2 rfl))
                  · intro wd hxE
                    replace hx := RdI.ext hx hxE
                    replace hn := hn.ext hxE
                    replace hx2 := RdI.ext hx2 hxE
                    replace hn2 := hn2.ext hxE
                    replace hE := hE.tr hxE
                    replace hb_g2 := hb_g2.ext hxE
                    replace hb_g3 := hb_g3.ext hxE
                    have hz_hxE := hxE.size
                    show OpG _ _ _ _ _ _
                    exact og_plain rfl (ox_val (ov_move rfl))
                  · intro wd hxE
                    replace hx := RdI.ext hx hxE
                    replace hn := hn.ext hxE
                    replace hx2 := RdI.ext hx2 hxE
                    replace hn2 := hn2.ext hxE
                    replace hE := hE.tr hxE
                    replace hb_g2 := hb_g2.ext hxE
                    replace hb_g3 := hb_g3.ext hxE
                    have hz_hxE := hxE.size
                    rintro _ rfl
                    rintro _ rfl
                    show OpG _ _ _ _ _ _
                    refine og_plain rfl (OpRun.mono (or_rindex (m := (i)) sl26 rfl rfl hn (fun _ _ => rfl) hk1) ?_)
                    rintro v _ ⟨rfl, p80, rfl, hp80, hpl80, hph80⟩
                    exact ⟨⟨p80, rfl, hp80⟩, ext_refl _⟩
                  · intro wd hxE
                    replace hx := RdI.ext hx hxE
                    replace hn := hn.ext hxE
                    replace hx2 := RdI.ext hx2 hxE
                    replace hn2 := hn2.ext hxE
                    replace hE := hE.tr hxE
                    replace hb_g2 := hb_g2.ext hxE
                    replace hb_g3 := hb_g3.ext hxE
                    have hz_hxE := hxE.size
                    rintro _ ⟨p80, rfl, hp80⟩
                    show OpG _ _ _ _ _ _
                    exact og_plain rfl (ox_val (ov_load oc25 rfl (cell_zero hp80 rfl)))
                  · intro wd hxE
                    replace hx := RdI.ext hx hxE
                    replace hn := hn.ext hxE
                    replace hx2 := RdI.ext hx2 hxE
                    replace hn2 := hn2.ext hxE
                    replace hE := hE.tr hxE
                    replace hb_g2 := hb_g2.ext hxE
                    replace hb_g3 := hb_g3.ext hxE
                    have hz_hxE := hxE.size
                    show OpG _ _ _ _ _ _
                    exact og_plain rfl (ox_val (ov_field0 (off := 5) fo28_5 rfl))
                  · intro wd hxE
                    replace hx := RdI.ext hx hxE
                    replace hn := hn.ext hxE
                    replace hx2 := RdI.ext hx2 hxE
                    replace hn2 := hn2.ext hxE
                    replace hE := hE.tr hxE
                    replace hb_g2 := hb_g2.ext hxE
                    replace hb_g3 := hb_g3.ext hxE
                    have hz_hxE := hxE.size
                    rintro _ rfl
                    show OpG _ _ _ _ _ _
                    exact og_plain rfl (ox_val (ov_loadAt oc26 rfl hb_g3 rfl))
                  · intro wd hxE
                    replace hx := RdI.ext hx hxE
                    replace hn := hn.ext hxE
                    replace hx2 := RdI.ext hx2 hxE
                    replace hn2 := hn2.ext hxE
                    replace hE := hE.tr hxE
                    replace hb_g2 := hb_g2.ext hxE
                    replace hb_g3 := hb_g3.ext hxE
                    have hz_hxE := hxE.size
                    show OpG _ _ _ _ _ _
                    exact og_plain rfl (ox_val (ov_move rfl))
                  · intro wd hxE
                    replace hx := RdI.ext hx hxE
                    replace hn := hn.ext hxE
                    replace hx2 := RdI.ext hx2 hxE
                    replace hn2 := hn2.ext hxE
                    replace hE := hE.tr hxE
                    replace hb_g2 := hb_g2.ext hxE
                    replace hb_g3 := hb_g3.ext hxE
                    have hz_hxE := hxE.size
                    rintro _ rfl
                    rintro _ rfl
                    show OpG _ _ _ _ _ _
                    refine og_plain rfl (OpRun.mono (or_rindex (m := (i)) sl26 rfl rfl hn2 (fun _ _ => rfl) hk2) ?_)
                    rintro v _ ⟨rfl, p85, rfl, hp85, hpl85, hph85⟩
                    exact ⟨⟨p85, rfl, hp85⟩, ext_refl _⟩
                  · intro wd hxE
                    replace hx := RdI.ext hx hxE
                    replace hn := hn.ext hxE
                    replace hx2 := RdI.ext hx2 hxE
                    replace hn2 := hn2.ext hxE
                    replace hE := hE.tr hxE
                    replace hb_g2 := hb_g2.ext hxE
                    replace hb_g3 := hb_g3.ext hxE
                    have hz_hxE := hxE.size
                    rintro _ ⟨p85, rfl, hp85⟩
                    show OpG _ _ _ _ _ _
                    exact og_plain rfl (ox_val (ov_load oc25 rfl (cell_zero hp85 rfl)))
                  · intro wf11 hf11
                    replace hx := RdI.ext hx hf11
                    replace hn := hn.ext hf11
                    replace hx2 := RdI.ext hx2 hf11
                    replace hn2 := hn2.ext hf11
                    replace hE := hE.tr hf11
                    replace hb_g2 := hb_g2.ext hf11
                    replace hb_g3 := hb_g3.ext hf11
                    have hz_hf11 := hf11.size
                    rintro _ rfl
                    rintro _ rfl
                    rintro _ rfl
                    rintro _ ⟨p80, rfl, hp80⟩
                    rintro _ rfl
                    rintro _ rfl
                    rintro _ rfl
                    rintro _ rfl
                    rintro _ ⟨p85, rfl, hp85⟩
                    rintro _ rfl
                    show WL _ _ _ [_] _ _ _
                    refine wl_val (ov_neq rfl rfl) rfl rfl rfl ?_
                    refine q_nil (k_then ?_)
                    refine wc_cond_d rfl (fun hc5 => ?_) (fun hc5 => ?_)
                    · have hne : ¬ a = b := fun e => by rw [e, hk2] at hk1; have h5 := Option.some.inj hk1; omega
                      refine wc_seq (wc_regionL ?_)
                      refine va rfl rfl ?_
                      refine q_nil (k_then (q_ret (k_blockR (k_thenR (k_thenR (k_blockR (k_thenR ?_)))))))
                      refine e_ret rfl rfl ?_
                      exact ⟨by rw [decide_eq_false hne], hE⟩
                    · have heq : s1 = s2 := by omega
                      refine q_skip (k_block (k_then (wc_regionL ?_)))
                      refine vm rfl rfl ?_
                      refine wl_val (ov_add rfl rfl (wi64 (by omega) (by omega))) rfl rfl rfl ?_
                      refine va rfl rfl ?_
                      refine q_nil ?_
                      refine k_loop (i + 1) (by show a.nums.length - (i + 1) < a.nums.length - i; omega) (⟨rfl, rfl, rfl, trivial⟩) (⟨by omega, take_eqA htk hk1 (hk2.trans (congrArg some heq.symm)), hx, hn, hx2, hn2, hE, hb_g2, hb_g3⟩)
                · have heqn : a.nums = b.nums := by rw [List.take_of_length_le (by omega), List.take_of_length_le (by omega)] at htk; exact htk
                  refine q_exit (k_thenX (k_thenX (k_blockE (k_then (wc_seq (wc_regionL ?_))))))
                  refine va rfl rfl ?_
                  refine q_nil (k_then (q_ret ?_))
                  refine e_ret rfl rfl ?_
                  exact ⟨by rw [decide_eq_true (Rsp.ext_iff'.2 ⟨by omega, by omega, heqi, by omega, by omega, heqn⟩)], hE⟩

end Go.Proofs.Ytohnkjjjejnkpaa
