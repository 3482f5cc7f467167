/-
 The walk of ConnNone.
-/
import Derived.Test.YtiighkbehiddkaaGreatCf
namespace Go.Proofs.YtiighkbehiddkaaGreat
open Go.RowKit
set_option linter.unusedVariables false
set_option linter.unusedSimpArgs false
set_option maxRecDepth 4000
theorem cl10 : callable Tryz.prog 10 = true := by kernel_rfl
theorem cl15 : callable Tryz.prog 15 = true := by kernel_rfl
theorem cl20 : callable Tryz.prog 20 = true := by kernel_rfl
theorem cl23 : callable Tryz.prog 23 = true := by kernel_rfl
theorem cl26 : callable Tryz.prog 26 = true := by kernel_rfl
theorem oc28 : oneCellTy Tryz.prog 28 = true := by kernel_rfl
theorem sl58 : SliceTy Tryz.prog 58 28 1 8 (.pointer none) := sliceTy_mk Tryz.underlying58 (by kernel_rfl) rfl (by decide)
def vlens (xs : List Itm) : Nat := (xs.map fun x => x.value.length).sum
/-- Whether a response is heavy. -/
def heavyR (r : Rsp) : Bool := decide (100 < r.items.length) || (decide (100 < r.nums.length) || decide (3000 < vlens (r.items.take 101)))
theorem vlens_succ {xs : List Itm} {k : Nat} {x : Itm} (h : xs[k]? = some x) : vlens (xs.take (k + 1)) = vlens (xs.take k) + x.value.length := by
 unfold vlens; rw [List.take_add_one, h, List.map_append, List.sum_append_nat]; simp
theorem vlens_le {xs : List Itm} {M : Nat} (h : ∀ x ∈ xs, x.value.length ≤ M) : ∀ k, vlens (xs.take k) ≤ k * M
 | 0 => by simp [vlens]
 | k + 1 => by
  have ih := vlens_le h k
  cases hk : xs[k]? with
  | none =>
   have h1 := List.getElem?_eq_none_iff.1 hk
   rw [List.take_of_length_le (by omega)]
   rw [List.take_of_length_le h1] at ih
   rw [Nat.succ_mul]; omega
  | some x => rw [vlens_succ hk, Nat.succ_mul]; have := h x (List.mem_of_getElem? hk); omega
theorem heavy28_any (w : World) (r : Rsp) (xs : List IT) (hv : vals xs = r.items) (lo hi : Nat) (X : Option Addr) (cx : Nat) (N : Option Addr) (cn : Nat) (hx : RdI w lo hi X cx xs) (hn : RdN w lo hi N cn r.nums) (hlen : ∀ x ∈ r.items, x.value.length ≤ 140737488355328) :
  Fn Tryz.prog 15 #[(.agg #[(.int .i64 r.op), (.int .i64 r.err), (.slice X r.items.length cx), (.int .u64 (↑r.ver : Int)), (.int .i64 r.count), (.slice N r.nums.length cn)])] w (fun v w' => v = .bool (heavyR r) ∧ Ext w w')  := by
 replace hx := hx.top
 have hE := ext_refl w
 have hvl := vals_len xs
 rw [hv] at hvl
 have hxb := hx.1.1
 have hxc := hx.1.2.1
 simp only [maxLen] at hxc
 refine fn_enter (args := [(.agg #[(.int .i64 r.op), (.int .i64 r.err), (.slice X r.items.length cx), (.int .u64 (↑r.ver : Int)), (.int .i64 r.count), (.slice N r.nums.length cn)])]) Tryz.func15 rfl rfl rfl ?_
 show WC _ _ _ _ [(0, (.agg #[(.int .i64 r.op), (.int .i64 r.err), (.slice X r.items.length cx), (.int .u64 (↑r.ver : Int)), (.int .i64 r.count), (.slice N r.nums.length cn)]))] _
 refine wc_seq (wc_regionL ?_)
 refine wl_step (or_box (cs := [(.int .i64 r.op), (.int .i64 r.err), (.slice X r.items.length cx), (.int .u64 (↑r.ver : Int)), (.int .i64 r.count), (.slice N r.nums.length cn)]) rfl rfl) rfl rfl rfl ?_
 rintro v w1 ⟨g1, rfl, hb_g1, he1, hl1, hu1⟩
 replace hx := RdI.ext hx he1
 replace hE := hE.tr he1
 have hz_he1 := he1.size
 refine va rfl rfl ?_
 refine q_nil (k_then (wc_seq (wc_regionL ?_)))
 refine va rfl rfl ?_
 refine q_nil (k_then (wc_seq (wc_seq (wc_regionL ?_))))
 refine va rfl rfl ?_
 refine q_nil (k_then (wc_block ?_))
 refine wc_loop (σ := Nat) (fun i => r.items.length - i) (fun i => [(1, .pointer (some ⟨g1, 0, none⟩)), (3, .int .i64 (vlens (r.items.take i) : Int)), (4, .int .i64 (i : Int))]) (fun i w' => i ≤ r.items.length ∧ i ≤ 101 ∧ Blk w' g1 43 (rspc r X cx N cn) ∧ RdI w' lo w.heap.size X cx xs ∧ Ext w w') (0) (⟨Nat.zero_le _, Nat.zero_le _, hb_g1, hx, hE⟩) (⟨rfl, rfl, rfl, trivial⟩) ?_
 rintro i wq ⟨hi0, hi1, hb_g1, hx, hE⟩
 show WC _ _ _ _ [(1, (.pointer (some ⟨g1, 0, none⟩))), (3, (.int .i64 (↑(vlens (r.items.take i)) : Int))), (4, (.int .i64 (↑i : Int)))] _
 have hz_E := hE.size
 have hvs := vlens_le hlen i
 have hi3 : i * 140737488355328 ≤ 101 * 140737488355328 := Nat.mul_le_mul_right _ hi1
 refine wc_seq (wc_seq (wc_regionL ?_))
 refine vm rfl rfl ?_
 refine wl_val (ov_field0 (off := 2) fo43_2 rfl) rfl rfl rfl ?_
 refine wl_val (ov_loadAt oc40 rfl hb_g1 rfl) rfl rfl rfl ?_
 refine wl_val (ov_len Tryz.underlying40 rfl) rfl rfl rfl ?_
 refine wl_val (ov_lss rfl rfl) rfl rfl rfl ?_
 refine wl_case_d (d := 9) rfl (fun h9 => ?_) (fun h9 => ?_)
 ·refine vm rfl rfl ?_
  refine wl_gval (ov_move rfl) rfl rfl rfl rfl rfl ?_
  refine wl_gval (ov_lss rfl rfl) rfl rfl rfl rfl rfl ?_
  refine wl_val (ov_pick_t rfl rfl) rfl rfl rfl ?_
  refine q_nil (k_then ?_)
  refine wc_cond_d rfl (fun hc1 => ?_) (fun hc1 => ?_)
  ·obtain ⟨x, hk⟩ : ∃ s, xs[i]? = some s := ⟨_, List.getElem?_eq_getElem (by omega)⟩
   have hki := vals_at hv hk
   have hvq := vlens_succ hki
   have hvs2 := vlens_le hlen (i + 1)
   have hi4 : (i + 1) * 140737488355328 ≤ 101 * 140737488355328 := Nat.mul_le_mul_right _ (by omega)
   refine q_skip (k_then (wc_seq (wc_block (wc_regionL ?_))))
   refine vm rfl rfl ?_
   refine wl_val (ov_field0 (off := 2) fo43_2 rfl) rfl rfl rfl ?_
   refine wl_val (ov_loadAt oc40 rfl hb_g1 rfl) rfl rfl rfl ?_
   refine wl_spell (d := 18) rfl (v' := (.slice X xs.length cx)) (by rw [← hv, vals_len]) ?_
   refine vm rfl rfl ?_
   refine wl_step (or_rindex (m := (i)) sl40 rfl rfl hx.1 (fun _ _ => rfl) hk) rfl rfl rfl ?_
   rintro v _ ⟨rfl, p20, rfl, hp20, hpl20, hph20⟩
   refine wl_step (or_fieldAt fo80_1 rfl hp20) rfl rfl rfl ?_
   rintro v _ ⟨rfl, p21, rfl, hp21, hpb21⟩
   refine wl_val (ov_load oc32 rfl (cell_zero hp21 rfl)) rfl rfl rfl ?_
   refine wl_val (ov_len Tryz.underlying32 rfl) rfl rfl rfl ?_
   refine wl_val (ov_add rfl rfl (wi64 (by omega) (by omega))) rfl rfl rfl ?_
   refine va rfl rfl ?_
   refine q_nil (k_block (k_then (wc_regionL ?_)))
   refine vm rfl rfl ?_
   refine wl_val (ov_add rfl rfl (wi64 (by omega) (by omega))) rfl rfl rfl ?_
   refine va rfl rfl ?_
   refine q_nil ?_
   refine k_loop (i + 1) (by show r.items.length - (i + 1) < r.items.length - i; omega) (⟨rfl, by rw [vlens_succ hki]; rfl, rfl, trivial⟩) (⟨by omega, by omega, hb_g1, hx, hE⟩)
  ·refine q_exit (k_thenX (k_thenX (k_blockE (k_then (wc_seq (wc_regionL ?_))))))
   refine wl_val (ov_field0 (off := 2) fo43_2 rfl) rfl rfl rfl ?_
   refine wl_val (ov_loadAt oc40 rfl hb_g1 rfl) rfl rfl rfl ?_
   refine wl_val (ov_len Tryz.underlying40 rfl) rfl rfl rfl ?_
   refine wl_val (ov_gtr rfl rfl) rfl rfl rfl ?_
   refine wl_case_d (d := 28) rfl (fun h28 => ?_) (fun h28 => ?_)
   ·refine vm rfl rfl ?_
    iterate 4 refine wl_gskip rfl rfl rfl rfl rfl rfl ?_
    refine wl_val (ov_pick_t rfl rfl) rfl rfl rfl ?_
    refine vm rfl rfl ?_
    iterate 2 refine wl_gskip rfl rfl rfl rfl rfl rfl ?_
    refine wl_val (ov_pick_t rfl rfl) rfl rfl rfl ?_
    refine va rfl rfl ?_
    refine q_nil (k_then (q_ret ?_))
    refine e_ret rfl rfl ?_
    have hn3 : vlens (r.items.take i) = vlens (r.items.take 101) := by
     by_cases q : i = 101
     ·rw [q]
     ·rw [show r.items.take i = r.items from List.take_of_length_le (by omega), show r.items.take 101 = r.items from List.take_of_length_le (by omega)]
    refine ⟨congrArg Value.bool (Bool.eq_iff_iff.2 ?_), hE⟩
    unfold heavyR
    rw [← hn3]
    simp only [Bool.or_eq_true, decide_eq_true_eq, Bool.false_eq_true, eq_self_iff_true, true_iff, false_iff]
    omega
   ·refine vm rfl rfl ?_
    refine wl_gval (ov_field0 (off := 5) fo43_5 rfl) rfl rfl rfl rfl rfl ?_
    refine wl_gval (ov_loadAt oc41 rfl hb_g1 rfl) rfl rfl rfl rfl rfl ?_
    refine wl_gval (ov_len Tryz.underlying41 rfl) rfl rfl rfl rfl rfl ?_
    refine wl_gval (ov_gtr rfl rfl) rfl rfl rfl rfl rfl ?_
    refine wl_case_d (d := 33) rfl (fun h33 => ?_) (fun h33 => ?_)
    ·refine wl_val (ov_pick_f rfl rfl) rfl rfl rfl ?_
     refine vm rfl rfl ?_
     iterate 2 refine wl_gskip rfl rfl rfl rfl rfl rfl ?_
     refine wl_val (ov_pick_t rfl rfl) rfl rfl rfl ?_
     refine va rfl rfl ?_
     refine q_nil (k_then (q_ret ?_))
     refine e_ret rfl rfl ?_
     have hn3 : vlens (r.items.take i) = vlens (r.items.take 101) := by
      by_cases q : i = 101
      ·rw [q]
      ·rw [show r.items.take i = r.items from List.take_of_length_le (by omega), show r.items.take 101 = r.items from List.take_of_length_le (by omega)]
     refine ⟨congrArg Value.bool (Bool.eq_iff_iff.2 ?_), hE⟩
     unfold heavyR
     rw [← hn3]
     simp only [Bool.or_eq_true, decide_eq_true_eq, Bool.false_eq_true, eq_self_iff_true, true_iff, false_iff]
     omega
    ·refine wl_val (ov_pick_f rfl rfl) rfl rfl rfl ?_
     refine vm rfl rfl ?_
     refine wl_gval (ov_move rfl) rfl rfl rfl rfl rfl ?_
     refine wl_gval (ov_gtr rfl rfl) rfl rfl rfl rfl rfl ?_
     refine wl_val (ov_pick_f rfl rfl) rfl rfl rfl ?_
     refine va rfl rfl ?_
     refine q_nil (k_then (q_ret ?_))
     refine e_ret rfl rfl ?_
     have hn3 : vlens (r.items.take i) = vlens (r.items.take 101) := by
      by_cases q : i = 101
      ·rw [q]
      ·rw [show r.items.take i = r.items from List.take_of_length_le (by omega), show r.items.take 101 = r.items from List.take_of_length_le (by omega)]
     refine ⟨congrArg Value.bool (Bool.eq_iff_iff.2 ?_), hE⟩
     unfold heavyR
     rw [← hn3]
     simp only [Bool.or_eq_true, decide_eq_true_eq, Bool.false_eq_true, eq_self_iff_true, true_iff, false_iff]
     omega
 ·refine vm rfl rfl ?_
  iterate 2 refine wl_gskip rfl rfl rfl rfl rfl rfl ?_
  refine wl_val (ov_pick_f rfl rfl) rfl rfl rfl ?_
  refine q_nil (k_then ?_)
  refine wc_cond_f rfl ?_
  refine q_exit (k_thenX (k_thenX (k_blockE (k_then (wc_seq (wc_regionL ?_))))))
  refine wl_val (ov_field0 (off := 2) fo43_2 rfl) rfl rfl rfl ?_
  refine wl_val (ov_loadAt oc40 rfl hb_g1 rfl) rfl rfl rfl ?_
  refine wl_val (ov_len Tryz.underlying40 rfl) rfl rfl rfl ?_
  refine wl_val (ov_gtr rfl rfl) rfl rfl rfl ?_
  refine wl_case_d (d := 28) rfl (fun h28 => ?_) (fun h28 => ?_)
  ·refine vm rfl rfl ?_
   iterate 4 refine wl_gskip rfl rfl rfl rfl rfl rfl ?_
   refine wl_val (ov_pick_t rfl rfl) rfl rfl rfl ?_
   refine vm rfl rfl ?_
   iterate 2 refine wl_gskip rfl rfl rfl rfl rfl rfl ?_
   refine wl_val (ov_pick_t rfl rfl) rfl rfl rfl ?_
   refine va rfl rfl ?_
   refine q_nil (k_then (q_ret ?_))
   refine e_ret rfl rfl ?_
   have hn3 : vlens (r.items.take i) = vlens (r.items.take 101) := by
    by_cases q : i = 101
    ·rw [q]
    ·rw [show r.items.take i = r.items from List.take_of_length_le (by omega), show r.items.take 101 = r.items from List.take_of_length_le (by omega)]
   refine ⟨congrArg Value.bool (Bool.eq_iff_iff.2 ?_), hE⟩
   unfold heavyR
   rw [← hn3]
   simp only [Bool.or_eq_true, decide_eq_true_eq, Bool.false_eq_true, eq_self_iff_true, true_iff, false_iff]
   omega
  ·refine vm rfl rfl ?_
   refine wl_gval (ov_field0 (off := 5) fo43_5 rfl) rfl rfl rfl rfl rfl ?_
   refine wl_gval (ov_loadAt oc41 rfl hb_g1 rfl) rfl rfl rfl rfl rfl ?_
   refine wl_gval (ov_len Tryz.underlying41 rfl) rfl rfl rfl rfl rfl ?_
   refine wl_gval (ov_gtr rfl rfl) rfl rfl rfl rfl rfl ?_
   refine wl_case_d (d := 33) rfl (fun h33 => ?_) (fun h33 => ?_)
   ·refine wl_val (ov_pick_f rfl rfl) rfl rfl rfl ?_
    refine vm rfl rfl ?_
    iterate 2 refine wl_gskip rfl rfl rfl rfl rfl rfl ?_
    refine wl_val (ov_pick_t rfl rfl) rfl rfl rfl ?_
    refine va rfl rfl ?_
    refine q_nil (k_then (q_ret ?_))
    refine e_ret rfl rfl ?_
    have hn3 : vlens (r.items.take i) = vlens (r.items.take 101) := by
     by_cases q : i = 101
     ·rw [q]
     ·rw [show r.items.take i = r.items from List.take_of_length_le (by omega), show r.items.take 101 = r.items from List.take_of_length_le (by omega)]
    refine ⟨congrArg Value.bool (Bool.eq_iff_iff.2 ?_), hE⟩
    unfold heavyR
    rw [← hn3]
    simp only [Bool.or_eq_true, decide_eq_true_eq, Bool.false_eq_true, eq_self_iff_true, true_iff, false_iff]
    omega
   ·refine wl_val (ov_pick_f rfl rfl) rfl rfl rfl ?_
    refine vm rfl rfl ?_
    refine wl_gval (ov_move rfl) rfl rfl rfl rfl rfl ?_
    refine wl_gval (ov_gtr rfl rfl) rfl rfl rfl rfl rfl ?_
    refine wl_val (ov_pick_f rfl rfl) rfl rfl rfl ?_
    refine va rfl rfl ?_
    refine q_nil (k_then (q_ret ?_))
    refine e_ret rfl rfl ?_
    have hn3 : vlens (r.items.take i) = vlens (r.items.take 101) := by
     by_cases q : i = 101
     ·rw [q]
     ·rw [show r.items.take i = r.items from List.take_of_length_le (by omega), show r.items.take 101 = r.items from List.take_of_length_le (by omega)]
    refine ⟨congrArg Value.bool (Bool.eq_iff_iff.2 ?_), hE⟩
    unfold heavyR
    rw [← hn3]
    simp only [Bool.or_eq_true, decide_eq_true_eq, Bool.false_eq_true, eq_self_iff_true, true_iff, false_iff]
    omega
theorem connNone_a (w : World) (lo2 hi2 : Nat) (B : Option Addr) (c2 : Nat) (q : List UInt8) (hr2 : RdB w lo2 hi2 B c2 q) (r : Rsp) (xs9 : List IT) (hv9 : vals xs9 = r.items) (lo9 hi9 : Nat) (X9 : Option Addr) (cx9 : Nat) (N9 : Option Addr) (cn9 : Nat) (hx9 : RdI w lo9 hi9 X9 cx9 xs9) (hn9 : RdN w lo9 hi9 N9 cn9 r.nums) (n : Int) (hlen : ∀ x ∈ r.items, x.value.length ≤ 140737488355328) (h : 100 < q.length) :
  Fn Tryz.prog 4 #[(.slice B q.length c2), (.agg #[(.int .i64 r.op), (.int .i64 r.err), (.slice X9 r.items.length cx9), (.int .u64 (↑r.ver : Int)), (.int .i64 r.count), (.slice N9 r.nums.length cn9)]), (.int .i64 n)] w (fun v w' => v = .bool true ∧ Ext w w')  := by
 have hE := ext_refl w
 refine fn_enter (args := [(.slice B q.length c2), (.agg #[(.int .i64 r.op), (.int .i64 r.err), (.slice X9 r.items.length cx9), (.int .u64 (↑r.ver : Int)), (.int .i64 r.count), (.slice N9 r.nums.length cn9)]), (.int .i64 n)]) Tryz.func4 rfl rfl rfl ?_
 show WC _ _ _ _ [(0, (.slice B q.length c2)), (1, (.agg #[(.int .i64 r.op), (.int .i64 r.err), (.slice X9 r.items.length cx9), (.int .u64 (↑r.ver : Int)), (.int .i64 r.count), (.slice N9 r.nums.length cn9)])), (2, (.int .i64 n))] _
 refine wc_seq (wc_regionL ?_)
 refine wl_step (or_box (cs := [(.int .i64 r.op), (.int .i64 r.err), (.slice X9 r.items.length cx9), (.int .u64 (↑r.ver : Int)), (.int .i64 r.count), (.slice N9 r.nums.length cn9)]) rfl rfl) rfl rfl rfl ?_
 rintro v w1 ⟨g4, rfl, hb_g4, he4, hl4, hu4⟩
 replace hE := hE.tr he4
 have hz_he4 := he4.size
 refine va rfl rfl ?_
 refine q_nil (k_then (wc_seq (wc_seq (wc_regionL ?_))))
 refine vm rfl rfl ?_
 refine wl_val (ov_len Tryz.underlying32 rfl) rfl rfl rfl ?_
 refine wl_val (ov_gtr rfl rfl) rfl rfl rfl ?_
 refine wl_spell (d := 24) rfl (bt (by omega)) ?_
 refine vm rfl rfl ?_
 iterate 2 refine wl_gskip rfl rfl rfl rfl rfl rfl ?_
 refine wl_val (ov_pick_t rfl rfl) rfl rfl rfl ?_
 refine q_nil (k_then ?_)
 refine wc_cond_t rfl ?_
 refine wc_seq (wc_regionL ?_)
 refine wl_step (or_call0 cl10 rfl rfl (known28_any _)) rfl rfl rfl ?_
 rintro v w2 ⟨rfl, he29⟩
 replace hE := hE.tr he29
 have hz_he29 := he29.size
 refine va rfl rfl ?_
 refine q_nil (k_then (q_ret (k_thenR ?_)))
 refine e_ret rfl rfl ?_
 exact ⟨rfl, hE⟩
theorem connNone_b (w : World) (lo2 hi2 : Nat) (B : Option Addr) (c2 : Nat) (q : List UInt8) (hr2 : RdB w lo2 hi2 B c2 q) (r : Rsp) (xs9 : List IT) (hv9 : vals xs9 = r.items) (lo9 hi9 : Nat) (X9 : Option Addr) (cx9 : Nat) (N9 : Option Addr) (cn9 : Nat) (hx9 : RdI w lo9 hi9 X9 cx9 xs9) (hn9 : RdN w lo9 hi9 N9 cn9 r.nums) (n : Int) (hlen : ∀ x ∈ r.items, x.value.length ≤ 140737488355328) (h : ¬ 100 < q.length) (hh : heavyR r = true) :
  Fn Tryz.prog 4 #[(.slice B q.length c2), (.agg #[(.int .i64 r.op), (.int .i64 r.err), (.slice X9 r.items.length cx9), (.int .u64 (↑r.ver : Int)), (.int .i64 r.count), (.slice N9 r.nums.length cn9)]), (.int .i64 n)] w (fun v w' => v = .bool true ∧ Ext w w')  := by
 replace hx9 := hx9.top
 replace hn9 := Rd.top hn9
 have hE := ext_refl w
 refine fn_enter (args := [(.slice B q.length c2), (.agg #[(.int .i64 r.op), (.int .i64 r.err), (.slice X9 r.items.length cx9), (.int .u64 (↑r.ver : Int)), (.int .i64 r.count), (.slice N9 r.nums.length cn9)]), (.int .i64 n)]) Tryz.func4 rfl rfl rfl ?_
 show WC _ _ _ _ [(0, (.slice B q.length c2)), (1, (.agg #[(.int .i64 r.op), (.int .i64 r.err), (.slice X9 r.items.length cx9), (.int .u64 (↑r.ver : Int)), (.int .i64 r.count), (.slice N9 r.nums.length cn9)])), (2, (.int .i64 n))] _
 refine wc_seq (wc_regionL ?_)
 refine wl_step (or_box (cs := [(.int .i64 r.op), (.int .i64 r.err), (.slice X9 r.items.length cx9), (.int .u64 (↑r.ver : Int)), (.int .i64 r.count), (.slice N9 r.nums.length cn9)]) rfl rfl) rfl rfl rfl ?_
 rintro v w1 ⟨g4, rfl, hb_g4, he4, hl4, hu4⟩
 replace hx9 := RdI.ext hx9 he4
 replace hn9 := hn9.ext he4
 replace hE := hE.tr he4
 have hz_he4 := he4.size
 refine va rfl rfl ?_
 refine q_nil (k_then (wc_seq (wc_seq (wc_regionL ?_))))
 refine vm rfl rfl ?_
 refine wl_val (ov_len Tryz.underlying32 rfl) rfl rfl rfl ?_
 refine wl_val (ov_gtr rfl rfl) rfl rfl rfl ?_
 refine wl_spell (d := 24) rfl (bf (by omega)) ?_
 refine vm rfl rfl ?_
 refine wl_gval (ov_loadBlk (cs := [(.int .i64 r.op), (.int .i64 r.err), (.slice X9 r.items.length cx9), (.int .u64 (↑r.ver : Int)), (.int .i64 r.count), (.slice N9 r.nums.length cn9)]) ag43_6 rfl hb_g4) rfl rfl rfl rfl rfl ?_
 refine wl_gstep (or_call0 cl15 rfl rfl (heavy28_any _ r xs9 hv9 _ _ X9 cx9 N9 cn9 hx9 hn9 hlen)) rfl rfl rfl rfl rfl ?_
 rintro v w2 ⟨rfl, he27⟩
 replace hE := hE.tr he27
 have hz_he27 := he27.size
 refine wl_spell (d := 27) rfl (v' := (.bool true)) (by rw [hh]) ?_
 refine wl_val (ov_pick_f rfl rfl) rfl rfl rfl ?_
 refine q_nil (k_then ?_)
 refine wc_cond_t rfl ?_
 refine wc_seq (wc_regionL ?_)
 refine wl_step (or_call0 cl10 rfl rfl (known28_any _)) rfl rfl rfl ?_
 rintro v w3 ⟨rfl, he29⟩
 replace hE := hE.tr he29
 have hz_he29 := he29.size
 refine va rfl rfl ?_
 refine q_nil (k_then (q_ret (k_thenR ?_)))
 refine e_ret rfl rfl ?_
 exact ⟨rfl, hE⟩
set_option maxHeartbeats 2000000 in
theorem connNone_c (w : World) (lo2 hi2 : Nat) (B : Option Addr) (c2 : Nat) (q : List UInt8) (hr2 : RdB w lo2 hi2 B c2 q) (r : Rsp) (xs9 : List IT) (hv9 : vals xs9 = r.items) (lo9 hi9 : Nat) (X9 : Option Addr) (cx9 : Nat) (N9 : Option Addr) (cn9 : Nat) (hx9 : RdI w lo9 hi9 X9 cx9 xs9) (hn9 : RdN w lo9 hi9 N9 cn9 r.nums) (n : Int) (hlen : ∀ x ∈ r.items, x.value.length ≤ 140737488355328) (h : ¬ 100 < q.length) (hh : heavyR r = false) :
  Fn Tryz.prog 4 #[(.slice B q.length c2), (.agg #[(.int .i64 r.op), (.int .i64 r.err), (.slice X9 r.items.length cx9), (.int .u64 (↑r.ver : Int)), (.int .i64 r.count), (.slice N9 r.nums.length cn9)]), (.int .i64 n)] w (fun v w' => v = .bool true ∧ Ext w w')  := by
 replace hr2 := hr2.top
 replace hx9 := hx9.top
 replace hn9 := Rd.top hn9
 have hE := ext_refl w
 refine fn_enter (args := [(.slice B q.length c2), (.agg #[(.int .i64 r.op), (.int .i64 r.err), (.slice X9 r.items.length cx9), (.int .u64 (↑r.ver : Int)), (.int .i64 r.count), (.slice N9 r.nums.length cn9)]), (.int .i64 n)]) Tryz.func4 rfl rfl rfl ?_
 show WC _ _ _ _ [(0, (.slice B q.length c2)), (1, (.agg #[(.int .i64 r.op), (.int .i64 r.err), (.slice X9 r.items.length cx9), (.int .u64 (↑r.ver : Int)), (.int .i64 r.count), (.slice N9 r.nums.length cn9)])), (2, (.int .i64 n))] _
 refine wc_seq (wc_regionL ?_)
 refine wl_step (or_box (cs := [(.int .i64 r.op), (.int .i64 r.err), (.slice X9 r.items.length cx9), (.int .u64 (↑r.ver : Int)), (.int .i64 r.count), (.slice N9 r.nums.length cn9)]) rfl rfl) rfl rfl rfl ?_
 rintro v w1 ⟨g4, rfl, hb_g4, he4, hl4, hu4⟩
 replace hr2 := hr2.ext he4
 replace hx9 := RdI.ext hx9 he4
 replace hn9 := hn9.ext he4
 replace hE := hE.tr he4
 have hz_he4 := he4.size
 refine va rfl rfl ?_
 refine q_nil (k_then (wc_seq (wc_seq (wc_regionL ?_))))
 refine vm rfl rfl ?_
 refine wl_val (ov_len Tryz.underlying32 rfl) rfl rfl rfl ?_
 refine wl_val (ov_gtr rfl rfl) rfl rfl rfl ?_
 refine wl_spell (d := 24) rfl (bf (by omega)) ?_
 refine vm rfl rfl ?_
 refine wl_gval (ov_loadBlk (cs := [(.int .i64 r.op), (.int .i64 r.err), (.slice X9 r.items.length cx9), (.int .u64 (↑r.ver : Int)), (.int .i64 r.count), (.slice N9 r.nums.length cn9)]) ag43_6 rfl hb_g4) rfl rfl rfl rfl rfl ?_
 refine wl_gstep (or_call0 cl15 rfl rfl (heavy28_any _ r xs9 hv9 _ _ X9 cx9 N9 cn9 hx9 hn9 hlen)) rfl rfl rfl rfl rfl ?_
 rintro v w2 ⟨rfl, he27⟩
 replace hr2 := hr2.ext he27
 replace hx9 := RdI.ext hx9 he27
 replace hn9 := hn9.ext he27
 replace hE := hE.tr he27
 replace hb_g4 := hb_g4.ext he27
 have hz_he27 := he27.size
 refine wl_spell (d := 27) rfl (v' := (.bool false)) (by rw [hh]) ?_
 refine wl_val (ov_pick_f rfl rfl) rfl rfl rfl ?_
 refine q_nil (k_then ?_)
 refine wc_cond_f rfl ?_
 refine q_skip (k_then (wc_seq (wc_regionL ?_)))
 refine va rfl rfl ?_
 refine q_nil (k_then (wc_seq (wc_seq (wc_regionL ?_))))
 refine vm rfl rfl ?_
 refine wl_val (ov_build (cs := [(.pointer none), (.int .i64 0), (.int .i64 0), (.int .i64 0), (.pointer none), (.int .i64 0), (.int .i64 0), (.string (strB [])), (.slice none 0 0), (.slice none 0 0), (.slice none 0 0), (.int .u64 0), (.int .u64 0), (.string (strB [])), (.string (strB [])), (.string (strB [])), (.int .i64 0), (.int .i64 0), (.slice none 0 0), (.int .u64 0), (.int .i64 0), (.slice none 0 0), (.slice none 0 0)]) ze57 pl57 rfl (by kernel_rfl)) rfl rfl rfl ?_
 refine wl_step (or_box (cs := [(.pointer none), (.int .i64 0), (.int .i64 0), (.int .i64 0), (.pointer none), (.int .i64 0), (.int .i64 0), (.string (strB [])), (.slice none 0 0), (.slice none 0 0), (.slice none 0 0), (.int .u64 0), (.int .u64 0), (.string (strB [])), (.string (strB [])), (.string (strB [])), (.int .i64 0), (.int .i64 0), (.slice none 0 0), (.int .u64 0), (.int .i64 0), (.slice none 0 0), (.slice none 0 0)]) rfl rfl) rfl rfl rfl ?_
 rintro v w3 ⟨g32, rfl, hb_g32, he32, hl32, hu32⟩
 replace hr2 := hr2.ext he32
 replace hx9 := RdI.ext hx9 he32
 replace hn9 := hn9.ext he32
 replace hE := hE.tr he32
 replace hb_g4 := hb_g4.ext he32
 have hz_he32 := he32.size
 refine wl_step (or_buildSlice1 (os := [.tmp 30, .tmp 32]) sl58 rfl rfl rfl (by simp [Value.oneCell']) (by decide)) rfl rfl rfl ?_
 rintro v w4 ⟨g33, rfl, hb_g33, he33, hl33, hu33, _⟩
 replace hr2 := hr2.ext he33
 replace hx9 := RdI.ext hx9 he33
 replace hn9 := hn9.ext he33
 replace hE := hE.tr he33
 replace hb_g4 := hb_g4.ext he33
 replace hb_g32 := hb_g32.ext he33
 have hz_he33 := he33.size
 refine wl_val (ov_len Tryz.underlying58 rfl) rfl rfl rfl ?_
 refine vm rfl rfl ?_
 refine q_nil (k_then (wc_block ?_))
 have hz33 := hb_g33.lt
 have hz32 := hb_g32.lt
 have hz4 := hb_g4.lt
 have hzz : w.heap.size ≤ g33 ∧ w.heap.size ≤ g32 ∧ w.heap.size ≤ g4 ∧ g33 ≠ g32 ∧ g33 ≠ g4 ∧ g32 ≠ g4 := by omega
 obtain ⟨hy1, hy2, hy3, hy4, hy5, hy6⟩ := hzz
 refine wc_loop (σ := Nat) (fun k => 2 - k) (fun k => [(0, .slice B q.length c2), (2, .int .i64 n), (4, .pointer (some ⟨g4, 0, none⟩)), (33, .slice (some ⟨g33, 0, none⟩) 2 2), (34, .int .i64 2), (35, .int .i64 (k : Int))]) (fun k w' => k ≤ 2 ∧ Blk w' g33 28 [.pointer none, .pointer (some ⟨g32, 0, none⟩)] ∧ Blk w' g32 57 [(.pointer none), (.int .i64 0), (.int .i64 0), (.int .i64 0), (.pointer none), (.int .i64 0), (.int .i64 0), (.string (strB ([] : List UInt8))), (.slice none 0 0), (.slice none 0 0), (.slice none 0 0), (.int .u64 0), (.int .u64 0), (.string (strB ([] : List UInt8))), (.string (strB ([] : List UInt8))), (.string (strB ([] : List UInt8))), (.int .i64 0), (.int .i64 0), (.slice none 0 0), (.int .u64 0), (.int .i64 0), (.slice none 0 0), (.slice none 0 0)] ∧ Blk w' g4 43 (rspc r X9 cx9 N9 cn9) ∧ RdB w' lo2 w.heap.size B c2 q ∧ RdI w' lo9 w.heap.size X9 cx9 xs9 ∧ RdN w' lo9 w.heap.size N9 cn9 r.nums ∧ Ext w w') (0) (⟨Nat.zero_le _, hb_g33, hb_g32, hb_g4, hr2, hx9, hn9, hE⟩) (⟨rfl, rfl, rfl, rfl, rfl, rfl, trivial⟩) ?_
 rintro k wq ⟨hk0, hb_g33, hb_g32, hb_g4, hr2, hx9, hn9, hE⟩
 show WC _ _ _ _ [(0, (.slice B q.length c2)), (2, (.int .i64 n)), (4, (.pointer (some ⟨g4, 0, none⟩))), (33, (.slice (some ⟨g33, 0, none⟩) 2 2)), (34, (.int .i64 2)), (35, (.int .i64 (↑k : Int)))] _
 have hz_E := hE.size
 have hz33 := hb_g33.lt
 have hz32 := hb_g32.lt
 have hz4 := hb_g4.lt
 refine wc_seq (wc_regionL ?_)
 refine wl_val (ov_lss rfl rfl) rfl rfl rfl ?_
 refine q_nil (k_then (wc_seq ?_))
 refine wc_cond_d rfl (fun hc2 => ?_) (fun hc2 => ?_)
 ·rcases (show k = 0 ∨ k = 1 by omega) with hkk | hkk
  ·subst hkk
   refine q_skip (k_then (wc_seq (wc_block (wc_seq (wc_regionL ?_)))))
   refine wl_val (ov_aindex (m := 0) sl58 rfl rfl rfl (by decide)) rfl rfl rfl ?_
   refine wl_val (ov_loadAt oc28 rfl hb_g33 rfl) rfl rfl rfl ?_
   refine va rfl rfl ?_
   refine q_nil (k_then (wc_seq (wc_regionL ?_)))
   iterate 2 refine vm rfl rfl ?_
   refine wl_step (or_call0 cl16 rfl rfl (cdel_nil _ 0 0 B c2 q)) rfl rfl rfl ?_
   rintro v w5 ⟨rfl, he42⟩
   replace hb_g33 := hb_g33.ext he42
   replace hb_g32 := hb_g32.ext he42
   replace hb_g4 := hb_g4.ext he42
   replace hr2 := hr2.ext he42
   replace hx9 := RdI.ext hx9 he42
   replace hn9 := hn9.ext he42
   replace hE := hE.tr he42
   have hz_he42 := he42.size
   refine vm rfl rfl ?_
   iterate 2 refine vx rfl rfl rfl ?_
   iterate 2 refine va rfl rfl ?_
   refine q_nil (k_then (wc_seq (wc_regionL ?_)))
   refine vm rfl rfl ?_
   refine wl_step (or_call0 cl17 rfl rfl (cstep_nil _)) rfl rfl rfl ?_
   rintro v w6 ⟨rfl, he47⟩
   replace hb_g33 := hb_g33.ext he47
   replace hb_g32 := hb_g32.ext he47
   replace hb_g4 := hb_g4.ext he47
   replace hr2 := hr2.ext he47
   replace hx9 := RdI.ext hx9 he47
   replace hn9 := hn9.ext he47
   replace hE := hE.tr he47
   have hz_he47 := he47.size
   refine vm rfl rfl ?_
   iterate 2 refine vx rfl rfl rfl ?_
   iterate 2 refine va rfl rfl ?_
   refine q_nil (k_then (wc_seq (wc_regionL ?_)))
   refine vm rfl rfl ?_
   refine wl_step (or_call0 cl18 rfl rfl (ccmd_nil _)) rfl rfl rfl ?_
   rintro v w7 ⟨rfl, he52⟩
   replace hb_g33 := hb_g33.ext he52
   replace hb_g32 := hb_g32.ext he52
   replace hb_g4 := hb_g4.ext he52
   replace hr2 := hr2.ext he52
   replace hx9 := RdI.ext hx9 he52
   replace hn9 := hn9.ext he52
   replace hE := hE.tr he52
   have hz_he52 := he52.size
   refine vm rfl rfl ?_
   iterate 2 refine vx rfl rfl rfl ?_
   refine wl_step (or_alloc (cs := [(.int .i64 0), (.string (strB [])), (.slice none 0 0), (.slice none 0 0), (.slice none 0 0), (.int .u64 0), (.int .u64 0), (.string (strB [])), (.string (strB [])), (.string (strB []))]) ze39 rfl) rfl rfl rfl ?_
   rintro v w8 ⟨g14, rfl, hb_g14, he14, hl14, hu14⟩
   replace hb_g33 := hb_g33.ext he14
   replace hb_g32 := hb_g32.ext he14
   replace hb_g4 := hb_g4.ext he14
   replace hr2 := hr2.ext he14
   replace hx9 := RdI.ext hx9 he14
   replace hn9 := hn9.ext he14
   replace hE := hE.tr he14
   have hz_he14 := he14.size
   refine wl_step0 (or_storeBlk (vs := [(.int .i64 0), (.string (strB ([] : List UInt8))), (.slice none 0 0), (.slice none 0 0), (.slice none 0 0), (.int .u64 0), (.int .u64 0), (.string (strB ([] : List UInt8))), (.string (strB ([] : List UInt8))), (.string (strB ([] : List UInt8)))]) sz39 rfl rfl (by simp [Value.oneCell']) hb_g14 rfl) rfl rfl ?_
   rintro _ w9 ⟨hN9, hg9⟩
   have hz_hg9 := hg9.size
   replace hb_g33 := hb_g33.gr hg9 (by intro e; cases e; omega)
   replace hb_g32 := hb_g32.gr hg9 (by intro e; cases e; omega)
   replace hb_g4 := hb_g4.gr hg9 (by intro e; cases e; omega)
   replace hr2 := hr2.gr hg9 (fun _ e => by cases e; omega)
   replace hx9 := RdI.gr hx9 hg9 (fun _ e => by cases e; omega)
   replace hn9 := hn9.gr hg9 (fun _ e => by cases e; omega)
   replace hE := hE.gr hg9 (fun _ e => by cases e; omega)
   replace hb_g14 := hN9
   refine va rfl rfl ?_
   refine q_nil (k_then (wc_seq (wc_regionL ?_)))
   refine vm rfl rfl ?_
   refine wl_step (or_call0 cl19 rfl rfl (crsp_nil _)) rfl rfl rfl ?_
   rintro v w10 ⟨rfl, he57⟩
   replace hb_g33 := hb_g33.ext he57
   replace hb_g32 := hb_g32.ext he57
   replace hb_g4 := hb_g4.ext he57
   replace hr2 := hr2.ext he57
   replace hx9 := RdI.ext hx9 he57
   replace hn9 := hn9.ext he57
   replace hE := hE.tr he57
   replace hb_g14 := hb_g14.ext he57
   have hz_he57 := he57.size
   refine vm rfl rfl ?_
   iterate 2 refine vx rfl rfl rfl ?_
   refine wl_step (or_alloc (cs := [(.int .i64 0), (.int .i64 0), (.slice none 0 0), (.int .u64 0), (.int .i64 0), (.slice none 0 0)]) ze43 rfl) rfl rfl rfl ?_
   rintro v w11 ⟨g16, rfl, hb_g16, he16, hl16, hu16⟩
   replace hb_g33 := hb_g33.ext he16
   replace hb_g32 := hb_g32.ext he16
   replace hb_g4 := hb_g4.ext he16
   replace hr2 := hr2.ext he16
   replace hx9 := RdI.ext hx9 he16
   replace hn9 := hn9.ext he16
   replace hE := hE.tr he16
   replace hb_g14 := hb_g14.ext he16
   have hz_he16 := he16.size
   refine wl_step0 (or_storeBlk (vs := [(.int .i64 0), (.int .i64 0), (.slice none 0 0), (.int .u64 0), (.int .i64 0), (.slice none 0 0)]) sz43 rfl rfl (by simp [Value.oneCell']) hb_g16 rfl) rfl rfl ?_
   rintro _ w12 ⟨hN12, hg12⟩
   have hz_hg12 := hg12.size
   replace hb_g33 := hb_g33.gr hg12 (by intro e; cases e; omega)
   replace hb_g32 := hb_g32.gr hg12 (by intro e; cases e; omega)
   replace hb_g4 := hb_g4.gr hg12 (by intro e; cases e; omega)
   replace hr2 := hr2.gr hg12 (fun _ e => by cases e; omega)
   replace hx9 := RdI.gr hx9 hg12 (fun _ e => by cases e; omega)
   replace hn9 := hn9.gr hg12 (fun _ e => by cases e; omega)
   replace hE := hE.gr hg12 (fun _ e => by cases e; omega)
   replace hb_g14 := hb_g14.gr hg12 (by intro e; cases e; omega)
   replace hb_g16 := hN12
   refine va rfl rfl ?_
   refine q_nil (k_then (wc_seq (wc_regionL ?_)))
   iterate 2 refine vm rfl rfl ?_
   refine wl_step (or_call0 cl20 rfl rfl (cdrain_nil _ n)) rfl rfl rfl ?_
   rintro v w13 ⟨rfl, he63⟩
   replace hb_g33 := hb_g33.ext he63
   replace hb_g32 := hb_g32.ext he63
   replace hb_g4 := hb_g4.ext he63
   replace hr2 := hr2.ext he63
   replace hx9 := RdI.ext hx9 he63
   replace hn9 := hn9.ext he63
   replace hE := hE.tr he63
   replace hb_g14 := hb_g14.ext he63
   replace hb_g16 := hb_g16.ext he63
   have hz_he63 := he63.size
   refine vm rfl rfl ?_
   iterate 2 refine vx rfl rfl rfl ?_
   iterate 2 refine va rfl rfl ?_
   refine q_nil (k_then (wc_seq (wc_regionL ?_)))
   refine vm rfl rfl ?_
   refine wl_step (or_call0 cl21 rfl rfl (csizes_nil _)) rfl rfl rfl ?_
   rintro v w14 ⟨rfl, he68⟩
   replace hb_g33 := hb_g33.ext he68
   replace hb_g32 := hb_g32.ext he68
   replace hb_g4 := hb_g4.ext he68
   replace hr2 := hr2.ext he68
   replace hx9 := RdI.ext hx9 he68
   replace hn9 := hn9.ext he68
   replace hE := hE.tr he68
   replace hb_g14 := hb_g14.ext he68
   replace hb_g16 := hb_g16.ext he68
   have hz_he68 := he68.size
   refine vm rfl rfl ?_
   iterate 2 refine vx rfl rfl rfl ?_
   iterate 2 refine va rfl rfl ?_
   refine q_nil (k_then (wc_seq (wc_regionL ?_)))
   refine vm rfl rfl ?_
   refine wl_val (ov_neq rfl rfl) rfl rfl rfl ?_
   refine vm rfl rfl ?_
   refine wl_gval (ov_move rfl) rfl rfl rfl rfl rfl ?_
   refine wl_gval (ov_neq rfl rfl) rfl rfl rfl rfl rfl ?_
   refine wl_val (ov_pick_f rfl rfl) rfl rfl rfl ?_
   refine vm rfl rfl ?_
   refine wl_gval (ov_move rfl) rfl rfl rfl rfl rfl ?_
   refine wl_gval (ov_neq rfl rfl) rfl rfl rfl rfl rfl ?_
   refine wl_val (ov_pick_f rfl rfl) rfl rfl rfl ?_
   refine vm rfl rfl ?_
   refine wl_gval (ov_move rfl) rfl rfl rfl rfl rfl ?_
   refine wl_gval (ov_neq rfl rfl) rfl rfl rfl rfl rfl ?_
   refine wl_val (ov_pick_f rfl rfl) rfl rfl rfl ?_
   refine vm rfl rfl ?_
   refine wl_gval (ov_loadBlk (cs := [(.int .i64 0), (.string (strB ([] : List UInt8))), (.slice none 0 0), (.slice none 0 0), (.slice none 0 0), (.int .u64 0), (.int .u64 0), (.string (strB ([] : List UInt8))), (.string (strB ([] : List UInt8))), (.string (strB ([] : List UInt8)))]) ag39_10 rfl hb_g14) rfl rfl rfl rfl rfl ?_
   refine wl_gval (ov_build (cs := [(.int .i64 0), (.string (strB [])), (.slice none 0 0), (.slice none 0 0), (.slice none 0 0), (.int .u64 0), (.int .u64 0), (.string (strB [])), (.string (strB [])), (.string (strB []))]) ze39 pl39 rfl rfl) rfl rfl rfl rfl rfl ?_
   refine wl_gstep (or_call0 cl22 rfl rfl (requal_any _ (cmd0 0) 0 0 none 0 none 0 none 0 (Rd.nil _ _ _ _ _ _ (Nat.zero_le _)) (Rd.nil _ _ _ _ _ _ (Nat.zero_le _)) (Rd.nil _ _ _ _ _ _ (Nat.zero_le _)) (cmd0 0) 0 0 none 0 none 0 none 0 (Rd.nil _ _ _ _ _ _ (Nat.zero_le _)) (Rd.nil _ _ _ _ _ _ (Nat.zero_le _)) (Rd.nil _ _ _ _ _ _ (Nat.zero_le _)))) rfl rfl rfl rfl rfl ?_
   rintro v w15 ⟨rfl, he88⟩
   replace hb_g33 := hb_g33.ext he88
   replace hb_g32 := hb_g32.ext he88
   replace hb_g4 := hb_g4.ext he88
   replace hr2 := hr2.ext he88
   replace hx9 := RdI.ext hx9 he88
   replace hn9 := hn9.ext he88
   replace hE := hE.tr he88
   replace hb_g16 := hb_g16.ext he88
   have hz_he88 := he88.size
   refine wl_spell (d := 88) rfl (bt (rfl)) ?_
   refine wl_gval (ov_not (b := true) rfl) rfl rfl rfl rfl rfl ?_
   refine wl_val (ov_pick_f rfl rfl) rfl rfl rfl ?_
   refine vm rfl rfl ?_
   refine wl_gval (ov_move rfl) rfl rfl rfl rfl rfl ?_
   refine wl_gval (ov_neq rfl rfl) rfl rfl rfl rfl rfl ?_
   refine wl_val (ov_pick_f rfl rfl) rfl rfl rfl ?_
   refine vm rfl rfl ?_
   refine wl_gval (ov_loadBlk (cs := [(.int .i64 0), (.int .i64 0), (.slice none 0 0), (.int .u64 0), (.int .i64 0), (.slice none 0 0)]) ag43_6 rfl hb_g16) rfl rfl rfl rfl rfl ?_
   refine wl_gval (ov_build (cs := [(.int .i64 0), (.int .i64 0), (.slice none 0 0), (.int .u64 0), (.int .i64 0), (.slice none 0 0)]) ze43 pl43 rfl rfl) rfl rfl rfl rfl rfl ?_
   refine wl_gstep (or_call0 cl23 rfl rfl (req8_any _ (rspO 0 0) [] rfl 0 0 none 0 none 0 (RdI.nil _ 0 0) (Rd.nil _ _ _ _ _ _ (Nat.zero_le _)) (rspO 0 0) [] rfl 0 0 none 0 none 0 (RdI.nil _ 0 0) (Rd.nil _ _ _ _ _ _ (Nat.zero_le _)))) rfl rfl rfl rfl rfl ?_
   rintro v w16 ⟨rfl, he98⟩
   replace hb_g33 := hb_g33.ext he98
   replace hb_g32 := hb_g32.ext he98
   replace hb_g4 := hb_g4.ext he98
   replace hr2 := hr2.ext he98
   replace hx9 := RdI.ext hx9 he98
   replace hn9 := hn9.ext he98
   replace hE := hE.tr he98
   have hz_he98 := he98.size
   refine wl_spell (d := 98) rfl (bt (rfl)) ?_
   refine wl_gval (ov_not (b := true) rfl) rfl rfl rfl rfl rfl ?_
   refine wl_val (ov_pick_f rfl rfl) rfl rfl rfl ?_
   refine vm rfl rfl ?_
   refine wl_gval (ov_move rfl) rfl rfl rfl rfl rfl ?_
   refine wl_gval (ov_neq rfl rfl) rfl rfl rfl rfl rfl ?_
   refine wl_val (ov_pick_f rfl rfl) rfl rfl rfl ?_
   refine vm rfl rfl ?_
   refine wl_gval (ov_move rfl) rfl rfl rfl rfl rfl ?_
   refine wl_gval (ov_len Tryz.underlying32 rfl) rfl rfl rfl rfl rfl ?_
   refine wl_gval (ov_neq rfl rfl) rfl rfl rfl rfl rfl ?_
   refine wl_val (ov_pick_f rfl rfl) rfl rfl rfl ?_
   refine vm rfl rfl ?_
   refine wl_gval (ov_move rfl) rfl rfl rfl rfl rfl ?_
   refine wl_gval (ov_neq rfl rfl) rfl rfl rfl rfl rfl ?_
   refine wl_val (ov_pick_f rfl rfl) rfl rfl rfl ?_
   refine vm rfl rfl ?_
   refine wl_gval (ov_move rfl) rfl rfl rfl rfl rfl ?_
   refine wl_gval (ov_loadBlk (cs := [(.int .i64 r.op), (.int .i64 r.err), (.slice X9 r.items.length cx9), (.int .u64 (↑r.ver : Int)), (.int .i64 r.count), (.slice N9 r.nums.length cn9)]) ag43_6 rfl hb_g4) rfl rfl rfl rfl rfl ?_
   refine wl_gstep (or_call0 cl24 rfl rfl (cans_nil _ r xs9 hv9 _ _ X9 cx9 N9 cn9 hx9 hn9)) rfl rfl rfl rfl rfl ?_
   rintro v w17 ⟨rfl, he117⟩
   replace hb_g33 := hb_g33.ext he117
   replace hb_g32 := hb_g32.ext he117
   replace hb_g4 := hb_g4.ext he117
   replace hr2 := hr2.ext he117
   replace hx9 := RdI.ext hx9 he117
   replace hn9 := hn9.ext he117
   replace hE := hE.tr he117
   have hz_he117 := he117.size
   refine wl_gval (ov_neq rfl rfl) rfl rfl rfl rfl rfl ?_
   refine wl_val (ov_pick_f rfl rfl) rfl rfl rfl ?_
   refine vm rfl rfl ?_
   refine wl_gval (ov_move rfl) rfl rfl rfl rfl rfl ?_
   refine wl_gstep (or_call0 cl25 rfl rfl (cphase_nil _)) rfl rfl rfl rfl rfl ?_
   rintro v w18 ⟨rfl, he122⟩
   replace hb_g33 := hb_g33.ext he122
   replace hb_g32 := hb_g32.ext he122
   replace hb_g4 := hb_g4.ext he122
   replace hr2 := hr2.ext he122
   replace hx9 := RdI.ext hx9 he122
   replace hn9 := hn9.ext he122
   replace hE := hE.tr he122
   have hz_he122 := he122.size
   refine wl_gval (ov_neq rfl rfl) rfl rfl rfl rfl rfl ?_
   refine wl_val (ov_pick_f rfl rfl) rfl rfl rfl ?_
   refine vm rfl rfl ?_
   refine wl_gval (ov_move rfl) rfl rfl rfl rfl rfl ?_
   refine wl_gval (ov_neq rfl rfl) rfl rfl rfl rfl rfl ?_
   refine wl_val (ov_pick_f rfl rfl) rfl rfl rfl ?_
   refine vm rfl rfl ?_
   refine wl_gval (ov_move rfl) rfl rfl rfl rfl rfl ?_
   refine wl_gval (ov_neq rfl rfl) rfl rfl rfl rfl rfl ?_
   refine wl_val (ov_pick_f rfl rfl) rfl rfl rfl ?_
   refine vm rfl rfl ?_
   refine wl_gval (ov_move rfl) rfl rfl rfl rfl rfl ?_
   refine wl_gstep (or_call0 cl26 rfl rfl (ccopy_nil _)) rfl rfl rfl rfl rfl ?_
   rintro v w19 ⟨rfl, he135⟩
   replace hb_g33 := hb_g33.ext he135
   replace hb_g32 := hb_g32.ext he135
   replace hb_g4 := hb_g4.ext he135
   replace hr2 := hr2.ext he135
   replace hx9 := RdI.ext hx9 he135
   replace hn9 := hn9.ext he135
   replace hE := hE.tr he135
   have hz_he135 := he135.size
   refine wl_gval (ov_nnilptr Tryz.underlying28 rfl) rfl rfl rfl rfl rfl ?_
   refine wl_val (ov_pick_f rfl rfl) rfl rfl rfl ?_
   refine q_nil (k_then ?_)
   refine wc_cond_f rfl ?_
   refine q_skip (k_block (k_then (wc_regionL ?_)))
   refine wl_val (ov_add (m := 1) rfl rfl (by decide)) rfl rfl rfl ?_
   refine vm rfl rfl ?_
   refine q_nil ?_
   refine k_loop (1) (by decide) (⟨rfl, rfl, rfl, rfl, rfl, rfl, trivial⟩) (⟨by decide, hb_g33, hb_g32, hb_g4, hr2, hx9, hn9, hE⟩)
  ·subst hkk
   refine q_skip (k_then (wc_seq (wc_block (wc_seq (wc_regionL ?_)))))
   refine wl_val (ov_aindex (m := 1) sl58 rfl rfl rfl (by decide)) rfl rfl rfl ?_
   refine wl_val (ov_loadAt oc28 rfl hb_g33 rfl) rfl rfl rfl ?_
   refine va rfl rfl ?_
   refine q_nil (k_then (wc_seq (wc_regionL ?_)))
   iterate 2 refine vm rfl rfl ?_
   refine wl_step (or_call0 cl16 rfl rfl (cdel_zero _ _ hb_g32 0 0 B c2 q)) rfl rfl rfl ?_
   rintro v w205 ⟨rfl, he42⟩
   replace hb_g33 := hb_g33.ext he42
   replace hb_g32 := hb_g32.ext he42
   replace hb_g4 := hb_g4.ext he42
   replace hr2 := hr2.ext he42
   replace hx9 := RdI.ext hx9 he42
   replace hn9 := hn9.ext he42
   replace hE := hE.tr he42
   have hz_he42 := he42.size
   refine vm rfl rfl ?_
   iterate 2 refine vx rfl rfl rfl ?_
   iterate 2 refine va rfl rfl ?_
   refine q_nil (k_then (wc_seq (wc_regionL ?_)))
   refine vm rfl rfl ?_
   refine wl_step (or_call0 cl17 rfl rfl (cstep_zero _ _ hb_g32)) rfl rfl rfl ?_
   rintro v w206 ⟨rfl, he47⟩
   replace hb_g33 := hb_g33.ext he47
   replace hb_g32 := hb_g32.ext he47
   replace hb_g4 := hb_g4.ext he47
   replace hr2 := hr2.ext he47
   replace hx9 := RdI.ext hx9 he47
   replace hn9 := hn9.ext he47
   replace hE := hE.tr he47
   have hz_he47 := he47.size
   refine vm rfl rfl ?_
   iterate 2 refine vx rfl rfl rfl ?_
   iterate 2 refine va rfl rfl ?_
   refine q_nil (k_then (wc_seq (wc_regionL ?_)))
   refine vm rfl rfl ?_
   refine wl_step (or_call0 cl18 rfl rfl (ccmd_zero _ _ hb_g32)) rfl rfl rfl ?_
   rintro v w207 ⟨rfl, he52⟩
   replace hb_g33 := hb_g33.ext he52
   replace hb_g32 := hb_g32.ext he52
   replace hb_g4 := hb_g4.ext he52
   replace hr2 := hr2.ext he52
   replace hx9 := RdI.ext hx9 he52
   replace hn9 := hn9.ext he52
   replace hE := hE.tr he52
   have hz_he52 := he52.size
   refine vm rfl rfl ?_
   iterate 2 refine vx rfl rfl rfl ?_
   refine wl_step (or_alloc (cs := [(.int .i64 0), (.string (strB [])), (.slice none 0 0), (.slice none 0 0), (.slice none 0 0), (.int .u64 0), (.int .u64 0), (.string (strB [])), (.string (strB [])), (.string (strB []))]) ze39 rfl) rfl rfl rfl ?_
   rintro v w208 ⟨g14, rfl, hb_g14, he14, hl14, hu14⟩
   replace hb_g33 := hb_g33.ext he14
   replace hb_g32 := hb_g32.ext he14
   replace hb_g4 := hb_g4.ext he14
   replace hr2 := hr2.ext he14
   replace hx9 := RdI.ext hx9 he14
   replace hn9 := hn9.ext he14
   replace hE := hE.tr he14
   have hz_he14 := he14.size
   refine wl_step0 (or_storeBlk (vs := [(.int .i64 0), (.string (strB ([] : List UInt8))), (.slice none 0 0), (.slice none 0 0), (.slice none 0 0), (.int .u64 0), (.int .u64 0), (.string (strB ([] : List UInt8))), (.string (strB ([] : List UInt8))), (.string (strB ([] : List UInt8)))]) sz39 rfl rfl (by simp [Value.oneCell']) hb_g14 rfl) rfl rfl ?_
   rintro _ w209 ⟨hN209, hg209⟩
   have hz_hg209 := hg209.size
   replace hb_g33 := hb_g33.gr hg209 (by intro e; cases e; omega)
   replace hb_g32 := hb_g32.gr hg209 (by intro e; cases e; omega)
   replace hb_g4 := hb_g4.gr hg209 (by intro e; cases e; omega)
   replace hr2 := hr2.gr hg209 (fun _ e => by cases e; omega)
   replace hx9 := RdI.gr hx9 hg209 (fun _ e => by cases e; omega)
   replace hn9 := hn9.gr hg209 (fun _ e => by cases e; omega)
   replace hE := hE.gr hg209 (fun _ e => by cases e; omega)
   replace hb_g14 := hN209
   refine va rfl rfl ?_
   refine q_nil (k_then (wc_seq (wc_regionL ?_)))
   refine vm rfl rfl ?_
   refine wl_step (or_call0 cl19 rfl rfl (crsp_zero _ _ hb_g32)) rfl rfl rfl ?_
   rintro v w210 ⟨rfl, he57⟩
   replace hb_g33 := hb_g33.ext he57
   replace hb_g32 := hb_g32.ext he57
   replace hb_g4 := hb_g4.ext he57
   replace hr2 := hr2.ext he57
   replace hx9 := RdI.ext hx9 he57
   replace hn9 := hn9.ext he57
   replace hE := hE.tr he57
   replace hb_g14 := hb_g14.ext he57
   have hz_he57 := he57.size
   refine vm rfl rfl ?_
   iterate 2 refine vx rfl rfl rfl ?_
   refine wl_step (or_alloc (cs := [(.int .i64 0), (.int .i64 0), (.slice none 0 0), (.int .u64 0), (.int .i64 0), (.slice none 0 0)]) ze43 rfl) rfl rfl rfl ?_
   rintro v w211 ⟨g16, rfl, hb_g16, he16, hl16, hu16⟩
   replace hb_g33 := hb_g33.ext he16
   replace hb_g32 := hb_g32.ext he16
   replace hb_g4 := hb_g4.ext he16
   replace hr2 := hr2.ext he16
   replace hx9 := RdI.ext hx9 he16
   replace hn9 := hn9.ext he16
   replace hE := hE.tr he16
   replace hb_g14 := hb_g14.ext he16
   have hz_he16 := he16.size
   refine wl_step0 (or_storeBlk (vs := [(.int .i64 0), (.int .i64 0), (.slice none 0 0), (.int .u64 0), (.int .i64 0), (.slice none 0 0)]) sz43 rfl rfl (by simp [Value.oneCell']) hb_g16 rfl) rfl rfl ?_
   rintro _ w212 ⟨hN212, hg212⟩
   have hz_hg212 := hg212.size
   replace hb_g33 := hb_g33.gr hg212 (by intro e; cases e; omega)
   replace hb_g32 := hb_g32.gr hg212 (by intro e; cases e; omega)
   replace hb_g4 := hb_g4.gr hg212 (by intro e; cases e; omega)
   replace hr2 := hr2.gr hg212 (fun _ e => by cases e; omega)
   replace hx9 := RdI.gr hx9 hg212 (fun _ e => by cases e; omega)
   replace hn9 := hn9.gr hg212 (fun _ e => by cases e; omega)
   replace hE := hE.gr hg212 (fun _ e => by cases e; omega)
   replace hb_g14 := hb_g14.gr hg212 (by intro e; cases e; omega)
   replace hb_g16 := hN212
   refine va rfl rfl ?_
   refine q_nil (k_then (wc_seq (wc_regionL ?_)))
   iterate 2 refine vm rfl rfl ?_
   refine wl_step (or_call0 cl20 rfl rfl (cdrain_zero _ _ hb_g32 n)) rfl rfl rfl ?_
   rintro v w213 ⟨rfl, he63⟩
   replace hb_g33 := hb_g33.ext he63
   replace hb_g32 := hb_g32.ext he63
   replace hb_g4 := hb_g4.ext he63
   replace hr2 := hr2.ext he63
   replace hx9 := RdI.ext hx9 he63
   replace hn9 := hn9.ext he63
   replace hE := hE.tr he63
   replace hb_g14 := hb_g14.ext he63
   replace hb_g16 := hb_g16.ext he63
   have hz_he63 := he63.size
   refine vm rfl rfl ?_
   iterate 2 refine vx rfl rfl rfl ?_
   iterate 2 refine va rfl rfl ?_
   refine q_nil (k_then (wc_seq (wc_regionL ?_)))
   refine vm rfl rfl ?_
   refine wl_step (or_call0 cl21 rfl rfl (csizes_zero _ _ hb_g32)) rfl rfl rfl ?_
   rintro v w214 ⟨rfl, he68⟩
   replace hb_g33 := hb_g33.ext he68
   replace hb_g32 := hb_g32.ext he68
   replace hb_g4 := hb_g4.ext he68
   replace hr2 := hr2.ext he68
   replace hx9 := RdI.ext hx9 he68
   replace hn9 := hn9.ext he68
   replace hE := hE.tr he68
   replace hb_g14 := hb_g14.ext he68
   replace hb_g16 := hb_g16.ext he68
   have hz_he68 := he68.size
   refine vm rfl rfl ?_
   iterate 2 refine vx rfl rfl rfl ?_
   iterate 2 refine va rfl rfl ?_
   refine q_nil (k_then (wc_seq (wc_regionL ?_)))
   refine vm rfl rfl ?_
   refine wl_val (ov_neq rfl rfl) rfl rfl rfl ?_
   refine vm rfl rfl ?_
   refine wl_gval (ov_move rfl) rfl rfl rfl rfl rfl ?_
   refine wl_gval (ov_neq rfl rfl) rfl rfl rfl rfl rfl ?_
   refine wl_val (ov_pick_f rfl rfl) rfl rfl rfl ?_
   refine vm rfl rfl ?_
   refine wl_gval (ov_move rfl) rfl rfl rfl rfl rfl ?_
   refine wl_gval (ov_neq rfl rfl) rfl rfl rfl rfl rfl ?_
   refine wl_val (ov_pick_f rfl rfl) rfl rfl rfl ?_
   refine vm rfl rfl ?_
   refine wl_gval (ov_move rfl) rfl rfl rfl rfl rfl ?_
   refine wl_gval (ov_neq rfl rfl) rfl rfl rfl rfl rfl ?_
   refine wl_val (ov_pick_f rfl rfl) rfl rfl rfl ?_
   refine vm rfl rfl ?_
   refine wl_gval (ov_loadBlk (cs := [(.int .i64 0), (.string (strB ([] : List UInt8))), (.slice none 0 0), (.slice none 0 0), (.slice none 0 0), (.int .u64 0), (.int .u64 0), (.string (strB ([] : List UInt8))), (.string (strB ([] : List UInt8))), (.string (strB ([] : List UInt8)))]) ag39_10 rfl hb_g14) rfl rfl rfl rfl rfl ?_
   refine wl_gval (ov_build (cs := [(.int .i64 0), (.string (strB [])), (.slice none 0 0), (.slice none 0 0), (.slice none 0 0), (.int .u64 0), (.int .u64 0), (.string (strB [])), (.string (strB [])), (.string (strB []))]) ze39 pl39 rfl rfl) rfl rfl rfl rfl rfl ?_
   refine wl_gstep (or_call0 cl22 rfl rfl (requal_any _ (cmd0 0) 0 0 none 0 none 0 none 0 (Rd.nil _ _ _ _ _ _ (Nat.zero_le _)) (Rd.nil _ _ _ _ _ _ (Nat.zero_le _)) (Rd.nil _ _ _ _ _ _ (Nat.zero_le _)) (cmd0 0) 0 0 none 0 none 0 none 0 (Rd.nil _ _ _ _ _ _ (Nat.zero_le _)) (Rd.nil _ _ _ _ _ _ (Nat.zero_le _)) (Rd.nil _ _ _ _ _ _ (Nat.zero_le _)))) rfl rfl rfl rfl rfl ?_
   rintro v w215 ⟨rfl, he88⟩
   replace hb_g33 := hb_g33.ext he88
   replace hb_g32 := hb_g32.ext he88
   replace hb_g4 := hb_g4.ext he88
   replace hr2 := hr2.ext he88
   replace hx9 := RdI.ext hx9 he88
   replace hn9 := hn9.ext he88
   replace hE := hE.tr he88
   replace hb_g16 := hb_g16.ext he88
   have hz_he88 := he88.size
   refine wl_spell (d := 88) rfl (bt (rfl)) ?_
   refine wl_gval (ov_not (b := true) rfl) rfl rfl rfl rfl rfl ?_
   refine wl_val (ov_pick_f rfl rfl) rfl rfl rfl ?_
   refine vm rfl rfl ?_
   refine wl_gval (ov_move rfl) rfl rfl rfl rfl rfl ?_
   refine wl_gval (ov_neq rfl rfl) rfl rfl rfl rfl rfl ?_
   refine wl_val (ov_pick_f rfl rfl) rfl rfl rfl ?_
   refine vm rfl rfl ?_
   refine wl_gval (ov_loadBlk (cs := [(.int .i64 0), (.int .i64 0), (.slice none 0 0), (.int .u64 0), (.int .i64 0), (.slice none 0 0)]) ag43_6 rfl hb_g16) rfl rfl rfl rfl rfl ?_
   refine wl_gval (ov_build (cs := [(.int .i64 0), (.int .i64 0), (.slice none 0 0), (.int .u64 0), (.int .i64 0), (.slice none 0 0)]) ze43 pl43 rfl rfl) rfl rfl rfl rfl rfl ?_
   refine wl_gstep (or_call0 cl23 rfl rfl (req8_any _ (rspO 0 0) [] rfl 0 0 none 0 none 0 (RdI.nil _ 0 0) (Rd.nil _ _ _ _ _ _ (Nat.zero_le _)) (rspO 0 0) [] rfl 0 0 none 0 none 0 (RdI.nil _ 0 0) (Rd.nil _ _ _ _ _ _ (Nat.zero_le _)))) rfl rfl rfl rfl rfl ?_
   rintro v w216 ⟨rfl, he98⟩
   replace hb_g33 := hb_g33.ext he98
   replace hb_g32 := hb_g32.ext he98
   replace hb_g4 := hb_g4.ext he98
   replace hr2 := hr2.ext he98
   replace hx9 := RdI.ext hx9 he98
   replace hn9 := hn9.ext he98
   replace hE := hE.tr he98
   have hz_he98 := he98.size
   refine wl_spell (d := 98) rfl (bt (rfl)) ?_
   refine wl_gval (ov_not (b := true) rfl) rfl rfl rfl rfl rfl ?_
   refine wl_val (ov_pick_f rfl rfl) rfl rfl rfl ?_
   refine vm rfl rfl ?_
   refine wl_gval (ov_move rfl) rfl rfl rfl rfl rfl ?_
   refine wl_gval (ov_neq rfl rfl) rfl rfl rfl rfl rfl ?_
   refine wl_val (ov_pick_f rfl rfl) rfl rfl rfl ?_
   refine vm rfl rfl ?_
   refine wl_gval (ov_move rfl) rfl rfl rfl rfl rfl ?_
   refine wl_gval (ov_len Tryz.underlying32 rfl) rfl rfl rfl rfl rfl ?_
   refine wl_gval (ov_neq rfl rfl) rfl rfl rfl rfl rfl ?_
   refine wl_val (ov_pick_f rfl rfl) rfl rfl rfl ?_
   refine vm rfl rfl ?_
   refine wl_gval (ov_move rfl) rfl rfl rfl rfl rfl ?_
   refine wl_gval (ov_neq rfl rfl) rfl rfl rfl rfl rfl ?_
   refine wl_val (ov_pick_f rfl rfl) rfl rfl rfl ?_
   refine vm rfl rfl ?_
   refine wl_gval (ov_move rfl) rfl rfl rfl rfl rfl ?_
   refine wl_gval (ov_loadBlk (cs := [(.int .i64 r.op), (.int .i64 r.err), (.slice X9 r.items.length cx9), (.int .u64 (↑r.ver : Int)), (.int .i64 r.count), (.slice N9 r.nums.length cn9)]) ag43_6 rfl hb_g4) rfl rfl rfl rfl rfl ?_
   refine wl_gstep (or_call0 cl24 rfl rfl (cans_zero _ _ hb_g32 r xs9 hv9 _ _ X9 cx9 N9 cn9 hx9 hn9)) rfl rfl rfl rfl rfl ?_
   rintro v w217 ⟨rfl, he117⟩
   replace hb_g33 := hb_g33.ext he117
   replace hb_g32 := hb_g32.ext he117
   replace hb_g4 := hb_g4.ext he117
   replace hr2 := hr2.ext he117
   replace hx9 := RdI.ext hx9 he117
   replace hn9 := hn9.ext he117
   replace hE := hE.tr he117
   have hz_he117 := he117.size
   refine wl_gval (ov_neq rfl rfl) rfl rfl rfl rfl rfl ?_
   refine wl_val (ov_pick_f rfl rfl) rfl rfl rfl ?_
   refine vm rfl rfl ?_
   refine wl_gval (ov_move rfl) rfl rfl rfl rfl rfl ?_
   refine wl_gstep (or_call0 cl25 rfl rfl (cphase_zero _ _ hb_g32)) rfl rfl rfl rfl rfl ?_
   rintro v w218 ⟨rfl, he122⟩
   replace hb_g33 := hb_g33.ext he122
   replace hb_g32 := hb_g32.ext he122
   replace hb_g4 := hb_g4.ext he122
   replace hr2 := hr2.ext he122
   replace hx9 := RdI.ext hx9 he122
   replace hn9 := hn9.ext he122
   replace hE := hE.tr he122
   have hz_he122 := he122.size
   refine wl_gval (ov_neq rfl rfl) rfl rfl rfl rfl rfl ?_
   refine wl_val (ov_pick_f rfl rfl) rfl rfl rfl ?_
   refine vm rfl rfl ?_
   refine wl_gval (ov_move rfl) rfl rfl rfl rfl rfl ?_
   refine wl_gval (ov_neq rfl rfl) rfl rfl rfl rfl rfl ?_
   refine wl_val (ov_pick_f rfl rfl) rfl rfl rfl ?_
   refine vm rfl rfl ?_
   refine wl_gval (ov_move rfl) rfl rfl rfl rfl rfl ?_
   refine wl_gval (ov_neq rfl rfl) rfl rfl rfl rfl rfl ?_
   refine wl_val (ov_pick_f rfl rfl) rfl rfl rfl ?_
   refine vm rfl rfl ?_
   refine wl_gval (ov_move rfl) rfl rfl rfl rfl rfl ?_
   refine wl_gstep (or_call0 cl26 rfl rfl (ccopy_zero _ _ hb_g32)) rfl rfl rfl rfl rfl ?_
   rintro v w219 ⟨rfl, he135⟩
   replace hb_g33 := hb_g33.ext he135
   replace hb_g32 := hb_g32.ext he135
   replace hb_g4 := hb_g4.ext he135
   replace hr2 := hr2.ext he135
   replace hx9 := RdI.ext hx9 he135
   replace hn9 := hn9.ext he135
   replace hE := hE.tr he135
   have hz_he135 := he135.size
   refine wl_gval (ov_nnilptr Tryz.underlying28 rfl) rfl rfl rfl rfl rfl ?_
   refine wl_val (ov_pick_f rfl rfl) rfl rfl rfl ?_
   refine q_nil (k_then ?_)
   refine wc_cond_f rfl ?_
   refine q_skip (k_block (k_then (wc_regionL ?_)))
   refine wl_val (ov_add (m := 2) rfl rfl (by decide)) rfl rfl rfl ?_
   refine vm rfl rfl ?_
   refine q_nil ?_
   refine k_loop (2) (by decide) (⟨rfl, rfl, rfl, rfl, rfl, rfl, trivial⟩) (⟨by decide, hb_g33, hb_g32, hb_g4, hr2, hx9, hn9, hE⟩)
 ·refine q_exit (k_thenX (k_thenX (k_blockE (k_then (wc_seq (wc_regionL ?_))))))
  refine wl_step (or_call0 cl10 rfl rfl (known28_any _)) rfl rfl rfl ?_
  rintro v w205 ⟨rfl, he139⟩
  replace hE := hE.tr he139
  have hz_he139 := he139.size
  refine va rfl rfl ?_
  refine q_nil (k_then (q_ret ?_))
  refine e_ret rfl rfl ?_
  exact ⟨rfl, hE⟩
theorem connNone_walk (w : World) (lo2 hi2 : Nat) (B : Option Addr) (c2 : Nat) (q : List UInt8) (hr2 : RdB w lo2 hi2 B c2 q) (r : Rsp) (xs9 : List IT) (hv9 : vals xs9 = r.items) (lo9 hi9 : Nat) (X9 : Option Addr) (cx9 : Nat) (N9 : Option Addr) (cn9 : Nat) (hx9 : RdI w lo9 hi9 X9 cx9 xs9) (hn9 : RdN w lo9 hi9 N9 cn9 r.nums) (n : Int) (hlen : ∀ x ∈ r.items, x.value.length ≤ 140737488355328) :
  Fn Tryz.prog 4 #[.slice B q.length c2, .agg (rspc r X9 cx9 N9 cn9).toArray, .int .i64 n] w (fun v w' => v = .bool true ∧ Ext w w') := by
 by_cases h : 100 < q.length
 ·exact connNone_a w lo2 hi2 B c2 q hr2 r xs9 hv9 lo9 hi9 X9 cx9 N9 cn9 hx9 hn9 n hlen h
 ·cases hh : heavyR r
  ·exact connNone_c w lo2 hi2 B c2 q hr2 r xs9 hv9 lo9 hi9 X9 cx9 N9 cn9 hx9 hn9 n hlen h hh
  ·exact connNone_b w lo2 hi2 B c2 q hr2 r xs9 hv9 lo9 hi9 X9 cx9 N9 cn9 hx9 hn9 n hlen h hh
end Go.Proofs.YtiighkbehiddkaaGreat