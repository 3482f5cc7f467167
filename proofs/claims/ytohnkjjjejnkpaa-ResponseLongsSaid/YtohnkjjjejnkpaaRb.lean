/-
  The writing of numbers and items.
-/
import Derived.Test.YtohnkjjjejnkpaaRa
namespace Go.Proofs.Ytohnkjjjejnkpaa
open Go.RowKit
set_option linter.unusedVariables false
set_option maxRecDepth 4000
theorem ag53_4 : aggTy Try.prog 53 4 = true := by kernel_rfl
theorem fo28_5 : fieldOff Try.prog 28 5 = some 5 := by kernel_rfl
theorem fo53_0 : fieldOff Try.prog 53 0 = some 0 := by kernel_rfl
theorem fo53_1 : fieldOff Try.prog 53 1 = some 1 := by kernel_rfl
theorem fo53_2 : fieldOff Try.prog 53 2 = some 2 := by kernel_rfl
theorem fo53_3 : fieldOff Try.prog 53 3 = some 3 := by kernel_rfl
theorem oc26 : oneCellTy Try.prog 26 = true := by kernel_rfl
theorem oc50 : oneCellTy Try.prog 50 = true := by kernel_rfl
theorem oc51 : oneCellTy Try.prog 51 = true := by kernel_rfl
theorem sl24 : SliceTy Try.prog 24 53 4 48 (.agg #[(.int .i64 0), (.slice none 0 0), (.int .u64 0), (.int .u64 0)]) := sliceTy_mk Try.underlying24 (by kernel_rfl) rfl (by decide)
theorem sl26 : SliceTy Try.prog 26 25 1 8 (.int .u64 0) := sliceTy_mk Try.underlying26 (by kernel_rfl) rfl (by decide)
theorem sz53 : (Try.prog.info? 53).map (·.size) = some 4 := by kernel_rfl
theorem ze53 : zeroOf Try.prog 53 = some (.agg #[(.int .i64 0), (.slice none 0 0), (.int .u64 0), (.int .u64 0)]) := by kernel_rfl

theorem sum_succ {xs : List Itm} {k : Nat} {x : Itm} (h : xs[k]? = some x) : ((xs.take (k + 1)).map isz).sum = ((xs.take k).map isz).sum + isz x := by
  rw [List.take_add_one, h, List.map_append, List.sum_append_nat]; simp
theorem vals_at {xs : List IT} {is : List Itm} {k : Nat} {x : IT} (hv : vals xs = is) (h : xs[k]? = some x) : is[k]? = some x.1 := by
  rw [← hv]; unfold vals; rw [List.getElem?_map, h]; rfl
theorem wI_zero {x : Itm} (h : x.mark = 0) : wI x = enc x.mark.toNat := by unfold wI; rw [if_pos h, List.append_nil]
theorem wI_full {x : Itm} (h : ¬ x.mark = 0) (o : List UInt8) : o ++ wI x = o ++ enc x.mark.toNat ++ enc x.ver ++ enc x.dead ++ enc x.value.length ++ x.value := by
  unfold wI pb; rw [if_neg h]; simp only [List.append_assoc]

theorem putn (w : World) (gb gx : Nat) (A : Option Addr) (c : Nat) (out : List UInt8) {b0 : Nat} (hb0 : b0 ≤ w.heap.size) (hb_gb : Blk w gb 32 [.slice A (out).length c]) (ho : OwnB w (b0) 5 A c out) (hol : out.length ≤ 35184372088832) (r : Rsp) (xs : List IT) (hxs : vals xs = r.items) (X : Option Addr) (cx : Nat) (N : Option Addr) (cn : Nat) (hb_gx : Blk w gx 28 (rspc r X cx N cn)) (hne : gx ≠ gb) (lo hi : Nat) (hx : RdI w lo hi X cx xs) (hn : RdN w lo hi N cn r.nums) (hxb : gb < lo ∨ hi ≤ gb) (hhi : hi ≤ w.heap.size) (hvr : r.ver < 18446744073709551616) (hdd : ∀ x ∈ r.items, x.ver < 18446744073709551616 ∧ x.dead < 18446744073709551616) (hnn : ∀ n ∈ r.nums, n < 18446744073709551616) (hsz : out.length + rsz r ≤ 17592186044416) :
    Fn Try.prog 74 #[(.pointer (some ⟨gb, 0, none⟩)), (.pointer (some ⟨gx, 0, none⟩))] w (fun v w' => v = .bool (okP r 110) ∧ (∃ A' c' o', Blk w' gb 32 [.slice A' (List.length o') c'] ∧ OwnB w' (b0) 5 A' c' o' ∧ (okP r 110 = true → o' = out ++ putC r 110)) ∧ Gr w w' (some gb))  := by
  have hG := (ext_refl w).row (some gb)
  have hgbl := hb_gb.lt
  have hq_ho := fun g e => Own.lt ho (g := g) e
  have hgxl := hb_gx.lt
  have hxl : xs.length = r.items.length := by rw [← hxs]; exact (List.length_map ..).symm
  have hcx := hx.1.1
  have hcx2 := hx.1.2.1
  have hcn := hn.1
  have hcn2 := hn.2.1
  simp only [maxLen] at hcx2 hcn2
  refine fn_enter (args := [(.pointer (some ⟨gb, 0, none⟩)), (.pointer (some ⟨gx, 0, none⟩))]) Try.func74 rfl rfl rfl ?_
  show WC _ _ _ _ [(0, (.pointer (some ⟨gb, 0, none⟩))), (1, (.pointer (some ⟨gx, 0, none⟩)))] _
  refine wc_seq (wc_regionL ?_)
  refine va rfl rfl ?_
  refine q_nil (k_then (wc_seq (wc_seq (wc_regionL ?_))))
  iterate 2 refine vm rfl rfl ?_
  refine vn rfl rfl ?_
  refine wl_val (ov_field0 (off := 5) fo28_5 rfl) rfl rfl rfl ?_
  refine wl_val (ov_loadAt oc26 rfl hb_gx rfl) rfl rfl rfl ?_
  refine wl_val (ov_len Try.underlying26 rfl) rfl rfl rfl ?_
  refine wl_val (ov_conv Try.underlying3 Try.underlying25 rfl (wu64 (by omega) (by omega))) rfl rfl rfl ?_
  refine wl_step (or_call0 cl62 rfl rfl (rnum_any _ gb A c out (by omega) hb_gb ho (by omega) (r.nums.length) 64 (by omega) (by omega))) rfl rfl rfl ?_
  rintro v w1 ⟨rfl, ⟨A14, c14, hN14, ho14⟩, hg14⟩
  have hz_hg14 := hg14.size
  replace hG := hG.gr hg14 (fun _ e => by first | exact .inl e | (cases e; right; omega))
  replace hb_gx := hb_gx.gr hg14 (by intro e; cases e; omega)
  replace hx := RdI.gr hx hg14 (fun _ e => by cases e; omega)
  replace hn := hn.gr hg14 (fun _ e => by cases e; omega)
  replace hb_gb := hN14
  have hq_ho14 := fun g e => Own.lt ho14 (g := g) e
  have hl14 : (out ++ enc (r.nums.length)).length = (out).length + (enc (r.nums.length)).length := List.length_append
  have hle14 := enc_len (r.nums.length)
  refine wl_val (ov_not rfl) rfl rfl rfl ?_
  refine q_nil (k_then ?_)
  refine wc_cond rfl (fun hc1 => ?_) (fun hc1 => ?_)
  · have hb : ¬ r.nums.length ≤ 64 := by simpa using hc1
    refine wc_seq (wc_regionL ?_)
    refine va rfl rfl ?_
    refine q_nil (k_then (q_ret (k_thenR ?_)))
    refine e_ret rfl rfl ?_
    refine ⟨?_, ⟨A14, c14, _, hb_gb, ho14, fun h => absurd (of_decide_eq_true h) hb⟩, hG⟩
    show Value.bool false = .bool (decide _)
    rw [decide_eq_false hb]
  · have hb : r.nums.length ≤ 64 := by simpa using hc1
    refine q_skip (k_then (wc_seq (wc_seq (wc_regionL ?_))))
    refine vm rfl rfl ?_
    refine vn rfl rfl ?_
    refine wl_val (ov_field0 (off := 5) fo28_5 rfl) rfl rfl rfl ?_
    refine wl_val (ov_loadAt oc26 rfl hb_gx rfl) rfl rfl rfl ?_
    refine wl_val (ov_len Try.underlying26 rfl) rfl rfl rfl ?_
    refine vm rfl rfl ?_
    refine q_nil (k_then (wc_block ?_))
    refine wc_loop (σ := Nat × Option Addr × Nat) (fun s => r.nums.length - s.1) (fun s => [(0, .pointer (some ⟨gb, 0, none⟩)), (19, .slice N r.nums.length cn), (20, .int .i64 (r.nums.length : Int)), (21, .int .i64 (s.1 : Int))]) (fun s w' => s.1 ≤ r.nums.length ∧ Blk w' gb 32 [.slice s.2.1 (out ++ enc r.nums.length ++ (r.nums.take s.1).flatMap enc).length s.2.2] ∧ OwnB w' (b0) 5 s.2.1 s.2.2 (out ++ enc r.nums.length ++ (r.nums.take s.1).flatMap enc) ∧ RdN w' lo hi N cn r.nums ∧ Gr w w' (some gb)) ((0, A14, c14)) (⟨Nat.zero_le _, by show Blk _ _ _ [.slice _ (out ++ enc r.nums.length ++ (r.nums.take 0).flatMap enc).length _]; rw [List.take_zero, List.flatMap_nil, List.append_nil]; exact hb_gb, by show OwnB _ _ _ _ _ (out ++ enc r.nums.length ++ (r.nums.take 0).flatMap enc); rw [List.take_zero, List.flatMap_nil, List.append_nil]; exact ho14, hn, hG⟩) (⟨rfl, rfl, rfl, rfl, trivial⟩) ?_
    rintro ⟨i, Ai, ci⟩ wq ⟨hi0, hb_gb, hoi, hn, hG⟩
    show WC _ _ _ _ [(0, (.pointer (some ⟨gb, 0, none⟩))), (19, (.slice N r.nums.length cn)), (20, (.int .i64 (↑r.nums.length : Int))), (21, (.int .i64 (↑i : Int)))] _
    simp only at hi0
    replace hb_gb : Blk wq gb 32 [.slice Ai (out ++ enc r.nums.length ++ (r.nums.take i).flatMap enc).length ci] := hb_gb
    replace hoi : OwnB wq (b0) 5 Ai ci (out ++ enc r.nums.length ++ (r.nums.take i).flatMap enc) := hoi
    have hq_hoi := fun g e => Own.lt hoi (g := g) e
    have hz_G := hG.size
    have hgbq := hb_gb.lt
    have hel := encs_len (r.nums.take i)
    rw [List.length_take] at hel
    have heL := enc_len r.nums.length
    have hol2 : (out ++ enc r.nums.length ++ (r.nums.take i).flatMap enc).length = out.length + (enc r.nums.length).length + ((r.nums.take i).flatMap enc).length := by rw [List.length_append, List.length_append]
    unfold rsz at hsz
    refine wc_seq (wc_regionL ?_)
    refine wl_val (ov_lss rfl rfl) rfl rfl rfl ?_
    refine q_nil (k_then (wc_seq ?_))
    refine wc_cond_d rfl (fun hc2 => ?_) (fun hc2 => ?_)
    · obtain ⟨n, hk⟩ : ∃ n, r.nums[i]? = some n := ⟨_, List.getElem?_eq_getElem (by omega)⟩
      have hnb := hnn n (List.mem_of_getElem? hk)
      refine q_skip (k_then (wc_seq (wc_block (wc_seq (wc_regionL ?_)))))
      refine wl_step (or_rindex (m := (i)) sl26 rfl rfl hn (fun _ _ => rfl) hk) rfl rfl rfl ?_
      rintro v _ ⟨rfl, p23, rfl, hp23, hpl23, hph23⟩
      refine wl_val (ov_load oc25 rfl (cell_zero hp23 rfl)) rfl rfl rfl ?_
      refine va rfl rfl ?_
      refine q_nil (k_then (wc_regionL ?_))
      iterate 2 refine vm rfl rfl ?_
      refine vn rfl rfl ?_
      refine wl_val (ov_loadAt oc32 rfl hb_gb rfl) rfl rfl rfl ?_
      refine vm rfl rfl ?_
      refine wl_step (or_call0 cl29 rfl rfl (put_any _ _ _ _ _ (out ++ enc r.nums.length ++ (r.nums.take i).flatMap enc) (n) (OwnB.rd hoi) (by omega) (by omega))) rfl rfl rfl ?_
      rintro v w202 ⟨A30, c30, rfl, ho30, he30⟩
      replace hb_gb := hb_gb.ext he30
      replace hoi := Own.ext hoi he30
      replace hn := hn.ext he30
      replace hG := hG.gr he30 (fun _ e => by cases e)
      have hz_he30 := he30.size
      have hq_ho30 := fun g e => Own.lt ho30 (g := g) e
      refine vn rfl rfl ?_
      refine wl_step0 (or_storeAt (cs' := [(.slice A30 ((out ++ enc r.nums.length ++ (r.nums.take i).flatMap enc) ++ enc (n)).length c30)]) sz32 rfl rfl rfl hb_gb rfl rfl) rfl rfl ?_
      rintro _ w203 ⟨hN203, hg203⟩
      have hz_hg203 := hg203.size
      replace hoi := Own.gr hoi hg203 (by first | exact .inl rfl | (right; intro e; first | (have := hq_hoi _ e; omega) | (have := Own.lt hoi e; omega) | exact own_blk_ne hoi hb_gb (by decide) e))
      replace hn := hn.gr hg203 (fun _ e => by cases e; omega)
      replace hG := hG.gr hg203 (fun _ e => by first | exact .inl e | (cases e; right; omega))
      replace ho30 := Own.gr ho30 hg203 (by first | exact .inl rfl | (right; intro e; first | (have := hq_ho30 _ e; omega) | (have := Own.lt ho30 e; omega) | exact own_blk_ne ho30 hb_gb (by decide) e))
      replace hb_gb := hN203
      refine q_nil (k_block (k_then (wc_regionL ?_)))
      refine wl_val (ov_add rfl rfl (wi64 (by omega) (by omega))) rfl rfl rfl ?_
      refine vm rfl rfl ?_
      refine q_nil ?_
      refine k_loop ((i + 1, A30, c30)) (by show r.nums.length - (i + 1) < r.nums.length - i; omega) (⟨rfl, rfl, rfl, rfl, trivial⟩) (⟨by show i + 1 ≤ _; omega, by show Blk _ _ _ [.slice _ (out ++ enc r.nums.length ++ (r.nums.take (i + 1)).flatMap enc).length _]; rw [enc_take hk, ← List.append_assoc]; exact hb_gb, by show OwnB _ _ _ _ _ (out ++ enc r.nums.length ++ (r.nums.take (i + 1)).flatMap enc); rw [enc_take hk, ← List.append_assoc]; exact Own.mono ho30 (by omega), hn, hG⟩)
    · have hix : r.nums.take i = r.nums := List.take_of_length_le (by omega)
      rw [hix] at hb_gb hoi
      refine q_exit (k_thenX (k_thenX (k_blockE (k_then (wc_seq (wc_regionL ?_))))))
      refine va rfl rfl ?_
      refine q_nil (k_then (q_ret ?_))
      refine e_ret rfl rfl ?_
      refine ⟨?_, ⟨Ai, ci, _, hb_gb, hoi, fun _ => ?_⟩, hG⟩
      · show Value.bool true = .bool (decide _)
        rw [decide_eq_true hb]
      · exact List.append_assoc ..

theorem puti (w : World) (gb gx : Nat) (A : Option Addr) (c : Nat) (out : List UInt8) {b0 : Nat} (hb0 : b0 ≤ w.heap.size) (hb_gb : Blk w gb 32 [.slice A (out).length c]) (ho : OwnB w (b0) 5 A c out) (hol : out.length ≤ 35184372088832) (r : Rsp) (xs : List IT) (hxs : vals xs = r.items) (X : Option Addr) (cx : Nat) (N : Option Addr) (cn : Nat) (hb_gx : Blk w gx 28 (rspc r X cx N cn)) (hne : gx ≠ gb) (lo hi : Nat) (hx : RdI w lo hi X cx xs) (hn : RdN w lo hi N cn r.nums) (hxb : gb < lo ∨ hi ≤ gb) (hhi : hi ≤ w.heap.size) (hvr : r.ver < 18446744073709551616) (hdd : ∀ x ∈ r.items, x.ver < 18446744073709551616 ∧ x.dead < 18446744073709551616) (hnn : ∀ n ∈ r.nums, n < 18446744073709551616) (hsz : out.length + rsz r ≤ 17592186044416) :
    Fn Try.prog 68 #[(.pointer (some ⟨gb, 0, none⟩)), (.pointer (some ⟨gx, 0, none⟩))] w (fun v w' => v = .bool (okP r 105) ∧ (∃ A' c' o', Blk w' gb 32 [.slice A' (List.length o') c'] ∧ OwnB w' (b0) 5 A' c' o' ∧ (okP r 105 = true → o' = out ++ putC r 105)) ∧ Gr w w' (some gb))  := by
  have hG := (ext_refl w).row (some gb)
  have hgbl := hb_gb.lt
  have hq_ho := fun g e => Own.lt ho (g := g) e
  have hgxl := hb_gx.lt
  have hxl : xs.length = r.items.length := by rw [← hxs]; exact (List.length_map ..).symm
  have hcx := hx.1.1
  have hcx2 := hx.1.2.1
  have hcn := hn.1
  have hcn2 := hn.2.1
  simp only [maxLen] at hcx2 hcn2
  refine fn_enter (args := [(.pointer (some ⟨gb, 0, none⟩)), (.pointer (some ⟨gx, 0, none⟩))]) Try.func68 rfl rfl rfl ?_
  show WC _ _ _ _ [(0, (.pointer (some ⟨gb, 0, none⟩))), (1, (.pointer (some ⟨gx, 0, none⟩)))] _
  refine wc_seq (wc_regionL ?_)
  refine va rfl rfl ?_
  refine q_nil (k_then (wc_seq (wc_seq (wc_regionL ?_))))
  refine vm rfl rfl ?_
  refine vn rfl rfl ?_
  refine wl_val (ov_field0 (off := 2) fo28_2 rfl) rfl rfl rfl ?_
  refine wl_val (ov_loadAt oc24 rfl hb_gx rfl) rfl rfl rfl ?_
  refine wl_spell (d := 10) rfl (v' := .slice X xs.length cx) (by rw [hxl]) ?_
  refine wl_val (ov_len Try.underlying24 rfl) rfl rfl rfl ?_
  refine vm rfl rfl ?_
  refine q_nil (k_then (wc_block ?_))
  refine wc_loop (σ := Nat × Option Addr × Nat) (fun s => xs.length - s.1) (fun s => [(0, .pointer (some ⟨gb, 0, none⟩)), (10, .slice X xs.length cx), (11, .int .i64 (xs.length : Int)), (12, .int .i64 (s.1 : Int))]) (fun s w' => s.1 ≤ xs.length ∧ (r.items.take s.1).all okI = true ∧ Blk w' gb 32 [.slice s.2.1 (out ++ (r.items.take s.1).flatMap wI).length s.2.2] ∧ OwnB w' (b0) 5 s.2.1 s.2.2 (out ++ (r.items.take s.1).flatMap wI) ∧ RdI w' lo hi X cx xs ∧ Gr w w' (some gb)) ((0, A, c)) (⟨Nat.zero_le _, rfl, by show Blk _ _ _ [.slice _ (out ++ (r.items.take 0).flatMap wI).length _]; rw [List.take_zero, List.flatMap_nil, List.append_nil]; exact hb_gb, by show OwnB _ _ _ _ _ (out ++ (r.items.take 0).flatMap wI); rw [List.take_zero, List.flatMap_nil, List.append_nil]; exact ho, hx, hG⟩) (⟨rfl, rfl, rfl, rfl, trivial⟩) ?_
  rintro ⟨i, Ai, ci⟩ wq ⟨hi0, hal, hb_gb, hoi, hx, hG⟩
  show WC _ _ _ _ [(0, (.pointer (some ⟨gb, 0, none⟩))), (10, (.slice X xs.length cx)), (11, (.int .i64 (↑xs.length : Int))), (12, (.int .i64 (↑i : Int)))] _
  simp only at hi0 hal
  replace hb_gb : Blk wq gb 32 [.slice Ai (out ++ (r.items.take i).flatMap wI).length ci] := hb_gb
  replace hoi : OwnB wq (b0) 5 Ai ci (out ++ (r.items.take i).flatMap wI) := hoi
  have hq_hoi := fun g e => Own.lt hoi (g := g) e
  have hz_G := hG.size
  have hgbq := hb_gb.lt
  have hil := items_len (r.items.take i) hal
  have hol2 : (out ++ (r.items.take i).flatMap wI).length = out.length + ((r.items.take i).flatMap wI).length := List.length_append
  unfold rsz at hsz
  refine wc_seq (wc_regionL ?_)
  refine wl_val (ov_lss rfl rfl) rfl rfl rfl ?_
  refine q_nil (k_then (wc_seq ?_))
  refine wc_cond_d rfl (fun hc1 => ?_) (fun hc1 => ?_)
  · obtain ⟨x, hk⟩ : ∃ x, xs[i]? = some x := ⟨_, List.getElem?_eq_getElem (by omega)⟩
    have hki := vals_at hxs hk
    have hxm := List.mem_of_getElem? hki
    obtain ⟨hd1, hd2⟩ := hdd x.1 hxm
    have hrv := hx.2 x (List.mem_of_getElem? hk)
    have hss := sum_succ hki
    have hst := sum_take r.items (i + 1)
    have hxz : isz x.1 = x.1.value.length + 40 := rfl
    refine q_skip (k_then (wc_seq (wc_block (wc_seq (wc_regionL ?_)))))
    refine wl_step (or_rindex (m := (i)) sl24 rfl rfl hx.1 (fun _ _ => rfl) hk) rfl rfl rfl ?_
    rintro v _ ⟨rfl, p14, rfl, hp14, hpl14, hph14⟩
    refine wl_val (ov_loadAgg (cs := [(.int .i64 x.1.mark), (.slice x.2.1 x.1.value.length x.2.2), (.int .u64 (↑x.1.ver : Int)), (.int .u64 (↑x.1.dead : Int))]) ag53_4 rfl rfl hp14) rfl rfl rfl ?_
    refine wl_step (or_alloc (cs := [(.int .i64 0), (.slice none 0 0), (.int .u64 0), (.int .u64 0)]) ze53 rfl) rfl rfl rfl ?_
    rintro v w1 ⟨g6, rfl, hb_g6, he6, hl6, hu6⟩
    replace hb_gb := hb_gb.ext he6
    replace hoi := Own.ext hoi he6
    replace hx := RdI.ext hx he6
    replace hG := hG.gr he6 (fun _ e => by cases e)
    replace hrv := hrv.ext he6
    have hz_he6 := he6.size
    refine wl_step0 (or_storeBlk (vs := [(.int .i64 x.1.mark), (.slice x.2.1 x.1.value.length x.2.2), (.int .u64 (↑x.1.ver : Int)), (.int .u64 (↑x.1.dead : Int))]) sz53 rfl rfl (by simp [Value.oneCell']) hb_g6 rfl) rfl rfl ?_
    rintro _ w2 ⟨hN2, hg2⟩
    have hz_hg2 := hg2.size
    replace hb_gb := hb_gb.gr hg2 (by intro e; cases e; omega)
    replace hoi := Own.gr hoi hg2 (by first | exact .inl rfl | (right; intro e; first | (have := hq_hoi _ e; omega) | (have := Own.lt hoi e; omega) | exact own_blk_ne hoi hb_g6 (by decide) e))
    replace hx := RdI.gr hx hg2 (fun _ e => by cases e; omega)
    replace hG := hG.gr hg2 (fun _ e => by first | exact .inl e | (cases e; right; omega))
    replace hrv := hrv.gr hg2 (fun _ e => by cases e; omega)
    replace hb_g6 := hN2
    refine q_nil (k_then (wc_seq (wc_seq (wc_regionL ?_))))
    refine wl_val (ov_field0 (off := 0) fo53_0 rfl) rfl rfl rfl ?_
    refine wl_val (ov_loadAt oc50 rfl hb_g6 rfl) rfl rfl rfl ?_
    refine wl_val (ov_lss rfl rfl) rfl rfl rfl ?_
    refine wl_case_d (d := 18) rfl (fun h18 => ?_) (fun h18 => ?_)
    · have hok : okI x.1 = false := decide_eq_false (by omega)
      refine vm rfl rfl ?_
      iterate 3 refine wl_gskip rfl rfl rfl rfl rfl rfl ?_
      refine wl_val (ov_pick_t rfl rfl) rfl rfl rfl ?_
      refine vm rfl rfl ?_
      iterate 4 refine wl_gskip rfl rfl rfl rfl rfl rfl ?_
      refine wl_val (ov_pick_t rfl rfl) rfl rfl rfl ?_
      refine q_nil (k_then ?_)
      refine wc_cond_t rfl ?_
      refine wc_seq (wc_regionL ?_)
      refine va rfl rfl ?_
      refine q_nil (k_then (q_ret (k_thenR (k_blockR (k_thenR (k_thenR (k_blockR (k_thenR ?_))))))))
      refine e_ret rfl rfl ?_
      first
        | (refine ⟨?_, ⟨Ai, ci, _, hb_gb, hoi, fun h => ?_⟩, hG⟩ <;> have hf : r.items.all okI = false := List.all_eq_false.2 ⟨x.1, hxm, by rw [hok]; decide⟩
           · show Value.bool false = .bool (r.items.all okI)
             rw [hf]
           · have h2 : r.items.all okI = true := h
             rw [hf] at h2; cases h2)
        | exact ⟨by show Value.bool true = .bool (r.items.all okI); rw [hal], ⟨Ai, ci, _, hb_gb, hoi, fun _ => rfl⟩, hG⟩
    · refine vm rfl rfl ?_
      refine wl_gval (ov_field0 (off := 0) fo53_0 rfl) rfl rfl rfl rfl rfl ?_
      refine wl_gval (ov_loadAt oc50 rfl hb_g6 rfl) rfl rfl rfl rfl rfl ?_
      refine wl_gval (ov_gtr rfl rfl) rfl rfl rfl rfl rfl ?_
      refine wl_case_d (d := 22) rfl (fun h22 => ?_) (fun h22 => ?_)
      · have hok : okI x.1 = false := decide_eq_false (by omega)
        refine wl_val (ov_pick_f rfl rfl) rfl rfl rfl ?_
        refine vm rfl rfl ?_
        iterate 4 refine wl_gskip rfl rfl rfl rfl rfl rfl ?_
        refine wl_val (ov_pick_t rfl rfl) rfl rfl rfl ?_
        refine q_nil (k_then ?_)
        refine wc_cond_t rfl ?_
        refine wc_seq (wc_regionL ?_)
        refine va rfl rfl ?_
        refine q_nil (k_then (q_ret (k_thenR (k_blockR (k_thenR (k_thenR (k_blockR (k_thenR ?_))))))))
        refine e_ret rfl rfl ?_
        first
          | (refine ⟨?_, ⟨Ai, ci, _, hb_gb, hoi, fun h => ?_⟩, hG⟩ <;> have hf : r.items.all okI = false := List.all_eq_false.2 ⟨x.1, hxm, by rw [hok]; decide⟩
             · show Value.bool false = .bool (r.items.all okI)
               rw [hf]
             · have h2 : r.items.all okI = true := h
               rw [hf] at h2; cases h2)
          | exact ⟨by show Value.bool true = .bool (r.items.all okI); rw [hal], ⟨Ai, ci, _, hb_gb, hoi, fun _ => rfl⟩, hG⟩
      · refine wl_val (ov_pick_f rfl rfl) rfl rfl rfl ?_
        refine vm rfl rfl ?_
        refine wl_gval (ov_field0 (off := 1) fo53_1 rfl) rfl rfl rfl rfl rfl ?_
        refine wl_gval (ov_loadAt oc32 rfl hb_g6 rfl) rfl rfl rfl rfl rfl ?_
        refine wl_gval (ov_len Try.underlying32 rfl) rfl rfl rfl rfl rfl ?_
        refine wl_gval (ov_gtr rfl rfl) rfl rfl rfl rfl rfl ?_
        refine wl_val (ov_pick_f rfl rfl) rfl rfl rfl ?_
        refine q_nil (k_then ?_)
        refine wc_cond_d rfl (fun hc2 => ?_) (fun hc2 => ?_)
        · have hok : okI x.1 = false := decide_eq_false (by omega)
          refine wc_seq (wc_regionL ?_)
          refine va rfl rfl ?_
          refine q_nil (k_then (q_ret (k_thenR (k_blockR (k_thenR (k_thenR (k_blockR (k_thenR ?_))))))))
          refine e_ret rfl rfl ?_
          first
            | (refine ⟨?_, ⟨Ai, ci, _, hb_gb, hoi, fun h => ?_⟩, hG⟩ <;> have hf : r.items.all okI = false := List.all_eq_false.2 ⟨x.1, hxm, by rw [hok]; decide⟩
               · show Value.bool false = .bool (r.items.all okI)
                 rw [hf]
               · have h2 : r.items.all okI = true := h
                 rw [hf] at h2; cases h2)
            | exact ⟨by show Value.bool true = .bool (r.items.all okI); rw [hal], ⟨Ai, ci, _, hb_gb, hoi, fun _ => rfl⟩, hG⟩
        · have hok : okI x.1 = true := decide_eq_true (by omega)
          refine q_skip (k_then (wc_seq ?_))
          refine wc_draw mixed 8 [(30, eqv (.pointer (some ⟨gb, 0, none⟩))), (31, eqv (.pointer (some ⟨gb, 0, none⟩))), (32, eqv (.pointer (some ⟨gb, 0, none⟩))), (33, eqv (.slice Ai (out ++ (r.items.take i).flatMap wI).length ci)), (34, eqv (.pointer (some ⟨g6, 0, none⟩))), (35, eqv (.int .i64 x.1.mark)), (36, eqv (.int .u64 (↑x.1.mark.toNat : Int))), (37, isOwnB w2.heap.size 5 ((out ++ (r.items.take i).flatMap wI) ++ enc (x.1.mark.toNat)))] [[], [], [1], [2], [], [4], [5], [3, 6]] _ [] [] (fun _ _ h => h) trivial (by kernel_rfl) rfl ⟨⟨stb_eqv _, fun _ he => by cases he⟩, ⟨stb_eqv _, fun _ he => by cases he⟩, ⟨stb_eqv _, fun _ he => by cases he⟩, ⟨stb_eqv _, fun _ he => by cases he⟩, ⟨stb_eqv _, fun _ he => by cases he⟩, ⟨stb_eqv _, fun _ he => by cases he⟩, ⟨stb_eqv _, fun _ he => by cases he⟩, ⟨stb_isOwnB _ _ _, fun _ he => by cases he⟩, trivial⟩ ⟨?_, ?_, ?_, ?_, ?_, ?_, ?_, ?_, trivial⟩ ?_
          · intro wd hxE
            replace hb_gb := hb_gb.ext hxE
            replace hoi := Own.ext hoi hxE
            replace hx := RdI.ext hx hxE
            replace hG := hG.gr hxE (fun _ e => by cases e)
            replace hrv := hrv.ext hxE
            replace hb_g6 := hb_g6.ext hxE
            have hz_hxE := hxE.size
            show OpG _ _ _ _ _ _
            exact og_plain rfl (ox_val (ov_move rfl))
          · intro wd hxE
            replace hb_gb := hb_gb.ext hxE
            replace hoi := Own.ext hoi hxE
            replace hx := RdI.ext hx hxE
            replace hG := hG.gr hxE (fun _ e => by cases e)
            replace hrv := hrv.ext hxE
            replace hb_g6 := hb_g6.ext hxE
            have hz_hxE := hxE.size
            show OpG _ _ _ _ _ _
            exact og_plain rfl (ox_val (ov_move rfl))
          · intro wd hxE
            replace hb_gb := hb_gb.ext hxE
            replace hoi := Own.ext hoi hxE
            replace hx := RdI.ext hx hxE
            replace hG := hG.gr hxE (fun _ e => by cases e)
            replace hrv := hrv.ext hxE
            replace hb_g6 := hb_g6.ext hxE
            have hz_hxE := hxE.size
            rintro _ rfl
            show OpG _ _ _ _ _ _
            exact og_plain rfl (ox_val (ov_nilCheck rfl))
          · intro wd hxE
            replace hb_gb := hb_gb.ext hxE
            replace hoi := Own.ext hoi hxE
            replace hx := RdI.ext hx hxE
            replace hG := hG.gr hxE (fun _ e => by cases e)
            replace hrv := hrv.ext hxE
            replace hb_g6 := hb_g6.ext hxE
            have hz_hxE := hxE.size
            rintro _ rfl
            show OpG _ _ _ _ _ _
            exact og_plain rfl (ox_val (ov_loadAt oc32 rfl hb_gb rfl))
          · intro wd hxE
            replace hb_gb := hb_gb.ext hxE
            replace hoi := Own.ext hoi hxE
            replace hx := RdI.ext hx hxE
            replace hG := hG.gr hxE (fun _ e => by cases e)
            replace hrv := hrv.ext hxE
            replace hb_g6 := hb_g6.ext hxE
            have hz_hxE := hxE.size
            show OpG _ _ _ _ _ _
            exact og_plain rfl (ox_val (ov_field0 (off := 0) fo53_0 rfl))
          · intro wd hxE
            replace hb_gb := hb_gb.ext hxE
            replace hoi := Own.ext hoi hxE
            replace hx := RdI.ext hx hxE
            replace hG := hG.gr hxE (fun _ e => by cases e)
            replace hrv := hrv.ext hxE
            replace hb_g6 := hb_g6.ext hxE
            have hz_hxE := hxE.size
            rintro _ rfl
            show OpG _ _ _ _ _ _
            exact og_plain rfl (ox_val (ov_loadAt oc50 rfl hb_g6 rfl))
          · intro wd hxE
            replace hb_gb := hb_gb.ext hxE
            replace hoi := Own.ext hoi hxE
            replace hx := RdI.ext hx hxE
            replace hG := hG.gr hxE (fun _ e => by cases e)
            replace hrv := hrv.ext hxE
            replace hb_g6 := hb_g6.ext hxE
            have hz_hxE := hxE.size
            rintro _ rfl
            show OpG _ _ _ _ _ _
            exact og_plain rfl (ox_spell (by rw [Int.toNat_of_nonneg (by omega)]) (ov_conv Try.underlying50 Try.underlying25 rfl (wu64 (by omega) (by omega))))
          · intro wd hxE
            replace hb_gb := hb_gb.ext hxE
            replace hoi := Own.ext hoi hxE
            replace hx := RdI.ext hx hxE
            replace hG := hG.gr hxE (fun _ e => by cases e)
            replace hrv := hrv.ext hxE
            replace hb_g6 := hb_g6.ext hxE
            have hz_hxE := hxE.size
            rintro _ rfl
            rintro _ rfl
            show OpG _ _ _ _ _ _
            refine og_plain rfl (OpRun.mono (or_call0 cl29 rfl rfl (put_any _ _ _ _ _ (out ++ (r.items.take i).flatMap wI) (x.1.mark.toNat) (OwnB.rd hoi) (by omega) (by omega))) ?_)
            rintro v w203 ⟨A37, c37, rfl, ho37, he37⟩
            replace hb_gb := hb_gb.ext he37
            replace hoi := Own.ext hoi he37
            replace hx := RdI.ext hx he37
            replace hG := hG.gr he37 (fun _ e => by cases e)
            replace hrv := hrv.ext he37
            replace hb_g6 := hb_g6.ext he37
            have hz_he37 := he37.size
            have hq_ho37 := fun g e => Own.lt ho37 (g := g) e
            exact ⟨⟨A37, c37, rfl, Own.mono ho37 (by omega)⟩, he37⟩
          · intro wf6 hf6
            replace hb_gb := hb_gb.ext hf6
            replace hoi := Own.ext hoi hf6
            replace hx := RdI.ext hx hf6
            replace hG := hG.gr hf6 (fun _ e => by cases e)
            replace hrv := hrv.ext hf6
            replace hb_g6 := hb_g6.ext hf6
            have hz_hf6 := hf6.size
            rintro _ rfl
            rintro _ rfl
            rintro _ rfl
            rintro _ rfl
            rintro _ rfl
            rintro _ rfl
            rintro _ rfl
            rintro _ ⟨A37, c37, rfl, ho37⟩
            have hq_ho37 := fun g e => Own.lt ho37 (g := g) e
            show WL _ _ _ [_, _] _ _ _
            have hem := enc_len x.1.mark.toNat
            have hl37 : ((out ++ (r.items.take i).flatMap wI) ++ enc x.1.mark.toNat).length = (out ++ (r.items.take i).flatMap wI).length + (enc x.1.mark.toNat).length := List.length_append
            refine vn rfl rfl ?_
            refine wl_step0 (or_storeAt (cs' := [(.slice A37 ((out ++ (r.items.take i).flatMap wI) ++ enc (x.1.mark.toNat)).length c37)]) sz32 rfl rfl rfl hb_gb rfl rfl) rfl rfl ?_
            rintro _ w203 ⟨hN203, hg203⟩
            have hz_hg203 := hg203.size
            replace hoi := Own.gr hoi hg203 (by first | exact .inl rfl | (right; intro e; first | (have := hq_hoi _ e; omega) | (have := Own.lt hoi e; omega) | exact own_blk_ne hoi hb_gb (by decide) e))
            replace hx := RdI.gr hx hg203 (fun _ e => by cases e; omega)
            replace hG := hG.gr hg203 (fun _ e => by first | exact .inl e | (cases e; right; omega))
            replace hrv := hrv.gr hg203 (fun _ e => by cases e; omega)
            replace hb_g6 := hb_g6.gr hg203 (by intro e; cases e; omega)
            replace ho37 := Own.gr ho37 hg203 (by first | exact .inl rfl | (right; intro e; first | (have := hq_ho37 _ e; omega) | (have := Own.lt ho37 e; omega) | exact own_blk_ne ho37 hb_gb (by decide) e))
            replace hb_gb := hN203
            refine q_nil (k_then (wc_seq (wc_regionL ?_)))
            refine wl_val (ov_field0 (off := 0) fo53_0 rfl) rfl rfl rfl ?_
            refine wl_val (ov_loadAt oc50 rfl hb_g6 rfl) rfl rfl rfl ?_
            refine wl_val (ov_neq rfl rfl) rfl rfl rfl ?_
            refine q_nil (k_then ?_)
            refine wc_cond_d rfl (fun hc3 => ?_) (fun hc3 => ?_)
            · have hm0 : ¬ x.1.mark = 0 := by omega
              have hev := enc_len x.1.ver
              have hed := enc_len x.1.dead
              have hel := enc_len x.1.value.length
              have hl48 : ((out ++ (r.items.take i).flatMap wI) ++ enc x.1.mark.toNat ++ enc x.1.ver).length = ((out ++ (r.items.take i).flatMap wI) ++ enc x.1.mark.toNat).length + (enc x.1.ver).length := List.length_append
              have hl51 : ((out ++ (r.items.take i).flatMap wI) ++ enc x.1.mark.toNat ++ enc x.1.ver ++ enc x.1.dead).length = ((out ++ (r.items.take i).flatMap wI) ++ enc x.1.mark.toNat ++ enc x.1.ver).length + (enc x.1.dead).length := List.length_append
              refine wc_draw mixed 13 [(42, eqv (.pointer (some ⟨gb, 0, none⟩))), (43, eqv (.pointer (some ⟨gb, 0, none⟩))), (44, eqv (.pointer (some ⟨gb, 0, none⟩))), (45, eqv (.slice A37 ((out ++ (r.items.take i).flatMap wI) ++ enc (x.1.mark.toNat)).length c37)), (46, eqv (.pointer (some ⟨g6, 2, none⟩))), (47, eqv (.int .u64 (↑x.1.ver : Int))), (48, isOwnB w203.heap.size 5 (((out ++ (r.items.take i).flatMap wI) ++ enc (x.1.mark.toNat)) ++ enc (x.1.ver))), (49, eqv (.pointer (some ⟨g6, 3, none⟩))), (50, eqv (.int .u64 (↑x.1.dead : Int))), (51, isOwnB w203.heap.size 5 ((((out ++ (r.items.take i).flatMap wI) ++ enc (x.1.mark.toNat)) ++ enc (x.1.ver)) ++ enc (x.1.dead))), (52, eqv (.pointer (some ⟨g6, 1, none⟩))), (53, eqv (.slice x.2.1 x.1.value.length x.2.2)), (54, isOwnB w203.heap.size 5 (((((out ++ (r.items.take i).flatMap wI) ++ enc (x.1.mark.toNat)) ++ enc (x.1.ver)) ++ enc (x.1.dead)) ++ enc x.1.value.length ++ x.1.value))] [[], [], [1], [2], [], [4], [3, 5], [], [7], [6, 8], [], [10], [9, 11]] _ [] [] (fun _ _ h => h) trivial (by kernel_rfl) rfl ⟨⟨stb_eqv _, fun _ he => by cases he⟩, ⟨stb_eqv _, fun _ he => by cases he⟩, ⟨stb_eqv _, fun _ he => by cases he⟩, ⟨stb_eqv _, fun _ he => by cases he⟩, ⟨stb_eqv _, fun _ he => by cases he⟩, ⟨stb_eqv _, fun _ he => by cases he⟩, ⟨stb_isOwnB _ _ _, fun _ he => by cases he⟩, ⟨stb_eqv _, fun _ he => by cases he⟩, ⟨stb_eqv _, fun _ he => by cases he⟩, ⟨stb_isOwnB _ _ _, fun _ he => by cases he⟩, ⟨stb_eqv _, fun _ he => by cases he⟩, ⟨stb_eqv _, fun _ he => by cases he⟩, ⟨stb_isOwnB _ _ _, fun _ he => by cases he⟩, trivial⟩ ⟨?_, ?_, ?_, ?_, ?_, ?_, ?_, ?_, ?_, ?_, ?_, ?_, ?_, trivial⟩ ?_
              · intro wd hxE
                replace hb_gb := hb_gb.ext hxE
                replace hoi := Own.ext hoi hxE
                replace hx := RdI.ext hx hxE
                replace hG := hG.gr hxE (fun _ e => by cases e)
                replace hrv := hrv.ext hxE
                replace hb_g6 := hb_g6.ext hxE
                replace ho37 := Own.ext ho37 hxE
                have hz_hxE := hxE.size
                show OpG _ _ _ _ _ _
                exact og_plain rfl (ox_val (ov_move rfl))
              · intro wd hxE
                replace hb_gb := hb_gb.ext hxE
                replace hoi := Own.ext hoi hxE
                replace hx := RdI.ext hx hxE
                replace hG := hG.gr hxE (fun _ e => by cases e)
                replace hrv := hrv.ext hxE
                replace hb_g6 := hb_g6.ext hxE
                replace ho37 := Own.ext ho37 hxE
                have hz_hxE := hxE.size
                show OpG _ _ _ _ _ _
                exact og_plain rfl (ox_val (ov_move rfl))
              · intro wd hxE
                replace hb_gb := hb_gb.ext hxE
                replace hoi := Own.ext hoi hxE
                replace hx := RdI.ext hx hxE
                replace hG := hG.gr hxE (fun _ e => by cases e)
                replace hrv := hrv.ext hxE
                replace hb_g6 := hb_g6.ext hxE
                replace ho37 := Own.ext ho37 hxE
                have hz_hxE := hxE.size
                rintro _ rfl
                show OpG _ _ _ _ _ _
                exact og_plain rfl (ox_val (ov_nilCheck rfl))
              · intro wd hxE
                replace hb_gb := hb_gb.ext hxE
                replace hoi := Own.ext hoi hxE
                replace hx := RdI.ext hx hxE
                replace hG := hG.gr hxE (fun _ e => by cases e)
                replace hrv := hrv.ext hxE
                replace hb_g6 := hb_g6.ext hxE
                replace ho37 := Own.ext ho37 hxE
                have hz_hxE := hxE.size
                rintro _ rfl
                show OpG _ _ _ _ _ _
                exact og_plain rfl (ox_val (ov_loadAt oc32 rfl hb_gb rfl))
              · intro wd hxE
                replace hb_gb := hb_gb.ext hxE
                replace hoi := Own.ext hoi hxE
                replace hx := RdI.ext hx hxE
                replace hG := hG.gr hxE (fun _ e => by cases e)
                replace hrv := hrv.ext hxE
                replace hb_g6 := hb_g6.ext hxE
                replace ho37 := Own.ext ho37 hxE
                have hz_hxE := hxE.size
                show OpG _ _ _ _ _ _
                exact og_plain rfl (ox_val (ov_field0 (off := 2) fo53_2 rfl))
              · intro wd hxE
                replace hb_gb := hb_gb.ext hxE
                replace hoi := Own.ext hoi hxE
                replace hx := RdI.ext hx hxE
                replace hG := hG.gr hxE (fun _ e => by cases e)
                replace hrv := hrv.ext hxE
                replace hb_g6 := hb_g6.ext hxE
                replace ho37 := Own.ext ho37 hxE
                have hz_hxE := hxE.size
                rintro _ rfl
                show OpG _ _ _ _ _ _
                exact og_plain rfl (ox_val (ov_loadAt oc25 rfl hb_g6 rfl))
              · intro wd hxE
                replace hb_gb := hb_gb.ext hxE
                replace hoi := Own.ext hoi hxE
                replace hx := RdI.ext hx hxE
                replace hG := hG.gr hxE (fun _ e => by cases e)
                replace hrv := hrv.ext hxE
                replace hb_g6 := hb_g6.ext hxE
                replace ho37 := Own.ext ho37 hxE
                have hz_hxE := hxE.size
                rintro _ rfl
                rintro _ rfl
                show OpG _ _ _ _ _ _
                refine og_plain rfl (OpRun.mono (or_call0 cl29 rfl rfl (put_any _ _ _ _ _ ((out ++ (r.items.take i).flatMap wI) ++ enc (x.1.mark.toNat)) (x.1.ver) (OwnB.rd ho37) (by omega) (by omega))) ?_)
                rintro v w204 ⟨A48, c48, rfl, ho48, he48⟩
                replace hb_gb := hb_gb.ext he48
                replace hoi := Own.ext hoi he48
                replace hx := RdI.ext hx he48
                replace hG := hG.gr he48 (fun _ e => by cases e)
                replace hrv := hrv.ext he48
                replace hb_g6 := hb_g6.ext he48
                replace ho37 := Own.ext ho37 he48
                have hz_he48 := he48.size
                have hq_ho48 := fun g e => Own.lt ho48 (g := g) e
                exact ⟨⟨A48, c48, rfl, Own.mono ho48 (by omega)⟩, he48⟩
              · intro wd hxE
                replace hb_gb := hb_gb.ext hxE
                replace hoi := Own.ext hoi hxE
                replace hx := RdI.ext hx hxE
                replace hG := hG.gr hxE (fun _ e => by cases e)
                replace hrv := hrv.ext hxE
                replace hb_g6 := hb_g6.ext hxE
                replace ho37 := Own.ext ho37 hxE
                have hz_hxE := hxE.size
                show OpG _ _ _ _ _ _
                exact og_plain rfl (ox_val (ov_field0 (off := 3) fo53_3 rfl))
              · intro wd hxE
                replace hb_gb := hb_gb.ext hxE
                replace hoi := Own.ext hoi hxE
                replace hx := RdI.ext hx hxE
                replace hG := hG.gr hxE (fun _ e => by cases e)
                replace hrv := hrv.ext hxE
                replace hb_g6 := hb_g6.ext hxE
                replace ho37 := Own.ext ho37 hxE
                have hz_hxE := hxE.size
                rintro _ rfl
                show OpG _ _ _ _ _ _
                exact og_plain rfl (ox_val (ov_loadAt oc51 rfl hb_g6 rfl))
              · intro wd hxE
                replace hb_gb := hb_gb.ext hxE
                replace hoi := Own.ext hoi hxE
                replace hx := RdI.ext hx hxE
                replace hG := hG.gr hxE (fun _ e => by cases e)
                replace hrv := hrv.ext hxE
                replace hb_g6 := hb_g6.ext hxE
                replace ho37 := Own.ext ho37 hxE
                have hz_hxE := hxE.size
                rintro _ ⟨A48, c48, rfl, ho48⟩
                rintro _ rfl
                show OpG _ _ _ _ _ _
                refine og_plain rfl (OpRun.mono (or_call0 cl29 rfl rfl (put_any _ _ _ _ _ (((out ++ (r.items.take i).flatMap wI) ++ enc (x.1.mark.toNat)) ++ enc (x.1.ver)) (x.1.dead) (OwnB.rd ho48) (by omega) (by omega))) ?_)
                rintro v w204 ⟨A51, c51, rfl, ho51, he51⟩
                replace hb_gb := hb_gb.ext he51
                replace hoi := Own.ext hoi he51
                replace hx := RdI.ext hx he51
                replace hG := hG.gr he51 (fun _ e => by cases e)
                replace hrv := hrv.ext he51
                replace hb_g6 := hb_g6.ext he51
                replace ho37 := Own.ext ho37 he51
                replace ho48 := Own.ext ho48 he51
                have hz_he51 := he51.size
                have hq_ho51 := fun g e => Own.lt ho51 (g := g) e
                exact ⟨⟨A51, c51, rfl, Own.mono ho51 (by omega)⟩, he51⟩
              · intro wd hxE
                replace hb_gb := hb_gb.ext hxE
                replace hoi := Own.ext hoi hxE
                replace hx := RdI.ext hx hxE
                replace hG := hG.gr hxE (fun _ e => by cases e)
                replace hrv := hrv.ext hxE
                replace hb_g6 := hb_g6.ext hxE
                replace ho37 := Own.ext ho37 hxE
                have hz_hxE := hxE.size
                show OpG _ _ _ _ _ _
                exact og_plain rfl (ox_val (ov_field0 (off := 1) fo53_1 rfl))
              · intro wd hxE
                replace hb_gb := hb_gb.ext hxE
                replace hoi := Own.ext hoi hxE
                replace hx := RdI.ext hx hxE
                replace hG := hG.gr hxE (fun _ e => by cases e)
                replace hrv := hrv.ext hxE
                replace hb_g6 := hb_g6.ext hxE
                replace ho37 := Own.ext ho37 hxE
                have hz_hxE := hxE.size
                rintro _ rfl
                show OpG _ _ _ _ _ _
                exact og_plain rfl (ox_val (ov_loadAt oc32 rfl hb_g6 rfl))
              · intro wd hxE
                replace hb_gb := hb_gb.ext hxE
                replace hoi := Own.ext hoi hxE
                replace hx := RdI.ext hx hxE
                replace hG := hG.gr hxE (fun _ e => by cases e)
                replace hrv := hrv.ext hxE
                replace hb_g6 := hb_g6.ext hxE
                replace ho37 := Own.ext ho37 hxE
                have hz_hxE := hxE.size
                rintro _ ⟨A51, c51, rfl, ho51⟩
                rintro _ rfl
                show OpG _ _ _ _ _ _
                refine og_plain rfl (OpRun.mono (or_call0 cl69 rfl rfl (putbytes_any _ _ _ _ _ _ _ ((((out ++ (r.items.take i).flatMap wI) ++ enc (x.1.mark.toNat)) ++ enc (x.1.ver)) ++ enc (x.1.dead)) _ _ x.1.value (OwnB.rd ho51) hrv (by omega))) ?_)
                rintro v w204 ⟨A54, c54, rfl, ho54, he54⟩
                replace hb_gb := hb_gb.ext he54
                replace hoi := Own.ext hoi he54
                replace hx := RdI.ext hx he54
                replace hG := hG.gr he54 (fun _ e => by cases e)
                replace hrv := hrv.ext he54
                replace hb_g6 := hb_g6.ext he54
                replace ho37 := Own.ext ho37 he54
                replace ho51 := Own.ext ho51 he54
                have hz_he54 := he54.size
                have hq_ho54 := fun g e => Own.lt ho54 (g := g) e
                exact ⟨⟨A54, c54, rfl, Own.mono ho54 (by omega)⟩, he54⟩
              · intro wf8 hf8
                replace hb_gb := hb_gb.ext hf8
                replace hoi := Own.ext hoi hf8
                replace hx := RdI.ext hx hf8
                replace hG := hG.gr hf8 (fun _ e => by cases e)
                replace hrv := hrv.ext hf8
                replace hb_g6 := hb_g6.ext hf8
                replace ho37 := Own.ext ho37 hf8
                have hz_hf8 := hf8.size
                rintro _ rfl
                rintro _ rfl
                rintro _ rfl
                rintro _ rfl
                rintro _ rfl
                rintro _ rfl
                rintro _ ⟨A48, c48, rfl, ho48⟩
                rintro _ rfl
                rintro _ rfl
                rintro _ ⟨A51, c51, rfl, ho51⟩
                rintro _ rfl
                rintro _ rfl
                rintro _ ⟨A54, c54, rfl, ho54⟩
                have hq_ho54 := fun g e => Own.lt ho54 (g := g) e
                show WL _ _ _ [_, _] _ _ _
                refine vn rfl rfl ?_
                refine wl_step0 (or_storeAt (cs' := [(.slice A54 (((((out ++ (r.items.take i).flatMap wI) ++ enc (x.1.mark.toNat)) ++ enc (x.1.ver)) ++ enc (x.1.dead)) ++ enc x.1.value.length ++ x.1.value).length c54)]) sz32 rfl rfl rfl hb_gb rfl rfl) rfl rfl ?_
                rintro _ w204 ⟨hN204, hg204⟩
                have hz_hg204 := hg204.size
                replace hoi := Own.gr hoi hg204 (by first | exact .inl rfl | (right; intro e; first | (have := hq_hoi _ e; omega) | (have := Own.lt hoi e; omega) | exact own_blk_ne hoi hb_gb (by decide) e))
                replace hx := RdI.gr hx hg204 (fun _ e => by cases e; omega)
                replace hG := hG.gr hg204 (fun _ e => by first | exact .inl e | (cases e; right; omega))
                replace hrv := hrv.gr hg204 (fun _ e => by cases e; omega)
                replace hb_g6 := hb_g6.gr hg204 (by intro e; cases e; omega)
                replace ho37 := Own.gr ho37 hg204 (by first | exact .inl rfl | (right; intro e; first | (have := hq_ho37 _ e; omega) | (have := Own.lt ho37 e; omega) | exact own_blk_ne ho37 hb_gb (by decide) e))
                replace ho54 := Own.gr ho54 hg204 (by first | exact .inl rfl | (right; intro e; first | (have := hq_ho54 _ e; omega) | (have := Own.lt ho54 e; omega) | exact own_blk_ne ho54 hb_gb (by decide) e))
                replace hb_gb := hN204
                refine q_nil (k_block (k_then (wc_regionL ?_)))
                refine wl_val (ov_add rfl rfl (wi64 (by omega) (by omega))) rfl rfl rfl ?_
                refine vm rfl rfl ?_
                refine q_nil ?_
                refine k_loop ((i + 1, A54, c54)) (by show xs.length - (i + 1) < xs.length - i; omega) (⟨rfl, rfl, rfl, rfl, trivial⟩) (⟨by show i + 1 ≤ _; omega, by rw [okI_take hki, hal, hok]; rfl, by show Blk _ _ _ [.slice _ (out ++ (r.items.take (i + 1)).flatMap wI).length _]; rw [wI_take hki, ← List.append_assoc, wI_full hm0]; exact hb_gb, by show OwnB _ _ _ _ _ (out ++ (r.items.take (i + 1)).flatMap wI); rw [wI_take hki, ← List.append_assoc, wI_full hm0]; exact Own.mono ho54 (by omega), hx, hG⟩)
            · have hm0 : x.1.mark = 0 := by omega
              refine q_skip (k_block (k_then (wc_regionL ?_)))
              refine wl_val (ov_add rfl rfl (wi64 (by omega) (by omega))) rfl rfl rfl ?_
              refine vm rfl rfl ?_
              refine q_nil ?_
              refine k_loop ((i + 1, A37, c37)) (by show xs.length - (i + 1) < xs.length - i; omega) (⟨rfl, rfl, rfl, rfl, trivial⟩) (⟨by show i + 1 ≤ _; omega, by rw [okI_take hki, hal, hok]; rfl, by show Blk _ _ _ [.slice _ (out ++ (r.items.take (i + 1)).flatMap wI).length _]; rw [wI_take hki, ← List.append_assoc, wI_zero hm0]; exact hb_gb, by show OwnB _ _ _ _ _ (out ++ (r.items.take (i + 1)).flatMap wI); rw [wI_take hki, ← List.append_assoc, wI_zero hm0]; exact Own.mono ho37 (by omega), hx, hG⟩)
  · have hix : r.items.take i = r.items := List.take_of_length_le (by omega)
    rw [hix] at hb_gb hoi hal
    refine q_exit (k_thenX (k_thenX (k_blockE (k_then (wc_seq (wc_regionL ?_))))))
    refine va rfl rfl ?_
    refine q_nil (k_then (q_ret ?_))
    refine e_ret rfl rfl ?_
    first
      | (refine ⟨?_, ⟨Ai, ci, _, hb_gb, hoi, fun h => ?_⟩, hG⟩ <;> have hf : r.items.all okI = false := List.all_eq_false.2 ⟨x.1, hxm, by rw [hok]; decide⟩
         · show Value.bool false = .bool (r.items.all okI)
           rw [hf]
         · have h2 : r.items.all okI = true := h
           rw [hf] at h2; cases h2)
      | exact ⟨by show Value.bool true = .bool (r.items.all okI); rw [hal], ⟨Ai, ci, _, hb_gb, hoi, fun _ => rfl⟩, hG⟩

end Go.Proofs.Ytohnkjjjejnkpaa
