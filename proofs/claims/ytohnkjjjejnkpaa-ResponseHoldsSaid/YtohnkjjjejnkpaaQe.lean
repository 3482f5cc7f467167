/-
  The reading of values, lifetimes and lists.
-/
import Derived.Test.YtohnkjjjejnkpaaQd
namespace Go.Proofs.Ytohnkjjjejnkpaa
open Go.RowKit
set_option linter.unusedVariables false
set_option maxRecDepth 4000
theorem sz56 : (Try.prog.info? 56).map (·.size) = some 1 := by kernel_rfl

theorem valuer (w : World) (gx gc gr lo hi : Nat) (A : Option Addr) (c : Nat) (l : List UInt8) (bad : Bool) (hb_gx : Blk w gx 92 [.pointer (some ⟨gc, 0, none⟩), .pointer (some ⟨gr, 0, none⟩), .slice none 0 0, .bool bad]) (hb_gr : Blk w gr 101 [.bool true, .slice A l.length c]) (hr : RdB w lo hi A c l) (hgx : gx ≠ gr) (hxo : gx < lo ∨ hi ≤ gx) (hro : gr < lo ∨ hi ≤ gr) (hlen : l.length ≤ 140737488355328) (v0 v1 v2 v4 v5 v6 v7 v8 v9 : Value) (hb_gc : Blk w gc 58 [v0, v1, v2, .slice none 0 0, v4, v5, v6, v7, v8, v9]) (hcx : gc ≠ gx) (hcr : gc ≠ gr) (hco : gc < lo ∨ hi ≤ gc) (hhi : hi ≤ w.heap.size) :
    Fn Try.prog 55 #[(.pointer (some ⟨gx, 0, none⟩))] w (fun v w' => v = .tuple #[] ∧ Blk w' gx 92 [.pointer (some ⟨gc, 0, none⟩), .pointer (some ⟨gr, 0, none⟩), .slice none 0 0, .bool (bad || partB vv l)] ∧ RdrAt w' gr lo hi (partR l) ∧ (∃ V cv, Blk w' gc 58 [v0, v1, v2, .slice V (partV l).length cv, v4, v5, v6, v7, v8, v9] ∧ RdB w' w.heap.size w'.heap.size V cv (partV l)) ∧ Kp [gx, gr, gc] w w')  := by
  have hK := Kp.refl [gx, gr, gc] w
  have hgxl := hb_gx.lt
  have hgrl := hb_gr.lt
  have hgcl := hb_gc.lt
  obtain ⟨B0, hB0⟩ : ∃ n, n = w.heap.size := ⟨_, rfl⟩
  refine fn_enter (args := [(.pointer (some ⟨gx, 0, none⟩))]) Try.func55 rfl rfl rfl ?_
  show WC _ _ _ _ [(0, (.pointer (some ⟨gx, 0, none⟩)))] _
  refine wc_seq (wc_regionL ?_)
  refine vm rfl rfl ?_
  refine vn rfl rfl ?_
  refine wl_val (ov_field0 (off := 0) fo92_0 rfl) rfl rfl rfl ?_
  refine wl_val (ov_loadAt oc90 rfl hb_gx rfl) rfl rfl rfl ?_
  refine vn rfl rfl ?_
  refine wl_val (ov_field0 (off := 3) fo58_3 rfl) rfl rfl rfl ?_
  refine wl_val (ov_loadAt oc32 rfl hb_gc rfl) rfl rfl rfl ?_
  refine wl_val (ov_bstr bt32 Try.underlying9 rfl (RdB.nil _ 0 0)) rfl rfl rfl ?_
  refine wl_step (or_alloc (cs := [(.string (strB []))]) ze9 rfl) rfl rfl rfl ?_
  rintro v w1 ⟨g2, rfl, hb_g2, he2, hl2, hu2⟩
  replace hb_gx := hb_gx.ext he2
  replace hb_gr := hb_gr.ext he2
  replace hr := hr.ext he2
  replace hK := Kp.te hK he2
  replace hb_gc := hb_gc.ext he2
  have hz_he2 := he2.size
  refine wl_step0 (or_storeAt (cs' := [(.string (strB []))]) sz9 rfl rfl rfl hb_g2 rfl rfl) rfl rfl ?_
  rintro _ w2 ⟨hN2, hg2⟩
  have hz_hg2 := hg2.size
  replace hb_gx := hb_gx.gr hg2 (by intro e; cases e; omega)
  replace hb_gr := hb_gr.gr hg2 (by intro e; cases e; omega)
  replace hr := hr.gr hg2 (fun _ e => by cases e; omega)
  replace hK := Kp.tg hK hg2 (by first | (left; simp; done) | (right; omega))
  replace hb_gc := hb_gc.gr hg2 (by intro e; cases e; omega)
  replace hb_g2 := hN2
  refine q_nil (k_then (wc_seq (wc_regionL ?_)))
  refine vm rfl rfl ?_
  refine wl_step (or_call0 cl53 rfl rfl (partr _ gx gc gr _ _ A c l bad hb_gx hb_gr hr (by omega) (by omega) (by omega) (by omega) g2 0 _ _ hb_g2 (Nat.le_of_ble_eq_true rfl) (by omega) (by omega) (by omega) vv 78 cl78 vv_any)) rfl rfl rfl ?_
  rintro v w3 ⟨rfl, hN12, ⟨A12, c12, hQ12, hr12⟩, hT12, hK12⟩
  have hz_hK12 := hK12.size
  replace hK := Kp.tr hK hK12 (by intro x hx; simp only [List.mem_cons, List.not_mem_nil, or_false] at hx ⊢; omega)
  replace hb_gc := hK12.bk hb_gc (by intro hg; simp at hg; omega)
  replace hb_gx := hN12
  replace hb_gr := hQ12
  replace hb_g2 : Blk _ g2 _ [(.string (strB (partV l)))] := hT12
  have hlr12 := partR_len l
  have hlv12 := partV_len l
  refine q_nil (k_then (wc_seq (wc_regionL ?_)))
  refine vm rfl rfl ?_
  refine vn rfl rfl ?_
  refine wl_val (ov_field0 (off := 1) fo92_1 rfl) rfl rfl rfl ?_
  refine wl_val (ov_loadAt oc83 rfl hb_gx rfl) rfl rfl rfl ?_
  refine wl_val (ov_nnilptr Try.underlying83 rfl) rfl rfl rfl ?_
  refine vm rfl rfl ?_
  refine wl_gval (ov_loadAt oc9 rfl hb_g2 rfl) rfl rfl rfl rfl rfl ?_
  refine wl_gval (ov_slen Try.underlying9 rfl) rfl rfl rfl rfl rfl ?_
  refine wl_gval (ov_gtr rfl rfl) rfl rfl rfl rfl rfl ?_
  refine wl_val (ov_pick_t rfl rfl) rfl rfl rfl ?_
  refine q_nil (k_then ?_)
  refine wc_cond_d rfl (fun hc1 => ?_) (fun hc1 => ?_)
  · refine wc_draw mixed 6 [(23, eqv (.pointer (some ⟨gx, 0, none⟩))), (24, eqv (.pointer (some ⟨gx, 0, none⟩))), (25, eqv (.pointer (some ⟨gx, 0, none⟩))), (26, eqv (.pointer (some ⟨gc, 0, none⟩))), (27, eqv (.string (strB (partV l)))), (28, (fun v w => ∃ A c, v = .slice A (partV l).length c ∧ RdB w B0 w.heap.size A c (partV l)))] [[], [0], [1], [2], [], [4]] _ [] [] (fun _ _ h => h) trivial (by kernel_rfl) rfl ⟨⟨stb_eqv _, fun _ he => by cases he⟩, ⟨stb_eqv _, fun _ he => by cases he⟩, ⟨stb_eqv _, fun _ he => by cases he⟩, ⟨stb_eqv _, fun _ he => by cases he⟩, ⟨stb_eqv _, fun _ he => by cases he⟩, ⟨(fun v w1 w2 ⟨A, c, hv, ho⟩ he => ⟨A, c, hv, (Rd.ext ho he).mono (Nat.le_refl _) he.size⟩), fun _ he => by cases he⟩, trivial⟩ ⟨?_, ?_, ?_, ?_, ?_, ?_, trivial⟩ ?_
    · intro wd hxE
      replace hK := Kp.te hK hxE
      replace hb_gc := hb_gc.ext hxE
      replace hb_gx := hb_gx.ext hxE
      replace hb_gr := hb_gr.ext hxE
      replace hr12 := hr12.ext hxE
      replace hb_g2 := hb_g2.ext hxE
      have hz_hxE := hxE.size
      show OpG _ _ _ _ _ _
      exact og_plain rfl (ox_val (ov_move rfl))
    · intro wd hxE
      replace hK := Kp.te hK hxE
      replace hb_gc := hb_gc.ext hxE
      replace hb_gx := hb_gx.ext hxE
      replace hb_gr := hb_gr.ext hxE
      replace hr12 := hr12.ext hxE
      replace hb_g2 := hb_g2.ext hxE
      have hz_hxE := hxE.size
      rintro _ rfl
      show OpG _ _ _ _ _ _
      exact og_plain rfl (ox_val (ov_nilCheck rfl))
    · intro wd hxE
      replace hK := Kp.te hK hxE
      replace hb_gc := hb_gc.ext hxE
      replace hb_gx := hb_gx.ext hxE
      replace hb_gr := hb_gr.ext hxE
      replace hr12 := hr12.ext hxE
      replace hb_g2 := hb_g2.ext hxE
      have hz_hxE := hxE.size
      rintro _ rfl
      show OpG _ _ _ _ _ _
      exact og_plain rfl (ox_val (ov_field0 (off := 0) fo92_0 rfl))
    · intro wd hxE
      replace hK := Kp.te hK hxE
      replace hb_gc := hb_gc.ext hxE
      replace hb_gx := hb_gx.ext hxE
      replace hb_gr := hb_gr.ext hxE
      replace hr12 := hr12.ext hxE
      replace hb_g2 := hb_g2.ext hxE
      have hz_hxE := hxE.size
      rintro _ rfl
      show OpG _ _ _ _ _ _
      exact og_plain rfl (ox_val (ov_loadAt oc90 rfl hb_gx rfl))
    · intro wd hxE
      replace hK := Kp.te hK hxE
      replace hb_gc := hb_gc.ext hxE
      replace hb_gx := hb_gx.ext hxE
      replace hb_gr := hb_gr.ext hxE
      replace hr12 := hr12.ext hxE
      replace hb_g2 := hb_g2.ext hxE
      have hz_hxE := hxE.size
      show OpG _ _ _ _ _ _
      exact og_plain rfl (ox_val (ov_loadAt oc9 rfl hb_g2 rfl))
    · intro wd hxE
      replace hK := Kp.te hK hxE
      replace hb_gc := hb_gc.ext hxE
      replace hb_gx := hb_gx.ext hxE
      replace hb_gr := hb_gr.ext hxE
      replace hr12 := hr12.ext hxE
      replace hb_g2 := hb_g2.ext hxE
      have hz_hxE := hxE.size
      rintro _ rfl
      show OpG _ _ _ _ _ _
      refine og_plain rfl (OpRun.mono (or_strBytes bt32 Try.underlying9 rfl (by simp only [maxLen]; omega)) ?_)
      rintro v w4 ⟨A28, c28, rfl, hr28, he28⟩
      replace hK := Kp.te hK he28
      replace hb_gc := hb_gc.ext he28
      replace hb_gx := hb_gx.ext he28
      replace hb_gr := hb_gr.ext he28
      replace hr12 := hr12.ext he28
      replace hb_g2 := hb_g2.ext he28
      have hz_he28 := he28.size
      exact ⟨⟨A28, c28, rfl, hr28.mono (by omega) (Nat.le_refl _)⟩, he28⟩
    · intro wf3 hf3
      replace hK := Kp.te hK hf3
      replace hb_gc := hb_gc.ext hf3
      replace hb_gx := hb_gx.ext hf3
      replace hb_gr := hb_gr.ext hf3
      replace hr12 := hr12.ext hf3
      replace hb_g2 := hb_g2.ext hf3
      have hz_hf3 := hf3.size
      rintro _ rfl
      rintro _ rfl
      rintro _ rfl
      rintro _ rfl
      rintro _ rfl
      rintro _ ⟨A28, c28, rfl, hr28⟩
      show WL _ _ _ [_, _, _] _ _ _
      refine vn rfl rfl ?_
      refine wl_val (ov_field0 (off := 3) fo58_3 rfl) rfl rfl rfl ?_
      refine wl_step0 (or_storeAt (cs' := [v0, v1, v2, (.slice A28 (partV l).length c28), v4, v5, v6, v7, v8, v9]) sz32 rfl rfl rfl hb_gc rfl rfl) rfl rfl ?_
      rintro _ w4 ⟨hN4, hg4⟩
      have hz_hg4 := hg4.size
      replace hK := Kp.tg hK hg4 (by first | (left; simp; done) | (right; omega))
      replace hb_gx := hb_gx.gr hg4 (by intro e; cases e; omega)
      replace hb_gr := hb_gr.gr hg4 (by intro e; cases e; omega)
      replace hr12 := hr12.gr hg4 (fun _ e => by cases e; omega)
      replace hb_g2 := hb_g2.gr hg4 (by intro e; cases e; omega)
      replace hr28 := hr28.gr hg4 (fun _ e => by cases e; omega)
      replace hb_gc := hN4
      refine q_nil ?_
      refine e_end0 rfl ?_
      exact ⟨rfl, hb_gx, ⟨_, _, hb_gr, hr12⟩, ⟨_, _, hb_gc, (Rd.top hr28).mono (by omega) (Nat.le_refl _)⟩, hK⟩
  · refine q_skip ?_
    refine e_end0 rfl ?_
    have ev : partV l = [] := List.eq_nil_of_length_eq_zero (by omega)
    rw [ev]
    exact ⟨rfl, hb_gx, ⟨_, _, hb_gr, hr12⟩, ⟨none, 0, hb_gc, RdB.nil _ _ _⟩, hK⟩

theorem lifer_t (w : World) (gx gc gr lo hi : Nat) (A : Option Addr) (c : Nat) (l : List UInt8) (bad : Bool) (hb_gx : Blk w gx 92 [.pointer (some ⟨gc, 0, none⟩), .pointer (some ⟨gr, 0, none⟩), .slice none 0 0, .bool bad]) (hb_gr : Blk w gr 101 [.bool true, .slice A l.length c]) (hr : RdB w lo hi A c l) (hgx : gx ≠ gr) (hxo : gx < lo ∨ hi ≤ gx) (hro : gr < lo ∨ hi ≤ gr) (hlen : l.length ≤ 140737488355328) (v0 v1 v2 v3 v4 v6 v7 v8 v9 : Value) (hb_gc : Blk w gc 58 [v0, v1, v2, v3, v4, .int .u64 0, v6, v7, v8, v9]) (hcx : gc ≠ gx) (hcr : gc ≠ gr) (hco : gc < lo ∨ hi ≤ gc) (hhi : hi ≤ w.heap.size) (hbn : (bad || numB l) = true) :
    Fn Try.prog 58 #[(.pointer (some ⟨gx, 0, none⟩))] w (fun v w' => v = .tuple #[] ∧ Blk w' gx 92 [.pointer (some ⟨gc, 0, none⟩), .pointer (some ⟨gr, 0, none⟩), .slice none 0 0, .bool true] ∧ RdrAt w' gr lo hi (numR l) ∧ Blk w' gc 58 [v0, v1, v2, v3, v4, .int .u64 (numV l : Int), v6, v7, v8, v9] ∧ Kp [gx, gr, gc] w w')  := by
  have hK := Kp.refl [gx, gr, gc] w
  have hgxl := hb_gx.lt
  have hgrl := hb_gr.lt
  have hgcl := hb_gc.lt
  refine fn_enter (args := [(.pointer (some ⟨gx, 0, none⟩))]) Try.func58 rfl rfl rfl ?_
  show WC _ _ _ _ [(0, (.pointer (some ⟨gx, 0, none⟩)))] _
  refine wc_seq (wc_regionL ?_)
  refine vm rfl rfl ?_
  refine vn rfl rfl ?_
  refine wl_val (ov_field0 (off := 0) fo92_0 rfl) rfl rfl rfl ?_
  refine wl_val (ov_loadAt oc90 rfl hb_gx rfl) rfl rfl rfl ?_
  refine vn rfl rfl ?_
  refine wl_val (ov_field0 (off := 5) fo58_5 rfl) rfl rfl rfl ?_
  refine wl_val (ov_loadAt oc51 rfl hb_gc rfl) rfl rfl rfl ?_
  refine wl_step (or_alloc (cs := [(.int .u64 0)]) ze25 rfl) rfl rfl rfl ?_
  rintro v w1 ⟨g2, rfl, hb_g2, he2, hl2, hu2⟩
  replace hb_gx := hb_gx.ext he2
  replace hb_gr := hb_gr.ext he2
  replace hr := hr.ext he2
  replace hK := Kp.te hK he2
  replace hb_gc := hb_gc.ext he2
  have hz_he2 := he2.size
  refine wl_step0 (or_storeAt (cs' := [(.int .u64 0)]) sz25 rfl rfl rfl hb_g2 rfl rfl) rfl rfl ?_
  rintro _ w2 ⟨hN2, hg2⟩
  have hz_hg2 := hg2.size
  replace hb_gx := hb_gx.gr hg2 (by intro e; cases e; omega)
  replace hb_gr := hb_gr.gr hg2 (by intro e; cases e; omega)
  replace hr := hr.gr hg2 (fun _ e => by cases e; omega)
  replace hK := Kp.tg hK hg2 (by first | (left; simp; done) | (right; omega))
  replace hb_gc := hb_gc.gr hg2 (by intro e; cases e; omega)
  replace hb_g2 := hN2
  refine q_nil (k_then (wc_seq (wc_regionL ?_)))
  refine vm rfl rfl ?_
  refine wl_step (or_call0 cl59 rfl rfl (numr _ gx gc gr _ _ A c l bad hb_gx hb_gr hr (by omega) (by omega) (by omega) (by omega) g2 0 _ _ hb_g2 (Nat.le_of_ble_eq_true rfl) (by omega) (by omega) (by omega))) rfl rfl rfl ?_
  rintro v w3 ⟨rfl, hN11, ⟨A11, c11, hQ11, hr11⟩, hT11, hK11⟩
  have hz_hK11 := hK11.size
  replace hK := Kp.tr hK hK11 (by intro x hx; simp only [List.mem_cons, List.not_mem_nil, or_false] at hx ⊢; omega)
  replace hb_gc := hK11.bk hb_gc (by intro hg; simp at hg; omega)
  replace hb_gx := hN11
  replace hb_gr := hQ11
  replace hb_g2 : Blk _ g2 _ [(.int .u64 (↑(numV l) : Int))] := hT11
  have hlr11 := numR_len l
  have hlv11 := numV_lt l
  refine q_nil (k_then (wc_seq ?_))
  refine wc_draw mixed 5 [(12, eqv (.pointer (some ⟨gx, 0, none⟩))), (13, eqv (.pointer (some ⟨gx, 0, none⟩))), (14, eqv (.pointer (some ⟨gx, 0, none⟩))), (15, eqv (.pointer (some ⟨gc, 0, none⟩))), (16, eqv (.int .u64 (↑(numV l) : Int)))] [[], [0], [1], [2], []] _ [] [] (fun _ _ h => h) trivial (by kernel_rfl) rfl ⟨⟨stb_eqv _, fun _ he => by cases he⟩, ⟨stb_eqv _, fun _ he => by cases he⟩, ⟨stb_eqv _, fun _ he => by cases he⟩, ⟨stb_eqv _, fun _ he => by cases he⟩, ⟨stb_eqv _, fun _ he => by cases he⟩, trivial⟩ ⟨?_, ?_, ?_, ?_, ?_, trivial⟩ ?_
  · intro wd hxE
    replace hK := Kp.te hK hxE
    replace hb_gc := hb_gc.ext hxE
    replace hb_gx := hb_gx.ext hxE
    replace hb_gr := hb_gr.ext hxE
    replace hr11 := hr11.ext hxE
    replace hb_g2 := hb_g2.ext hxE
    have hz_hxE := hxE.size
    show OpG _ _ _ _ _ _
    exact og_plain rfl (ox_val (ov_move rfl))
  · intro wd hxE
    replace hK := Kp.te hK hxE
    replace hb_gc := hb_gc.ext hxE
    replace hb_gx := hb_gx.ext hxE
    replace hb_gr := hb_gr.ext hxE
    replace hr11 := hr11.ext hxE
    replace hb_g2 := hb_g2.ext hxE
    have hz_hxE := hxE.size
    rintro _ rfl
    show OpG _ _ _ _ _ _
    exact og_plain rfl (ox_val (ov_nilCheck rfl))
  · intro wd hxE
    replace hK := Kp.te hK hxE
    replace hb_gc := hb_gc.ext hxE
    replace hb_gx := hb_gx.ext hxE
    replace hb_gr := hb_gr.ext hxE
    replace hr11 := hr11.ext hxE
    replace hb_g2 := hb_g2.ext hxE
    have hz_hxE := hxE.size
    rintro _ rfl
    show OpG _ _ _ _ _ _
    exact og_plain rfl (ox_val (ov_field0 (off := 0) fo92_0 rfl))
  · intro wd hxE
    replace hK := Kp.te hK hxE
    replace hb_gc := hb_gc.ext hxE
    replace hb_gx := hb_gx.ext hxE
    replace hb_gr := hb_gr.ext hxE
    replace hr11 := hr11.ext hxE
    replace hb_g2 := hb_g2.ext hxE
    have hz_hxE := hxE.size
    rintro _ rfl
    show OpG _ _ _ _ _ _
    exact og_plain rfl (ox_val (ov_loadAt oc90 rfl hb_gx rfl))
  · intro wd hxE
    replace hK := Kp.te hK hxE
    replace hb_gc := hb_gc.ext hxE
    replace hb_gx := hb_gx.ext hxE
    replace hb_gr := hb_gr.ext hxE
    replace hr11 := hr11.ext hxE
    replace hb_g2 := hb_g2.ext hxE
    have hz_hxE := hxE.size
    show OpG _ _ _ _ _ _
    exact og_plain rfl (ox_val (ov_loadAt oc25 rfl hb_g2 rfl))
  · intro wf2 hf2
    replace hK := Kp.te hK hf2
    replace hb_gc := hb_gc.ext hf2
    replace hb_gx := hb_gx.ext hf2
    replace hb_gr := hb_gr.ext hf2
    replace hr11 := hr11.ext hf2
    replace hb_g2 := hb_g2.ext hf2
    have hz_hf2 := hf2.size
    rintro _ rfl
    rintro _ rfl
    rintro _ rfl
    rintro _ rfl
    rintro _ rfl
    show WL _ _ _ [_, _, _] _ _ _
    refine vn rfl rfl ?_
    refine wl_val (ov_field0 (off := 5) fo58_5 rfl) rfl rfl rfl ?_
    refine wl_step0 (or_storeAt (cs' := [v0, v1, v2, v3, v4, (.int .u64 (↑(numV l) : Int)), v6, v7, v8, v9]) sz51 rfl rfl rfl hb_gc rfl rfl) rfl rfl ?_
    rintro _ w4 ⟨hN4, hg4⟩
    have hz_hg4 := hg4.size
    replace hK := Kp.tg hK hg4 (by first | (left; simp; done) | (right; omega))
    replace hb_gx := hb_gx.gr hg4 (by intro e; cases e; omega)
    replace hb_gr := hb_gr.gr hg4 (by intro e; cases e; omega)
    replace hr11 := hr11.gr hg4 (fun _ e => by cases e; omega)
    replace hb_g2 := hb_g2.gr hg4 (by intro e; cases e; omega)
    replace hb_gc := hN4
    refine q_nil (k_then (wc_regionL ?_))
    iterate 2 refine vm rfl rfl ?_
    refine vn rfl rfl ?_
    refine wl_val (ov_field0 (off := 3) fo92_3 rfl) rfl rfl rfl ?_
    refine wl_val (ov_loadAt oc4 rfl hb_gx rfl) rfl rfl rfl ?_
    refine wl_spell (d := 23) rfl (v' := (.bool true)) (by rw [hbn]) ?_
    refine vm rfl rfl ?_
    iterate 2 refine wl_gskip rfl rfl rfl rfl rfl rfl ?_
    refine wl_val (ov_pick_t rfl rfl) rfl rfl rfl ?_
    refine vn rfl rfl ?_
    refine wl_val (ov_field0 (off := 3) fo92_3 rfl) rfl rfl rfl ?_
    refine wl_step0 (or_storeAt (cs' := [(.pointer (some ⟨gc, 0, none⟩)), (.pointer (some ⟨gr, 0, none⟩)), (.slice none 0 0), (.bool true)]) sz4 rfl rfl rfl hb_gx rfl rfl) rfl rfl ?_
    rintro _ w5 ⟨hN5, hg5⟩
    have hz_hg5 := hg5.size
    replace hK := Kp.tg hK hg5 (by first | (left; simp; done) | (right; omega))
    replace hb_gc := hb_gc.gr hg5 (by intro e; cases e; omega)
    replace hb_gr := hb_gr.gr hg5 (by intro e; cases e; omega)
    replace hr11 := hr11.gr hg5 (fun _ e => by cases e; omega)
    replace hb_g2 := hb_g2.gr hg5 (by intro e; cases e; omega)
    replace hb_gx := hN5
    refine q_nil ?_
    refine e_end0 rfl ?_
    exact ⟨rfl, hb_gx, ⟨_, _, hb_gr, hr11⟩, hb_gc, hK⟩

theorem lifer_f (w : World) (gx gc gr lo hi : Nat) (A : Option Addr) (c : Nat) (l : List UInt8) (bad : Bool) (hb_gx : Blk w gx 92 [.pointer (some ⟨gc, 0, none⟩), .pointer (some ⟨gr, 0, none⟩), .slice none 0 0, .bool bad]) (hb_gr : Blk w gr 101 [.bool true, .slice A l.length c]) (hr : RdB w lo hi A c l) (hgx : gx ≠ gr) (hxo : gx < lo ∨ hi ≤ gx) (hro : gr < lo ∨ hi ≤ gr) (hlen : l.length ≤ 140737488355328) (v0 v1 v2 v3 v4 v6 v7 v8 v9 : Value) (hb_gc : Blk w gc 58 [v0, v1, v2, v3, v4, .int .u64 0, v6, v7, v8, v9]) (hcx : gc ≠ gx) (hcr : gc ≠ gr) (hco : gc < lo ∨ hi ≤ gc) (hhi : hi ≤ w.heap.size) (hbn : (bad || numB l) = false) :
    Fn Try.prog 58 #[(.pointer (some ⟨gx, 0, none⟩))] w (fun v w' => v = .tuple #[] ∧ Blk w' gx 92 [.pointer (some ⟨gc, 0, none⟩), .pointer (some ⟨gr, 0, none⟩), .slice none 0 0, .bool (decide ((numV l : Int) = 0))] ∧ RdrAt w' gr lo hi (numR l) ∧ Blk w' gc 58 [v0, v1, v2, v3, v4, .int .u64 (numV l : Int), v6, v7, v8, v9] ∧ Kp [gx, gr, gc] w w')  := by
  have hK := Kp.refl [gx, gr, gc] w
  have hgxl := hb_gx.lt
  have hgrl := hb_gr.lt
  have hgcl := hb_gc.lt
  refine fn_enter (args := [(.pointer (some ⟨gx, 0, none⟩))]) Try.func58 rfl rfl rfl ?_
  show WC _ _ _ _ [(0, (.pointer (some ⟨gx, 0, none⟩)))] _
  refine wc_seq (wc_regionL ?_)
  refine vm rfl rfl ?_
  refine vn rfl rfl ?_
  refine wl_val (ov_field0 (off := 0) fo92_0 rfl) rfl rfl rfl ?_
  refine wl_val (ov_loadAt oc90 rfl hb_gx rfl) rfl rfl rfl ?_
  refine vn rfl rfl ?_
  refine wl_val (ov_field0 (off := 5) fo58_5 rfl) rfl rfl rfl ?_
  refine wl_val (ov_loadAt oc51 rfl hb_gc rfl) rfl rfl rfl ?_
  refine wl_step (or_alloc (cs := [(.int .u64 0)]) ze25 rfl) rfl rfl rfl ?_
  rintro v w1 ⟨g2, rfl, hb_g2, he2, hl2, hu2⟩
  replace hb_gx := hb_gx.ext he2
  replace hb_gr := hb_gr.ext he2
  replace hr := hr.ext he2
  replace hK := Kp.te hK he2
  replace hb_gc := hb_gc.ext he2
  have hz_he2 := he2.size
  refine wl_step0 (or_storeAt (cs' := [(.int .u64 0)]) sz25 rfl rfl rfl hb_g2 rfl rfl) rfl rfl ?_
  rintro _ w2 ⟨hN2, hg2⟩
  have hz_hg2 := hg2.size
  replace hb_gx := hb_gx.gr hg2 (by intro e; cases e; omega)
  replace hb_gr := hb_gr.gr hg2 (by intro e; cases e; omega)
  replace hr := hr.gr hg2 (fun _ e => by cases e; omega)
  replace hK := Kp.tg hK hg2 (by first | (left; simp; done) | (right; omega))
  replace hb_gc := hb_gc.gr hg2 (by intro e; cases e; omega)
  replace hb_g2 := hN2
  refine q_nil (k_then (wc_seq (wc_regionL ?_)))
  refine vm rfl rfl ?_
  refine wl_step (or_call0 cl59 rfl rfl (numr _ gx gc gr _ _ A c l bad hb_gx hb_gr hr (by omega) (by omega) (by omega) (by omega) g2 0 _ _ hb_g2 (Nat.le_of_ble_eq_true rfl) (by omega) (by omega) (by omega))) rfl rfl rfl ?_
  rintro v w3 ⟨rfl, hN11, ⟨A11, c11, hQ11, hr11⟩, hT11, hK11⟩
  have hz_hK11 := hK11.size
  replace hK := Kp.tr hK hK11 (by intro x hx; simp only [List.mem_cons, List.not_mem_nil, or_false] at hx ⊢; omega)
  replace hb_gc := hK11.bk hb_gc (by intro hg; simp at hg; omega)
  replace hb_gx := hN11
  replace hb_gr := hQ11
  replace hb_g2 : Blk _ g2 _ [(.int .u64 (↑(numV l) : Int))] := hT11
  have hlr11 := numR_len l
  have hlv11 := numV_lt l
  refine q_nil (k_then (wc_seq ?_))
  refine wc_draw mixed 5 [(12, eqv (.pointer (some ⟨gx, 0, none⟩))), (13, eqv (.pointer (some ⟨gx, 0, none⟩))), (14, eqv (.pointer (some ⟨gx, 0, none⟩))), (15, eqv (.pointer (some ⟨gc, 0, none⟩))), (16, eqv (.int .u64 (↑(numV l) : Int)))] [[], [0], [1], [2], []] _ [] [] (fun _ _ h => h) trivial (by kernel_rfl) rfl ⟨⟨stb_eqv _, fun _ he => by cases he⟩, ⟨stb_eqv _, fun _ he => by cases he⟩, ⟨stb_eqv _, fun _ he => by cases he⟩, ⟨stb_eqv _, fun _ he => by cases he⟩, ⟨stb_eqv _, fun _ he => by cases he⟩, trivial⟩ ⟨?_, ?_, ?_, ?_, ?_, trivial⟩ ?_
  · intro wd hxE
    replace hK := Kp.te hK hxE
    replace hb_gc := hb_gc.ext hxE
    replace hb_gx := hb_gx.ext hxE
    replace hb_gr := hb_gr.ext hxE
    replace hr11 := hr11.ext hxE
    replace hb_g2 := hb_g2.ext hxE
    have hz_hxE := hxE.size
    show OpG _ _ _ _ _ _
    exact og_plain rfl (ox_val (ov_move rfl))
  · intro wd hxE
    replace hK := Kp.te hK hxE
    replace hb_gc := hb_gc.ext hxE
    replace hb_gx := hb_gx.ext hxE
    replace hb_gr := hb_gr.ext hxE
    replace hr11 := hr11.ext hxE
    replace hb_g2 := hb_g2.ext hxE
    have hz_hxE := hxE.size
    rintro _ rfl
    show OpG _ _ _ _ _ _
    exact og_plain rfl (ox_val (ov_nilCheck rfl))
  · intro wd hxE
    replace hK := Kp.te hK hxE
    replace hb_gc := hb_gc.ext hxE
    replace hb_gx := hb_gx.ext hxE
    replace hb_gr := hb_gr.ext hxE
    replace hr11 := hr11.ext hxE
    replace hb_g2 := hb_g2.ext hxE
    have hz_hxE := hxE.size
    rintro _ rfl
    show OpG _ _ _ _ _ _
    exact og_plain rfl (ox_val (ov_field0 (off := 0) fo92_0 rfl))
  · intro wd hxE
    replace hK := Kp.te hK hxE
    replace hb_gc := hb_gc.ext hxE
    replace hb_gx := hb_gx.ext hxE
    replace hb_gr := hb_gr.ext hxE
    replace hr11 := hr11.ext hxE
    replace hb_g2 := hb_g2.ext hxE
    have hz_hxE := hxE.size
    rintro _ rfl
    show OpG _ _ _ _ _ _
    exact og_plain rfl (ox_val (ov_loadAt oc90 rfl hb_gx rfl))
  · intro wd hxE
    replace hK := Kp.te hK hxE
    replace hb_gc := hb_gc.ext hxE
    replace hb_gx := hb_gx.ext hxE
    replace hb_gr := hb_gr.ext hxE
    replace hr11 := hr11.ext hxE
    replace hb_g2 := hb_g2.ext hxE
    have hz_hxE := hxE.size
    show OpG _ _ _ _ _ _
    exact og_plain rfl (ox_val (ov_loadAt oc25 rfl hb_g2 rfl))
  · intro wf2 hf2
    replace hK := Kp.te hK hf2
    replace hb_gc := hb_gc.ext hf2
    replace hb_gx := hb_gx.ext hf2
    replace hb_gr := hb_gr.ext hf2
    replace hr11 := hr11.ext hf2
    replace hb_g2 := hb_g2.ext hf2
    have hz_hf2 := hf2.size
    rintro _ rfl
    rintro _ rfl
    rintro _ rfl
    rintro _ rfl
    rintro _ rfl
    show WL _ _ _ [_, _, _] _ _ _
    refine vn rfl rfl ?_
    refine wl_val (ov_field0 (off := 5) fo58_5 rfl) rfl rfl rfl ?_
    refine wl_step0 (or_storeAt (cs' := [v0, v1, v2, v3, v4, (.int .u64 (↑(numV l) : Int)), v6, v7, v8, v9]) sz51 rfl rfl rfl hb_gc rfl rfl) rfl rfl ?_
    rintro _ w4 ⟨hN4, hg4⟩
    have hz_hg4 := hg4.size
    replace hK := Kp.tg hK hg4 (by first | (left; simp; done) | (right; omega))
    replace hb_gx := hb_gx.gr hg4 (by intro e; cases e; omega)
    replace hb_gr := hb_gr.gr hg4 (by intro e; cases e; omega)
    replace hr11 := hr11.gr hg4 (fun _ e => by cases e; omega)
    replace hb_g2 := hb_g2.gr hg4 (by intro e; cases e; omega)
    replace hb_gc := hN4
    refine q_nil (k_then (wc_regionL ?_))
    iterate 2 refine vm rfl rfl ?_
    refine vn rfl rfl ?_
    refine wl_val (ov_field0 (off := 3) fo92_3 rfl) rfl rfl rfl ?_
    refine wl_val (ov_loadAt oc4 rfl hb_gx rfl) rfl rfl rfl ?_
    refine wl_spell (d := 23) rfl (v' := (.bool false)) (by rw [hbn]) ?_
    refine vm rfl rfl ?_
    refine wl_gval (ov_loadAt oc25 rfl hb_g2 rfl) rfl rfl rfl rfl rfl ?_
    refine wl_gval (ov_eql rfl rfl) rfl rfl rfl rfl rfl ?_
    refine wl_val (ov_pick_f rfl rfl) rfl rfl rfl ?_
    refine vn rfl rfl ?_
    refine wl_val (ov_field0 (off := 3) fo92_3 rfl) rfl rfl rfl ?_
    refine wl_step0 (or_storeAt (cs' := [(.pointer (some ⟨gc, 0, none⟩)), (.pointer (some ⟨gr, 0, none⟩)), (.slice none 0 0), (.bool (decide ((↑(numV l) : Int) = 0)))]) sz4 rfl rfl rfl hb_gx rfl rfl) rfl rfl ?_
    rintro _ w5 ⟨hN5, hg5⟩
    have hz_hg5 := hg5.size
    replace hK := Kp.tg hK hg5 (by first | (left; simp; done) | (right; omega))
    replace hb_gc := hb_gc.gr hg5 (by intro e; cases e; omega)
    replace hb_gr := hb_gr.gr hg5 (by intro e; cases e; omega)
    replace hr11 := hr11.gr hg5 (fun _ e => by cases e; omega)
    replace hb_g2 := hb_g2.gr hg5 (by intro e; cases e; omega)
    replace hb_gx := hN5
    refine q_nil ?_
    refine e_end0 rfl ?_
    exact ⟨rfl, hb_gx, ⟨_, _, hb_gr, hr11⟩, hb_gc, hK⟩

theorem lifer (w : World) (gx gc gr lo hi : Nat) (A : Option Addr) (c : Nat) (l : List UInt8) (bad : Bool) (hb_gx : Blk w gx 92 [.pointer (some ⟨gc, 0, none⟩), .pointer (some ⟨gr, 0, none⟩), .slice none 0 0, .bool bad]) (hb_gr : Blk w gr 101 [.bool true, .slice A l.length c]) (hr : RdB w lo hi A c l) (hgx : gx ≠ gr) (hxo : gx < lo ∨ hi ≤ gx) (hro : gr < lo ∨ hi ≤ gr) (hlen : l.length ≤ 140737488355328) (v0 v1 v2 v3 v4 v6 v7 v8 v9 : Value) (hb_gc : Blk w gc 58 [v0, v1, v2, v3, v4, .int .u64 0, v6, v7, v8, v9]) (hcx : gc ≠ gx) (hcr : gc ≠ gr) (hco : gc < lo ∨ hi ≤ gc) (hhi : hi ≤ w.heap.size) :
    Fn Try.prog 58 #[.pointer (some ⟨gx, 0, none⟩)] w (fun v w' => v = .tuple #[] ∧ Blk w' gx 92 [.pointer (some ⟨gc, 0, none⟩), .pointer (some ⟨gr, 0, none⟩), .slice none 0 0, .bool (bad || numB l || decide (numV l = 0))] ∧ RdrAt w' gr lo hi (numR l) ∧ Blk w' gc 58 [v0, v1, v2, v3, v4, .int .u64 (numV l : Int), v6, v7, v8, v9] ∧ Kp [gx, gr, gc] w w') := by
  by_cases hbn : (bad || numB l) = true
  · rw [hbn]; exact lifer_t w gx gc gr lo hi A c l bad hb_gx hb_gr hr hgx hxo hro hlen v0 v1 v2 v3 v4 v6 v7 v8 v9 hb_gc hcx hcr hco hhi hbn
  · have hbn' : (bad || numB l) = false := by simpa using hbn
    have e : ((bad || numB l) || decide (numV l = 0)) = decide ((numV l : Int) = 0) := by rw [hbn', Bool.false_or, decide_eq_decide]; omega
    rw [e]; exact lifer_f w gx gc gr lo hi A c l bad hb_gx hb_gr hr hgx hxo hro hlen v0 v1 v2 v3 v4 v6 v7 v8 v9 hb_gc hcx hcr hco hhi hbn'

theorem listKr_ok (w : World) (gx gc gr lo hi : Nat) (A : Option Addr) (c : Nat) (l : List UInt8) (bad : Bool) (hb_gx : Blk w gx 92 [.pointer (some ⟨gc, 0, none⟩), .pointer (some ⟨gr, 0, none⟩), .slice none 0 0, .bool bad]) (hb_gr : Blk w gr 101 [.bool true, .slice A l.length c]) (hr : RdB w lo hi A c l) (hgx : gx ≠ gr) (hxo : gx < lo ∨ hi ≤ gx) (hro : gr < lo ∨ hi ≤ gr) (hlen : l.length ≤ 140737488355328) (v0 v1 v3 v4 v5 v6 v7 v8 v9 : Value) (hb_gc : Blk w gc 58 [v0, v1, .slice none 0 0, v3, v4, v5, v6, v7, v8, v9]) (hcx : gc ≠ gx) (hcr : gc ≠ gr) (hco : gc < lo ∨ hi ≤ gc) (hhi : hi ≤ w.heap.size) (h1 : 1 ≤ numV l) (h0 : 1 ≤ numV l) (h2 : numV l ≤ 16) :
    Fn Try.prog 56 #[(.pointer (some ⟨gx, 0, none⟩)), (.pointer (some ⟨gc, 2, none⟩)), (.int .i64 1), (.int .i64 16), (.func (.func 54) #[] #[])] w (fun v w' => v = .tuple #[] ∧ Blk w' gx 92 [.pointer (some ⟨gc, 0, none⟩), .pointer (some ⟨gr, 0, none⟩), .slice none 0 0, .bool (bad || numB l || (rS kv (numV l) (numR l)).2.2)] ∧ RdrAt w' gr lo hi ((rS kv (numV l) (numR l)).2.1) ∧ (∃ K ck, Blk w' gc 58 [v0, v1, .slice K ((rS kv (numV l) (numR l)).1).length ck, v3, v4, v5, v6, v7, v8, v9] ∧ RdS w' w.heap.size w'.heap.size K ck ((rS kv (numV l) (numR l)).1)) ∧ Kp [gx, gr, gc] w w')  := by
  have hK := Kp.refl [gx, gr, gc] w
  have hgxl := hb_gx.lt
  have hgrl := hb_gr.lt
  have hgcl := hb_gc.lt
  refine fn_enter (args := [(.pointer (some ⟨gx, 0, none⟩)), (.pointer (some ⟨gc, 2, none⟩)), (.int .i64 1), (.int .i64 16), (.func (.func 54) #[] #[])]) Try.func56 rfl rfl rfl ?_
  show WC _ _ _ _ [(0, (.pointer (some ⟨gx, 0, none⟩))), (1, (.pointer (some ⟨gc, 2, none⟩))), (2, (.int .i64 1)), (3, (.int .i64 16)), (4, (.func (.func 54) #[] #[]))] _
  refine wc_seq (wc_regionL ?_)
  refine vm rfl rfl ?_
  refine vn rfl rfl ?_
  refine wl_val (ov_loadAt oc56 rfl hb_gc rfl) rfl rfl rfl ?_
  refine wl_val (ov_len Try.underlying56 rfl) rfl rfl rfl ?_
  refine wl_val (ov_conv Try.underlying3 Try.underlying25 (m := 0) rfl (by decide)) rfl rfl rfl ?_
  refine wl_step (or_alloc (cs := [(.int .u64 0)]) ze25 rfl) rfl rfl rfl ?_
  rintro v w1 ⟨g10, rfl, hb_g10, he10, hl10, hu10⟩
  replace hb_gx := hb_gx.ext he10
  replace hb_gr := hb_gr.ext he10
  replace hr := hr.ext he10
  replace hK := Kp.te hK he10
  replace hb_gc := hb_gc.ext he10
  have hz_he10 := he10.size
  refine wl_step0 (or_storeAt (cs' := [(.int .u64 0)]) sz25 rfl rfl rfl hb_g10 rfl rfl) rfl rfl ?_
  rintro _ w2 ⟨hN2, hg2⟩
  have hz_hg2 := hg2.size
  replace hb_gx := hb_gx.gr hg2 (by intro e; cases e; omega)
  replace hb_gr := hb_gr.gr hg2 (by intro e; cases e; omega)
  replace hr := hr.gr hg2 (fun _ e => by cases e; omega)
  replace hK := Kp.tg hK hg2 (by first | (left; simp; done) | (right; omega))
  replace hb_gc := hb_gc.gr hg2 (by intro e; cases e; omega)
  replace hb_g10 := hN2
  refine q_nil (k_then (wc_seq (wc_regionL ?_)))
  refine vm rfl rfl ?_
  refine wl_step (or_call0 cl59 rfl rfl (numr _ gx gc gr _ _ A c l bad hb_gx hb_gr hr (by omega) (by omega) (by omega) (by omega) g10 0 _ _ hb_g10 (Nat.le_of_ble_eq_true rfl) (by omega) (by omega) (by omega))) rfl rfl rfl ?_
  rintro v w3 ⟨rfl, hN18, ⟨A18, c18, hQ18, hr18⟩, hT18, hK18⟩
  have hz_hK18 := hK18.size
  replace hK := Kp.tr hK hK18 (by intro x hx; simp only [List.mem_cons, List.not_mem_nil, or_false] at hx ⊢; omega)
  replace hb_gc := hK18.bk hb_gc (by intro hg; simp at hg; omega)
  replace hb_gx := hN18
  replace hb_gr := hQ18
  replace hb_g10 : Blk _ g10 _ [(.int .u64 (↑(numV l) : Int))] := hT18
  have hlr18 := numR_len l
  have hlv18 := numV_lt l
  refine q_nil (k_then (wc_seq (wc_seq (wc_regionL ?_))))
  refine wl_val (ov_loadAt oc25 rfl hb_g10 rfl) rfl rfl rfl ?_
  refine vm rfl rfl ?_
  refine wl_val (ov_conv Try.underlying3 Try.underlying25 (m := 1) rfl (by decide)) rfl rfl rfl ?_
  refine wl_val (ov_lss rfl rfl) rfl rfl rfl ?_
  refine wl_spell (d := 22) rfl (bf (by omega)) ?_
  refine vm rfl rfl ?_
  refine wl_gval (ov_loadAt oc25 rfl hb_g10 rfl) rfl rfl rfl rfl rfl ?_
  refine wl_gval (ov_move rfl) rfl rfl rfl rfl rfl ?_
  refine wl_gval (ov_conv Try.underlying3 Try.underlying25 (m := 16) rfl (by decide)) rfl rfl rfl rfl rfl ?_
  refine wl_gval (ov_gtr rfl rfl) rfl rfl rfl rfl rfl ?_
  refine wl_spell (d := 27) rfl (bf (by omega)) ?_
  refine wl_val (ov_pick_f rfl rfl) rfl rfl rfl ?_
  refine q_nil (k_then ?_)
  refine wc_cond_f rfl ?_
  refine q_skip (k_then (wc_seq (wc_seq (wc_regionL ?_))))
  refine vm rfl rfl ?_
  refine vn rfl rfl ?_
  refine wl_val (ov_field0 (off := 1) fo92_1 rfl) rfl rfl rfl ?_
  refine wl_val (ov_loadAt oc83 rfl hb_gx rfl) rfl rfl rfl ?_
  refine wl_val (ov_nnilptr Try.underlying83 rfl) rfl rfl rfl ?_
  refine vm rfl rfl ?_
  refine wl_gval (ov_loadAt oc25 rfl hb_g10 rfl) rfl rfl rfl rfl rfl ?_
  refine wl_gval (ov_gtr rfl rfl) rfl rfl rfl rfl rfl ?_
  refine wl_spell (d := 39) rfl (bt (by omega)) ?_
  refine wl_val (ov_pick_t rfl rfl) rfl rfl rfl ?_
  refine q_nil (k_then ?_)
  refine wc_cond_t rfl ?_
  refine wc_regionL ?_
  refine vm rfl rfl ?_
  refine wl_val (ov_loadAt oc25 rfl hb_g10 rfl) rfl rfl rfl ?_
  refine wl_step (or_make1 sl56 rfl rfl rfl rfl (by omega) (by simp only [maxLen]; omega)) rfl rfl rfl ?_
  rintro v w4 ⟨g43, rfl, hb_g43, he43, hl43, hu43⟩
  replace hK := Kp.te hK he43
  replace hb_gc := hb_gc.ext he43
  replace hb_gx := hb_gx.ext he43
  replace hb_gr := hb_gr.ext he43
  replace hr18 := hr18.ext he43
  replace hb_g10 := hb_g10.ext he43
  have hz_he43 := he43.size
  refine vn rfl rfl ?_
  refine wl_step0 (or_storeAt (cs' := [v0, v1, (.slice (some ⟨g43, 0, none⟩) (numV l) (numV l)), v3, v4, v5, v6, v7, v8, v9]) sz56 rfl rfl rfl hb_gc rfl rfl) rfl rfl ?_
  rintro _ w5 ⟨hN5, hg5⟩
  have hz_hg5 := hg5.size
  replace hK := Kp.tg hK hg5 (by first | (left; simp; done) | (right; omega))
  replace hb_gx := hb_gx.gr hg5 (by intro e; cases e; omega)
  replace hb_gr := hb_gr.gr hg5 (by intro e; cases e; omega)
  replace hr18 := hr18.gr hg5 (fun _ e => by cases e; omega)
  replace hb_g10 := hb_g10.gr hg5 (by intro e; cases e; omega)
  replace hb_g43 := hb_g43.gr hg5 (by intro e; cases e; omega)
  replace hb_gc := hN5
  refine q_nil (k_then (wc_seq (wc_regionL ?_)))
  refine vm rfl rfl ?_
  refine vn rfl rfl ?_
  refine wl_val (ov_loadAt oc56 rfl hb_gc rfl) rfl rfl rfl ?_
  refine wl_val (ov_len Try.underlying56 rfl) rfl rfl rfl ?_
  refine vm rfl rfl ?_
  refine q_nil (k_then (wc_block ?_))
  have hz43 := hb_g43.lt
  refine wc_loop (σ := Nat) (fun i => numV l - i) (fun i => [(0, .pointer (some ⟨gx, 0, none⟩)), (1, .pointer (some ⟨gc, 2, none⟩)), (4, .func (.func 54) #[] #[]), (48, .int .i64 (numV l : Int)), (49, .int .i64 (i : Int))]) (fun i w' => i ≤ numV l ∧ Blk w' gx 92 [.pointer (some ⟨gc, 0, none⟩), .pointer (some ⟨gr, 0, none⟩), .slice none 0 0, .bool (bad || numB l || (rS kv i (numR l)).2.2)] ∧ RdrAt w' gr lo hi (rS kv i (numR l)).2.1 ∧ Blk w' gc 58 [v0, v1, (.slice (some ⟨g43, 0, none⟩) (numV l) (numV l)), v3, v4, v5, v6, v7, v8, v9] ∧ Blk w' g43 9 (rows kv (numV l) i (numR l)) ∧ Kp [gx, gr, gc] w w') (0) (⟨Nat.zero_le _, by show Blk _ gx _ [.pointer (some ⟨gc, 0, none⟩), .pointer (some ⟨gr, 0, none⟩), .slice none 0 0, .bool (bad || numB l || (rS kv 0 (numR l)).2.2)]; rw [show (rS kv 0 (numR l)).2.2 = false from rfl, Bool.or_false]; exact hb_gx, ⟨_, _, hb_gr, hr18⟩, hb_gc, by rw [rows_0]; exact hb_g43, hK⟩) (⟨rfl, rfl, rfl, rfl, rfl, trivial⟩) ?_
  rintro i wq ⟨hi0, hb_gx, ⟨A9, c9, hb_gr, hr9⟩, hb_gc, hb_g43, hK⟩
  show WC _ _ _ _ [(0, (.pointer (some ⟨gx, 0, none⟩))), (1, (.pointer (some ⟨gc, 2, none⟩))), (4, (.func (.func 54) #[] #[])), (48, (.int .i64 (↑(numV l) : Int))), (49, (.int .i64 (↑i : Int)))] _
  have hsq := hK.size
  have hrl := (rS_len kv (numR l) i).2
  refine wc_seq (wc_regionL ?_)
  refine wl_val (ov_lss rfl rfl) rfl rfl rfl ?_
  refine q_nil (k_then (wc_seq ?_))
  refine wc_cond_d rfl (fun hc3 => ?_) (fun hc3 => ?_)
  · refine q_skip (k_then (wc_seq (wc_block (wc_seq (wc_regionL ?_)))))
    refine vm rfl rfl ?_
    refine va rfl rfl ?_
    refine q_nil (k_then (wc_regionL ?_))
    iterate 2 refine vm rfl rfl ?_
    refine vn rfl rfl ?_
    refine wl_val (ov_loadAt oc56 rfl hb_gc rfl) rfl rfl rfl ?_
    refine vm rfl rfl ?_
    refine wl_val (ov_oindex sl56 rfl rfl rfl (by omega)) rfl rfl rfl ?_
    refine vm rfl rfl ?_
    refine wl_step (or_call0 cl53 rfl rfl (partr _ gx gc gr _ _ A9 c9 (rS kv i (numR l)).2.1 (bad || numB l || (rS kv i (numR l)).2.2) hb_gx hb_gr hr9 (by omega) (by omega) (by omega) (by omega) g43 i _ (rows kv (numV l) i (numR l)) hb_g43 (by rw [rows_len _ _ (by omega)]; omega) (by omega) (by omega) (by omega) kv 54 cl54 kv_any)) rfl rfl rfl ?_
    rintro v w6 ⟨rfl, hN59, ⟨A59, c59, hQ59, hr59⟩, hT59, hK59⟩
    have hz_hK59 := hK59.size
    replace hb_gc := hK59.bk hb_gc (by intro hg; simp at hg; omega)
    replace hK := Kp.tr hK hK59 (by intro x hx; simp only [List.mem_cons, List.not_mem_nil, or_false] at hx ⊢; omega)
    replace hb_gx := hN59
    replace hb_gr := hQ59
    replace hb_g43 := hT59
    have hlr59 := partR_len (rS kv i (numR l)).2.1
    have hlv59 := partV_len (rS kv i (numR l)).2.1
    refine q_nil (k_block (k_then (wc_regionL ?_)))
    refine wl_val (ov_add rfl rfl (wi64 (by omega) (by omega))) rfl rfl rfl ?_
    refine vm rfl rfl ?_
    refine q_nil ?_
    refine k_loop (i + 1) (by show numV l - (i + 1) < numV l - i; omega) (⟨rfl, rfl, rfl, rfl, rfl, trivial⟩) (⟨by omega, by show Blk _ gx _ [.pointer (some ⟨gc, 0, none⟩), .pointer (some ⟨gr, 0, none⟩), .slice none 0 0, .bool (bad || numB l || (rS kv (i + 1) (numR l)).2.2)]; rw [show (rS kv (i + 1) (numR l)).2.2 = ((rS kv i (numR l)).2.2 || partB kv (rS kv i (numR l)).2.1) from rfl, ← Bool.or_assoc]; exact hb_gx, ⟨_, _, hb_gr, hr59⟩, hb_gc, by rw [← rows_set _ _ (by omega)]; exact hb_g43, hK⟩)
  · have hin : i = numV l := by omega
    subst hin
    rw [rows_n] at hb_g43
    have hrn := (rS_len kv (numR l) (numV l)).1
    have hrd := hb_g43.rdL (lo := w.heap.size) (size := 1) (n := numV l) (by rw [flat_strc, List.length_map]; omega) (by simp only [maxLen]; omega) (by omega)
    refine q_exit (k_thenX (k_thenX (k_blockE ?_)))
    refine e_end0 rfl ?_
    refine ⟨rfl, hb_gx, ⟨_, _, hb_gr, hr9⟩, ⟨some ⟨g43, 0, none⟩, numV l, ?_, ?_⟩, hK⟩
    · rw [hrn]; exact hb_gc
    · show Rd _ _ _ _ _ (List.length _) _ _
      rw [hrn]; exact hrd

theorem listKr_bad (w : World) (gx gc gr lo hi : Nat) (A : Option Addr) (c : Nat) (l : List UInt8) (bad : Bool) (hb_gx : Blk w gx 92 [.pointer (some ⟨gc, 0, none⟩), .pointer (some ⟨gr, 0, none⟩), .slice none 0 0, .bool bad]) (hb_gr : Blk w gr 101 [.bool true, .slice A l.length c]) (hr : RdB w lo hi A c l) (hgx : gx ≠ gr) (hxo : gx < lo ∨ hi ≤ gx) (hro : gr < lo ∨ hi ≤ gr) (hlen : l.length ≤ 140737488355328) (v0 v1 v3 v4 v5 v6 v7 v8 v9 : Value) (hb_gc : Blk w gc 58 [v0, v1, .slice none 0 0, v3, v4, v5, v6, v7, v8, v9]) (hcx : gc ≠ gx) (hcr : gc ≠ gr) (hco : gc < lo ∨ hi ≤ gc) (hhi : hi ≤ w.heap.size) (h1 : numV l < 1 ∨ 16 < numV l) :
    Fn Try.prog 56 #[(.pointer (some ⟨gx, 0, none⟩)), (.pointer (some ⟨gc, 2, none⟩)), (.int .i64 1), (.int .i64 16), (.func (.func 54) #[] #[])] w (fun v w' => v = .tuple #[] ∧ Blk w' gx 92 [.pointer (some ⟨gc, 0, none⟩), .pointer (some ⟨gr, 0, none⟩), .slice none 0 0, .bool true] ∧ RdrAt w' gr lo hi (numR l) ∧ (∃ K ck, Blk w' gc 58 [v0, v1, .slice K (([] : List (List UInt8))).length ck, v3, v4, v5, v6, v7, v8, v9] ∧ RdS w' w.heap.size w'.heap.size K ck (([] : List (List UInt8)))) ∧ Kp [gx, gr, gc] w w')  := by
  have hK := Kp.refl [gx, gr, gc] w
  have hgxl := hb_gx.lt
  have hgrl := hb_gr.lt
  have hgcl := hb_gc.lt
  refine fn_enter (args := [(.pointer (some ⟨gx, 0, none⟩)), (.pointer (some ⟨gc, 2, none⟩)), (.int .i64 1), (.int .i64 16), (.func (.func 54) #[] #[])]) Try.func56 rfl rfl rfl ?_
  show WC _ _ _ _ [(0, (.pointer (some ⟨gx, 0, none⟩))), (1, (.pointer (some ⟨gc, 2, none⟩))), (2, (.int .i64 1)), (3, (.int .i64 16)), (4, (.func (.func 54) #[] #[]))] _
  refine wc_seq (wc_regionL ?_)
  refine vm rfl rfl ?_
  refine vn rfl rfl ?_
  refine wl_val (ov_loadAt oc56 rfl hb_gc rfl) rfl rfl rfl ?_
  refine wl_val (ov_len Try.underlying56 rfl) rfl rfl rfl ?_
  refine wl_val (ov_conv Try.underlying3 Try.underlying25 (m := 0) rfl (by decide)) rfl rfl rfl ?_
  refine wl_step (or_alloc (cs := [(.int .u64 0)]) ze25 rfl) rfl rfl rfl ?_
  rintro v w1 ⟨g10, rfl, hb_g10, he10, hl10, hu10⟩
  replace hb_gx := hb_gx.ext he10
  replace hb_gr := hb_gr.ext he10
  replace hr := hr.ext he10
  replace hK := Kp.te hK he10
  replace hb_gc := hb_gc.ext he10
  have hz_he10 := he10.size
  refine wl_step0 (or_storeAt (cs' := [(.int .u64 0)]) sz25 rfl rfl rfl hb_g10 rfl rfl) rfl rfl ?_
  rintro _ w2 ⟨hN2, hg2⟩
  have hz_hg2 := hg2.size
  replace hb_gx := hb_gx.gr hg2 (by intro e; cases e; omega)
  replace hb_gr := hb_gr.gr hg2 (by intro e; cases e; omega)
  replace hr := hr.gr hg2 (fun _ e => by cases e; omega)
  replace hK := Kp.tg hK hg2 (by first | (left; simp; done) | (right; omega))
  replace hb_gc := hb_gc.gr hg2 (by intro e; cases e; omega)
  replace hb_g10 := hN2
  refine q_nil (k_then (wc_seq (wc_regionL ?_)))
  refine vm rfl rfl ?_
  refine wl_step (or_call0 cl59 rfl rfl (numr _ gx gc gr _ _ A c l bad hb_gx hb_gr hr (by omega) (by omega) (by omega) (by omega) g10 0 _ _ hb_g10 (Nat.le_of_ble_eq_true rfl) (by omega) (by omega) (by omega))) rfl rfl rfl ?_
  rintro v w3 ⟨rfl, hN18, ⟨A18, c18, hQ18, hr18⟩, hT18, hK18⟩
  have hz_hK18 := hK18.size
  replace hK := Kp.tr hK hK18 (by intro x hx; simp only [List.mem_cons, List.not_mem_nil, or_false] at hx ⊢; omega)
  replace hb_gc := hK18.bk hb_gc (by intro hg; simp at hg; omega)
  replace hb_gx := hN18
  replace hb_gr := hQ18
  replace hb_g10 : Blk _ g10 _ [(.int .u64 (↑(numV l) : Int))] := hT18
  have hlr18 := numR_len l
  have hlv18 := numV_lt l
  refine q_nil (k_then (wc_seq (wc_seq (wc_regionL ?_))))
  refine wl_val (ov_loadAt oc25 rfl hb_g10 rfl) rfl rfl rfl ?_
  refine vm rfl rfl ?_
  refine wl_val (ov_conv Try.underlying3 Try.underlying25 (m := 1) rfl (by decide)) rfl rfl rfl ?_
  refine wl_val (ov_lss rfl rfl) rfl rfl rfl ?_
  refine wl_case_d (d := 22) rfl (fun h22 => ?_) (fun h22 => ?_)
  · refine vm rfl rfl ?_
    iterate 4 refine wl_gskip rfl rfl rfl rfl rfl rfl ?_
    refine wl_val (ov_pick_t rfl rfl) rfl rfl rfl ?_
    refine q_nil (k_then ?_)
    refine wc_cond_t rfl ?_
    refine wc_seq (wc_regionL ?_)
    refine vm rfl rfl ?_
    refine vn rfl rfl ?_
    refine wl_val (ov_field0 (off := 3) fo92_3 rfl) rfl rfl rfl ?_
    refine wl_step0 (or_storeAt (cs' := [(.pointer (some ⟨gc, 0, none⟩)), (.pointer (some ⟨gr, 0, none⟩)), (.slice none 0 0), (.bool true)]) sz4 rfl rfl rfl hb_gx rfl rfl) rfl rfl ?_
    rintro _ w4 ⟨hN4, hg4⟩
    have hz_hg4 := hg4.size
    replace hK := Kp.tg hK hg4 (by first | (left; simp; done) | (right; omega))
    replace hb_gc := hb_gc.gr hg4 (by intro e; cases e; omega)
    replace hb_gr := hb_gr.gr hg4 (by intro e; cases e; omega)
    replace hr18 := hr18.gr hg4 (fun _ e => by cases e; omega)
    replace hb_g10 := hb_g10.gr hg4 (by intro e; cases e; omega)
    replace hb_gx := hN4
    refine q_nil (k_then (q_ret (k_thenR ?_)))
    refine e_ret0 rfl ?_
    exact ⟨rfl, hb_gx, ⟨_, _, hb_gr, hr18⟩, ⟨none, 0, hb_gc, Rd.nil _ _ _ _ _ _ (Nat.zero_le _)⟩, hK⟩
  · refine vm rfl rfl ?_
    refine wl_gval (ov_loadAt oc25 rfl hb_g10 rfl) rfl rfl rfl rfl rfl ?_
    refine wl_gval (ov_move rfl) rfl rfl rfl rfl rfl ?_
    refine wl_gval (ov_conv Try.underlying3 Try.underlying25 (m := 16) rfl (by decide)) rfl rfl rfl rfl rfl ?_
    refine wl_gval (ov_gtr rfl rfl) rfl rfl rfl rfl rfl ?_
    refine wl_spell (d := 27) rfl (bt (by omega)) ?_
    refine wl_val (ov_pick_f rfl rfl) rfl rfl rfl ?_
    refine q_nil (k_then ?_)
    refine wc_cond_t rfl ?_
    refine wc_seq (wc_regionL ?_)
    refine vm rfl rfl ?_
    refine vn rfl rfl ?_
    refine wl_val (ov_field0 (off := 3) fo92_3 rfl) rfl rfl rfl ?_
    refine wl_step0 (or_storeAt (cs' := [(.pointer (some ⟨gc, 0, none⟩)), (.pointer (some ⟨gr, 0, none⟩)), (.slice none 0 0), (.bool true)]) sz4 rfl rfl rfl hb_gx rfl rfl) rfl rfl ?_
    rintro _ w204 ⟨hN204, hg204⟩
    have hz_hg204 := hg204.size
    replace hK := Kp.tg hK hg204 (by first | (left; simp; done) | (right; omega))
    replace hb_gc := hb_gc.gr hg204 (by intro e; cases e; omega)
    replace hb_gr := hb_gr.gr hg204 (by intro e; cases e; omega)
    replace hr18 := hr18.gr hg204 (fun _ e => by cases e; omega)
    replace hb_g10 := hb_g10.gr hg204 (by intro e; cases e; omega)
    replace hb_gx := hN204
    refine q_nil (k_then (q_ret (k_thenR ?_)))
    refine e_ret0 rfl ?_
    exact ⟨rfl, hb_gx, ⟨_, _, hb_gr, hr18⟩, ⟨none, 0, hb_gc, Rd.nil _ _ _ _ _ _ (Nat.zero_le _)⟩, hK⟩

theorem listKr (w : World) (gx gc gr lo hi : Nat) (A : Option Addr) (c : Nat) (l : List UInt8) (bad : Bool) (hb_gx : Blk w gx 92 [.pointer (some ⟨gc, 0, none⟩), .pointer (some ⟨gr, 0, none⟩), .slice none 0 0, .bool bad]) (hb_gr : Blk w gr 101 [.bool true, .slice A l.length c]) (hr : RdB w lo hi A c l) (hgx : gx ≠ gr) (hxo : gx < lo ∨ hi ≤ gx) (hro : gr < lo ∨ hi ≤ gr) (hlen : l.length ≤ 140737488355328) (v0 v1 v3 v4 v5 v6 v7 v8 v9 : Value) (hb_gc : Blk w gc 58 [v0, v1, .slice none 0 0, v3, v4, v5, v6, v7, v8, v9]) (hcx : gc ≠ gx) (hcr : gc ≠ gr) (hco : gc < lo ∨ hi ≤ gc) (hhi : hi ≤ w.heap.size) :
    Fn Try.prog 56 #[.pointer (some ⟨gx, 0, none⟩), .pointer (some ⟨gc, 2, none⟩), .int .i64 1, .int .i64 16, .func (.func 54) #[] #[]] w (fun v w' => v = .tuple #[] ∧ Blk w' gx 92 [.pointer (some ⟨gc, 0, none⟩), .pointer (some ⟨gr, 0, none⟩), .slice none 0 0, .bool (bad || rlB 1 16 kv l)] ∧ RdrAt w' gr lo hi (rlR 1 16 l) ∧ (∃ K ck, Blk w' gc 58 [v0, v1, .slice K (rlV 1 16 l).length ck, v3, v4, v5, v6, v7, v8, v9] ∧ RdS w' w.heap.size w'.heap.size K ck (rlV 1 16 l)) ∧ Kp [gx, gr, gc] w w') := by
  by_cases h : numV l < 1 ∨ 16 < numV l
  · obtain ⟨e1, e2, e3⟩ := rl_bad (al := kv) h
    rw [e1, e2, e3, Bool.or_true]; exact listKr_bad w gx gc gr lo hi A c l bad hb_gx hb_gr hr hgx hxo hro hlen v0 v1 v3 v4 v5 v6 v7 v8 v9 hb_gc hcx hcr hco hhi h
  · obtain ⟨e1, e2, e3⟩ := rl_ok kv h
    rw [e1, e2, e3, ← Bool.or_assoc]
    exact listKr_ok w gx gc gr lo hi A c l bad hb_gx hb_gr hr hgx hxo hro hlen v0 v1 v3 v4 v5 v6 v7 v8 v9 hb_gc hcx hcr hco hhi (by omega) (by omega) (by omega)

theorem listTr_ok (w : World) (gx gc gr lo hi : Nat) (A : Option Addr) (c : Nat) (l : List UInt8) (bad : Bool) (hb_gx : Blk w gx 92 [.pointer (some ⟨gc, 0, none⟩), .pointer (some ⟨gr, 0, none⟩), .slice none 0 0, .bool bad]) (hb_gr : Blk w gr 101 [.bool true, .slice A l.length c]) (hr : RdB w lo hi A c l) (hgx : gx ≠ gr) (hxo : gx < lo ∨ hi ≤ gx) (hro : gr < lo ∨ hi ≤ gr) (hlen : l.length ≤ 140737488355328) (v0 v1 v2 v3 v5 v6 v7 v8 v9 : Value) (hb_gc : Blk w gc 58 [v0, v1, v2, v3, .slice none 0 0, v5, v6, v7, v8, v9]) (hcx : gc ≠ gx) (hcr : gc ≠ gr) (hco : gc < lo ∨ hi ≤ gc) (hhi : hi ≤ w.heap.size) (h1 : 0 ≤ numV l) (h0 : 1 ≤ numV l) (h2 : numV l ≤ 16) :
    Fn Try.prog 56 #[(.pointer (some ⟨gx, 0, none⟩)), (.pointer (some ⟨gc, 4, none⟩)), (.int .i64 0), (.int .i64 16), (.func (.func 57) #[] #[])] w (fun v w' => v = .tuple #[] ∧ Blk w' gx 92 [.pointer (some ⟨gc, 0, none⟩), .pointer (some ⟨gr, 0, none⟩), .slice none 0 0, .bool (bad || numB l || (rS tv (numV l) (numR l)).2.2)] ∧ RdrAt w' gr lo hi ((rS tv (numV l) (numR l)).2.1) ∧ (∃ K ck, Blk w' gc 58 [v0, v1, v2, v3, .slice K ((rS tv (numV l) (numR l)).1).length ck, v5, v6, v7, v8, v9] ∧ RdS w' w.heap.size w'.heap.size K ck ((rS tv (numV l) (numR l)).1)) ∧ Kp [gx, gr, gc] w w')  := by
  have hK := Kp.refl [gx, gr, gc] w
  have hgxl := hb_gx.lt
  have hgrl := hb_gr.lt
  have hgcl := hb_gc.lt
  refine fn_enter (args := [(.pointer (some ⟨gx, 0, none⟩)), (.pointer (some ⟨gc, 4, none⟩)), (.int .i64 0), (.int .i64 16), (.func (.func 57) #[] #[])]) Try.func56 rfl rfl rfl ?_
  show WC _ _ _ _ [(0, (.pointer (some ⟨gx, 0, none⟩))), (1, (.pointer (some ⟨gc, 4, none⟩))), (2, (.int .i64 0)), (3, (.int .i64 16)), (4, (.func (.func 57) #[] #[]))] _
  refine wc_seq (wc_regionL ?_)
  refine vm rfl rfl ?_
  refine vn rfl rfl ?_
  refine wl_val (ov_loadAt oc56 rfl hb_gc rfl) rfl rfl rfl ?_
  refine wl_val (ov_len Try.underlying56 rfl) rfl rfl rfl ?_
  refine wl_val (ov_conv Try.underlying3 Try.underlying25 (m := 0) rfl (by decide)) rfl rfl rfl ?_
  refine wl_step (or_alloc (cs := [(.int .u64 0)]) ze25 rfl) rfl rfl rfl ?_
  rintro v w1 ⟨g10, rfl, hb_g10, he10, hl10, hu10⟩
  replace hb_gx := hb_gx.ext he10
  replace hb_gr := hb_gr.ext he10
  replace hr := hr.ext he10
  replace hK := Kp.te hK he10
  replace hb_gc := hb_gc.ext he10
  have hz_he10 := he10.size
  refine wl_step0 (or_storeAt (cs' := [(.int .u64 0)]) sz25 rfl rfl rfl hb_g10 rfl rfl) rfl rfl ?_
  rintro _ w2 ⟨hN2, hg2⟩
  have hz_hg2 := hg2.size
  replace hb_gx := hb_gx.gr hg2 (by intro e; cases e; omega)
  replace hb_gr := hb_gr.gr hg2 (by intro e; cases e; omega)
  replace hr := hr.gr hg2 (fun _ e => by cases e; omega)
  replace hK := Kp.tg hK hg2 (by first | (left; simp; done) | (right; omega))
  replace hb_gc := hb_gc.gr hg2 (by intro e; cases e; omega)
  replace hb_g10 := hN2
  refine q_nil (k_then (wc_seq (wc_regionL ?_)))
  refine vm rfl rfl ?_
  refine wl_step (or_call0 cl59 rfl rfl (numr _ gx gc gr _ _ A c l bad hb_gx hb_gr hr (by omega) (by omega) (by omega) (by omega) g10 0 _ _ hb_g10 (Nat.le_of_ble_eq_true rfl) (by omega) (by omega) (by omega))) rfl rfl rfl ?_
  rintro v w3 ⟨rfl, hN18, ⟨A18, c18, hQ18, hr18⟩, hT18, hK18⟩
  have hz_hK18 := hK18.size
  replace hK := Kp.tr hK hK18 (by intro x hx; simp only [List.mem_cons, List.not_mem_nil, or_false] at hx ⊢; omega)
  replace hb_gc := hK18.bk hb_gc (by intro hg; simp at hg; omega)
  replace hb_gx := hN18
  replace hb_gr := hQ18
  replace hb_g10 : Blk _ g10 _ [(.int .u64 (↑(numV l) : Int))] := hT18
  have hlr18 := numR_len l
  have hlv18 := numV_lt l
  refine q_nil (k_then (wc_seq (wc_seq (wc_regionL ?_))))
  refine wl_val (ov_loadAt oc25 rfl hb_g10 rfl) rfl rfl rfl ?_
  refine vm rfl rfl ?_
  refine wl_val (ov_conv Try.underlying3 Try.underlying25 (m := 0) rfl (by decide)) rfl rfl rfl ?_
  refine wl_val (ov_lss rfl rfl) rfl rfl rfl ?_
  refine wl_spell (d := 22) rfl (bf (by omega)) ?_
  refine vm rfl rfl ?_
  refine wl_gval (ov_loadAt oc25 rfl hb_g10 rfl) rfl rfl rfl rfl rfl ?_
  refine wl_gval (ov_move rfl) rfl rfl rfl rfl rfl ?_
  refine wl_gval (ov_conv Try.underlying3 Try.underlying25 (m := 16) rfl (by decide)) rfl rfl rfl rfl rfl ?_
  refine wl_gval (ov_gtr rfl rfl) rfl rfl rfl rfl rfl ?_
  refine wl_spell (d := 27) rfl (bf (by omega)) ?_
  refine wl_val (ov_pick_f rfl rfl) rfl rfl rfl ?_
  refine q_nil (k_then ?_)
  refine wc_cond_f rfl ?_
  refine q_skip (k_then (wc_seq (wc_seq (wc_regionL ?_))))
  refine vm rfl rfl ?_
  refine vn rfl rfl ?_
  refine wl_val (ov_field0 (off := 1) fo92_1 rfl) rfl rfl rfl ?_
  refine wl_val (ov_loadAt oc83 rfl hb_gx rfl) rfl rfl rfl ?_
  refine wl_val (ov_nnilptr Try.underlying83 rfl) rfl rfl rfl ?_
  refine vm rfl rfl ?_
  refine wl_gval (ov_loadAt oc25 rfl hb_g10 rfl) rfl rfl rfl rfl rfl ?_
  refine wl_gval (ov_gtr rfl rfl) rfl rfl rfl rfl rfl ?_
  refine wl_spell (d := 39) rfl (bt (by omega)) ?_
  refine wl_val (ov_pick_t rfl rfl) rfl rfl rfl ?_
  refine q_nil (k_then ?_)
  refine wc_cond_t rfl ?_
  refine wc_regionL ?_
  refine vm rfl rfl ?_
  refine wl_val (ov_loadAt oc25 rfl hb_g10 rfl) rfl rfl rfl ?_
  refine wl_step (or_make1 sl56 rfl rfl rfl rfl (by omega) (by simp only [maxLen]; omega)) rfl rfl rfl ?_
  rintro v w4 ⟨g43, rfl, hb_g43, he43, hl43, hu43⟩
  replace hK := Kp.te hK he43
  replace hb_gc := hb_gc.ext he43
  replace hb_gx := hb_gx.ext he43
  replace hb_gr := hb_gr.ext he43
  replace hr18 := hr18.ext he43
  replace hb_g10 := hb_g10.ext he43
  have hz_he43 := he43.size
  refine vn rfl rfl ?_
  refine wl_step0 (or_storeAt (cs' := [v0, v1, v2, v3, (.slice (some ⟨g43, 0, none⟩) (numV l) (numV l)), v5, v6, v7, v8, v9]) sz56 rfl rfl rfl hb_gc rfl rfl) rfl rfl ?_
  rintro _ w5 ⟨hN5, hg5⟩
  have hz_hg5 := hg5.size
  replace hK := Kp.tg hK hg5 (by first | (left; simp; done) | (right; omega))
  replace hb_gx := hb_gx.gr hg5 (by intro e; cases e; omega)
  replace hb_gr := hb_gr.gr hg5 (by intro e; cases e; omega)
  replace hr18 := hr18.gr hg5 (fun _ e => by cases e; omega)
  replace hb_g10 := hb_g10.gr hg5 (by intro e; cases e; omega)
  replace hb_g43 := hb_g43.gr hg5 (by intro e; cases e; omega)
  replace hb_gc := hN5
  refine q_nil (k_then (wc_seq (wc_regionL ?_)))
  refine vm rfl rfl ?_
  refine vn rfl rfl ?_
  refine wl_val (ov_loadAt oc56 rfl hb_gc rfl) rfl rfl rfl ?_
  refine wl_val (ov_len Try.underlying56 rfl) rfl rfl rfl ?_
  refine vm rfl rfl ?_
  refine q_nil (k_then (wc_block ?_))
  have hz43 := hb_g43.lt
  refine wc_loop (σ := Nat) (fun i => numV l - i) (fun i => [(0, .pointer (some ⟨gx, 0, none⟩)), (1, .pointer (some ⟨gc, 4, none⟩)), (4, .func (.func 57) #[] #[]), (48, .int .i64 (numV l : Int)), (49, .int .i64 (i : Int))]) (fun i w' => i ≤ numV l ∧ Blk w' gx 92 [.pointer (some ⟨gc, 0, none⟩), .pointer (some ⟨gr, 0, none⟩), .slice none 0 0, .bool (bad || numB l || (rS tv i (numR l)).2.2)] ∧ RdrAt w' gr lo hi (rS tv i (numR l)).2.1 ∧ Blk w' gc 58 [v0, v1, v2, v3, (.slice (some ⟨g43, 0, none⟩) (numV l) (numV l)), v5, v6, v7, v8, v9] ∧ Blk w' g43 9 (rows tv (numV l) i (numR l)) ∧ Kp [gx, gr, gc] w w') (0) (⟨Nat.zero_le _, by show Blk _ gx _ [.pointer (some ⟨gc, 0, none⟩), .pointer (some ⟨gr, 0, none⟩), .slice none 0 0, .bool (bad || numB l || (rS tv 0 (numR l)).2.2)]; rw [show (rS tv 0 (numR l)).2.2 = false from rfl, Bool.or_false]; exact hb_gx, ⟨_, _, hb_gr, hr18⟩, hb_gc, by rw [rows_0]; exact hb_g43, hK⟩) (⟨rfl, rfl, rfl, rfl, rfl, trivial⟩) ?_
  rintro i wq ⟨hi0, hb_gx, ⟨A9, c9, hb_gr, hr9⟩, hb_gc, hb_g43, hK⟩
  show WC _ _ _ _ [(0, (.pointer (some ⟨gx, 0, none⟩))), (1, (.pointer (some ⟨gc, 4, none⟩))), (4, (.func (.func 57) #[] #[])), (48, (.int .i64 (↑(numV l) : Int))), (49, (.int .i64 (↑i : Int)))] _
  have hsq := hK.size
  have hrl := (rS_len tv (numR l) i).2
  refine wc_seq (wc_regionL ?_)
  refine wl_val (ov_lss rfl rfl) rfl rfl rfl ?_
  refine q_nil (k_then (wc_seq ?_))
  refine wc_cond_d rfl (fun hc3 => ?_) (fun hc3 => ?_)
  · refine q_skip (k_then (wc_seq (wc_block (wc_seq (wc_regionL ?_)))))
    refine vm rfl rfl ?_
    refine va rfl rfl ?_
    refine q_nil (k_then (wc_regionL ?_))
    iterate 2 refine vm rfl rfl ?_
    refine vn rfl rfl ?_
    refine wl_val (ov_loadAt oc56 rfl hb_gc rfl) rfl rfl rfl ?_
    refine vm rfl rfl ?_
    refine wl_val (ov_oindex sl56 rfl rfl rfl (by omega)) rfl rfl rfl ?_
    refine vm rfl rfl ?_
    refine wl_step (or_call0 cl53 rfl rfl (partr _ gx gc gr _ _ A9 c9 (rS tv i (numR l)).2.1 (bad || numB l || (rS tv i (numR l)).2.2) hb_gx hb_gr hr9 (by omega) (by omega) (by omega) (by omega) g43 i _ (rows tv (numV l) i (numR l)) hb_g43 (by rw [rows_len _ _ (by omega)]; omega) (by omega) (by omega) (by omega) tv 57 cl57 tv_any)) rfl rfl rfl ?_
    rintro v w6 ⟨rfl, hN59, ⟨A59, c59, hQ59, hr59⟩, hT59, hK59⟩
    have hz_hK59 := hK59.size
    replace hb_gc := hK59.bk hb_gc (by intro hg; simp at hg; omega)
    replace hK := Kp.tr hK hK59 (by intro x hx; simp only [List.mem_cons, List.not_mem_nil, or_false] at hx ⊢; omega)
    replace hb_gx := hN59
    replace hb_gr := hQ59
    replace hb_g43 := hT59
    have hlr59 := partR_len (rS tv i (numR l)).2.1
    have hlv59 := partV_len (rS tv i (numR l)).2.1
    refine q_nil (k_block (k_then (wc_regionL ?_)))
    refine wl_val (ov_add rfl rfl (wi64 (by omega) (by omega))) rfl rfl rfl ?_
    refine vm rfl rfl ?_
    refine q_nil ?_
    refine k_loop (i + 1) (by show numV l - (i + 1) < numV l - i; omega) (⟨rfl, rfl, rfl, rfl, rfl, trivial⟩) (⟨by omega, by show Blk _ gx _ [.pointer (some ⟨gc, 0, none⟩), .pointer (some ⟨gr, 0, none⟩), .slice none 0 0, .bool (bad || numB l || (rS tv (i + 1) (numR l)).2.2)]; rw [show (rS tv (i + 1) (numR l)).2.2 = ((rS tv i (numR l)).2.2 || partB tv (rS tv i (numR l)).2.1) from rfl, ← Bool.or_assoc]; exact hb_gx, ⟨_, _, hb_gr, hr59⟩, hb_gc, by rw [← rows_set _ _ (by omega)]; exact hb_g43, hK⟩)
  · have hin : i = numV l := by omega
    subst hin
    rw [rows_n] at hb_g43
    have hrn := (rS_len tv (numR l) (numV l)).1
    have hrd := hb_g43.rdL (lo := w.heap.size) (size := 1) (n := numV l) (by rw [flat_strc, List.length_map]; omega) (by simp only [maxLen]; omega) (by omega)
    refine q_exit (k_thenX (k_thenX (k_blockE ?_)))
    refine e_end0 rfl ?_
    refine ⟨rfl, hb_gx, ⟨_, _, hb_gr, hr9⟩, ⟨some ⟨g43, 0, none⟩, numV l, ?_, ?_⟩, hK⟩
    · rw [hrn]; exact hb_gc
    · show Rd _ _ _ _ _ (List.length _) _ _
      rw [hrn]; exact hrd

theorem listTr_bad (w : World) (gx gc gr lo hi : Nat) (A : Option Addr) (c : Nat) (l : List UInt8) (bad : Bool) (hb_gx : Blk w gx 92 [.pointer (some ⟨gc, 0, none⟩), .pointer (some ⟨gr, 0, none⟩), .slice none 0 0, .bool bad]) (hb_gr : Blk w gr 101 [.bool true, .slice A l.length c]) (hr : RdB w lo hi A c l) (hgx : gx ≠ gr) (hxo : gx < lo ∨ hi ≤ gx) (hro : gr < lo ∨ hi ≤ gr) (hlen : l.length ≤ 140737488355328) (v0 v1 v2 v3 v5 v6 v7 v8 v9 : Value) (hb_gc : Blk w gc 58 [v0, v1, v2, v3, .slice none 0 0, v5, v6, v7, v8, v9]) (hcx : gc ≠ gx) (hcr : gc ≠ gr) (hco : gc < lo ∨ hi ≤ gc) (hhi : hi ≤ w.heap.size) (h1 : numV l < 0 ∨ 16 < numV l) :
    Fn Try.prog 56 #[(.pointer (some ⟨gx, 0, none⟩)), (.pointer (some ⟨gc, 4, none⟩)), (.int .i64 0), (.int .i64 16), (.func (.func 57) #[] #[])] w (fun v w' => v = .tuple #[] ∧ Blk w' gx 92 [.pointer (some ⟨gc, 0, none⟩), .pointer (some ⟨gr, 0, none⟩), .slice none 0 0, .bool true] ∧ RdrAt w' gr lo hi (numR l) ∧ (∃ K ck, Blk w' gc 58 [v0, v1, v2, v3, .slice K (([] : List (List UInt8))).length ck, v5, v6, v7, v8, v9] ∧ RdS w' w.heap.size w'.heap.size K ck (([] : List (List UInt8)))) ∧ Kp [gx, gr, gc] w w')  := by
  have hK := Kp.refl [gx, gr, gc] w
  have hgxl := hb_gx.lt
  have hgrl := hb_gr.lt
  have hgcl := hb_gc.lt
  refine fn_enter (args := [(.pointer (some ⟨gx, 0, none⟩)), (.pointer (some ⟨gc, 4, none⟩)), (.int .i64 0), (.int .i64 16), (.func (.func 57) #[] #[])]) Try.func56 rfl rfl rfl ?_
  show WC _ _ _ _ [(0, (.pointer (some ⟨gx, 0, none⟩))), (1, (.pointer (some ⟨gc, 4, none⟩))), (2, (.int .i64 0)), (3, (.int .i64 16)), (4, (.func (.func 57) #[] #[]))] _
  refine wc_seq (wc_regionL ?_)
  refine vm rfl rfl ?_
  refine vn rfl rfl ?_
  refine wl_val (ov_loadAt oc56 rfl hb_gc rfl) rfl rfl rfl ?_
  refine wl_val (ov_len Try.underlying56 rfl) rfl rfl rfl ?_
  refine wl_val (ov_conv Try.underlying3 Try.underlying25 (m := 0) rfl (by decide)) rfl rfl rfl ?_
  refine wl_step (or_alloc (cs := [(.int .u64 0)]) ze25 rfl) rfl rfl rfl ?_
  rintro v w1 ⟨g10, rfl, hb_g10, he10, hl10, hu10⟩
  replace hb_gx := hb_gx.ext he10
  replace hb_gr := hb_gr.ext he10
  replace hr := hr.ext he10
  replace hK := Kp.te hK he10
  replace hb_gc := hb_gc.ext he10
  have hz_he10 := he10.size
  refine wl_step0 (or_storeAt (cs' := [(.int .u64 0)]) sz25 rfl rfl rfl hb_g10 rfl rfl) rfl rfl ?_
  rintro _ w2 ⟨hN2, hg2⟩
  have hz_hg2 := hg2.size
  replace hb_gx := hb_gx.gr hg2 (by intro e; cases e; omega)
  replace hb_gr := hb_gr.gr hg2 (by intro e; cases e; omega)
  replace hr := hr.gr hg2 (fun _ e => by cases e; omega)
  replace hK := Kp.tg hK hg2 (by first | (left; simp; done) | (right; omega))
  replace hb_gc := hb_gc.gr hg2 (by intro e; cases e; omega)
  replace hb_g10 := hN2
  refine q_nil (k_then (wc_seq (wc_regionL ?_)))
  refine vm rfl rfl ?_
  refine wl_step (or_call0 cl59 rfl rfl (numr _ gx gc gr _ _ A c l bad hb_gx hb_gr hr (by omega) (by omega) (by omega) (by omega) g10 0 _ _ hb_g10 (Nat.le_of_ble_eq_true rfl) (by omega) (by omega) (by omega))) rfl rfl rfl ?_
  rintro v w3 ⟨rfl, hN18, ⟨A18, c18, hQ18, hr18⟩, hT18, hK18⟩
  have hz_hK18 := hK18.size
  replace hK := Kp.tr hK hK18 (by intro x hx; simp only [List.mem_cons, List.not_mem_nil, or_false] at hx ⊢; omega)
  replace hb_gc := hK18.bk hb_gc (by intro hg; simp at hg; omega)
  replace hb_gx := hN18
  replace hb_gr := hQ18
  replace hb_g10 : Blk _ g10 _ [(.int .u64 (↑(numV l) : Int))] := hT18
  have hlr18 := numR_len l
  have hlv18 := numV_lt l
  refine q_nil (k_then (wc_seq (wc_seq (wc_regionL ?_))))
  refine wl_val (ov_loadAt oc25 rfl hb_g10 rfl) rfl rfl rfl ?_
  refine vm rfl rfl ?_
  refine wl_val (ov_conv Try.underlying3 Try.underlying25 (m := 0) rfl (by decide)) rfl rfl rfl ?_
  refine wl_val (ov_lss rfl rfl) rfl rfl rfl ?_
  refine wl_spell (d := 22) rfl (bf (by omega)) ?_
  refine vm rfl rfl ?_
  refine wl_gval (ov_loadAt oc25 rfl hb_g10 rfl) rfl rfl rfl rfl rfl ?_
  refine wl_gval (ov_move rfl) rfl rfl rfl rfl rfl ?_
  refine wl_gval (ov_conv Try.underlying3 Try.underlying25 (m := 16) rfl (by decide)) rfl rfl rfl rfl rfl ?_
  refine wl_gval (ov_gtr rfl rfl) rfl rfl rfl rfl rfl ?_
  refine wl_spell (d := 27) rfl (bt (by omega)) ?_
  refine wl_val (ov_pick_f rfl rfl) rfl rfl rfl ?_
  refine q_nil (k_then ?_)
  refine wc_cond_t rfl ?_
  refine wc_seq (wc_regionL ?_)
  refine vm rfl rfl ?_
  refine vn rfl rfl ?_
  refine wl_val (ov_field0 (off := 3) fo92_3 rfl) rfl rfl rfl ?_
  refine wl_step0 (or_storeAt (cs' := [(.pointer (some ⟨gc, 0, none⟩)), (.pointer (some ⟨gr, 0, none⟩)), (.slice none 0 0), (.bool true)]) sz4 rfl rfl rfl hb_gx rfl rfl) rfl rfl ?_
  rintro _ w4 ⟨hN4, hg4⟩
  have hz_hg4 := hg4.size
  replace hK := Kp.tg hK hg4 (by first | (left; simp; done) | (right; omega))
  replace hb_gc := hb_gc.gr hg4 (by intro e; cases e; omega)
  replace hb_gr := hb_gr.gr hg4 (by intro e; cases e; omega)
  replace hr18 := hr18.gr hg4 (fun _ e => by cases e; omega)
  replace hb_g10 := hb_g10.gr hg4 (by intro e; cases e; omega)
  replace hb_gx := hN4
  refine q_nil (k_then (q_ret (k_thenR ?_)))
  refine e_ret0 rfl ?_
  exact ⟨rfl, hb_gx, ⟨_, _, hb_gr, hr18⟩, ⟨none, 0, hb_gc, Rd.nil _ _ _ _ _ _ (Nat.zero_le _)⟩, hK⟩

theorem listTr_zero (w : World) (gx gc gr lo hi : Nat) (A : Option Addr) (c : Nat) (l : List UInt8) (bad : Bool) (hb_gx : Blk w gx 92 [.pointer (some ⟨gc, 0, none⟩), .pointer (some ⟨gr, 0, none⟩), .slice none 0 0, .bool bad]) (hb_gr : Blk w gr 101 [.bool true, .slice A l.length c]) (hr : RdB w lo hi A c l) (hgx : gx ≠ gr) (hxo : gx < lo ∨ hi ≤ gx) (hro : gr < lo ∨ hi ≤ gr) (hlen : l.length ≤ 140737488355328) (v0 v1 v2 v3 v5 v6 v7 v8 v9 : Value) (hb_gc : Blk w gc 58 [v0, v1, v2, v3, .slice none 0 0, v5, v6, v7, v8, v9]) (hcx : gc ≠ gx) (hcr : gc ≠ gr) (hco : gc < lo ∨ hi ≤ gc) (hhi : hi ≤ w.heap.size) (h0 : numV l = 0) :
    Fn Try.prog 56 #[(.pointer (some ⟨gx, 0, none⟩)), (.pointer (some ⟨gc, 4, none⟩)), (.int .i64 0), (.int .i64 16), (.func (.func 57) #[] #[])] w (fun v w' => v = .tuple #[] ∧ Blk w' gx 92 [.pointer (some ⟨gc, 0, none⟩), .pointer (some ⟨gr, 0, none⟩), .slice none 0 0, .bool (bad || numB l)] ∧ RdrAt w' gr lo hi (numR l) ∧ (∃ K ck, Blk w' gc 58 [v0, v1, v2, v3, .slice K (([] : List (List UInt8))).length ck, v5, v6, v7, v8, v9] ∧ RdS w' w.heap.size w'.heap.size K ck (([] : List (List UInt8)))) ∧ Kp [gx, gr, gc] w w')  := by
  have hK := Kp.refl [gx, gr, gc] w
  have hgxl := hb_gx.lt
  have hgrl := hb_gr.lt
  have hgcl := hb_gc.lt
  refine fn_enter (args := [(.pointer (some ⟨gx, 0, none⟩)), (.pointer (some ⟨gc, 4, none⟩)), (.int .i64 0), (.int .i64 16), (.func (.func 57) #[] #[])]) Try.func56 rfl rfl rfl ?_
  show WC _ _ _ _ [(0, (.pointer (some ⟨gx, 0, none⟩))), (1, (.pointer (some ⟨gc, 4, none⟩))), (2, (.int .i64 0)), (3, (.int .i64 16)), (4, (.func (.func 57) #[] #[]))] _
  refine wc_seq (wc_regionL ?_)
  refine vm rfl rfl ?_
  refine vn rfl rfl ?_
  refine wl_val (ov_loadAt oc56 rfl hb_gc rfl) rfl rfl rfl ?_
  refine wl_val (ov_len Try.underlying56 rfl) rfl rfl rfl ?_
  refine wl_val (ov_conv Try.underlying3 Try.underlying25 (m := 0) rfl (by decide)) rfl rfl rfl ?_
  refine wl_step (or_alloc (cs := [(.int .u64 0)]) ze25 rfl) rfl rfl rfl ?_
  rintro v w1 ⟨g10, rfl, hb_g10, he10, hl10, hu10⟩
  replace hb_gx := hb_gx.ext he10
  replace hb_gr := hb_gr.ext he10
  replace hr := hr.ext he10
  replace hK := Kp.te hK he10
  replace hb_gc := hb_gc.ext he10
  have hz_he10 := he10.size
  refine wl_step0 (or_storeAt (cs' := [(.int .u64 0)]) sz25 rfl rfl rfl hb_g10 rfl rfl) rfl rfl ?_
  rintro _ w2 ⟨hN2, hg2⟩
  have hz_hg2 := hg2.size
  replace hb_gx := hb_gx.gr hg2 (by intro e; cases e; omega)
  replace hb_gr := hb_gr.gr hg2 (by intro e; cases e; omega)
  replace hr := hr.gr hg2 (fun _ e => by cases e; omega)
  replace hK := Kp.tg hK hg2 (by first | (left; simp; done) | (right; omega))
  replace hb_gc := hb_gc.gr hg2 (by intro e; cases e; omega)
  replace hb_g10 := hN2
  refine q_nil (k_then (wc_seq (wc_regionL ?_)))
  refine vm rfl rfl ?_
  refine wl_step (or_call0 cl59 rfl rfl (numr _ gx gc gr _ _ A c l bad hb_gx hb_gr hr (by omega) (by omega) (by omega) (by omega) g10 0 _ _ hb_g10 (Nat.le_of_ble_eq_true rfl) (by omega) (by omega) (by omega))) rfl rfl rfl ?_
  rintro v w3 ⟨rfl, hN18, ⟨A18, c18, hQ18, hr18⟩, hT18, hK18⟩
  have hz_hK18 := hK18.size
  replace hK := Kp.tr hK hK18 (by intro x hx; simp only [List.mem_cons, List.not_mem_nil, or_false] at hx ⊢; omega)
  replace hb_gc := hK18.bk hb_gc (by intro hg; simp at hg; omega)
  replace hb_gx := hN18
  replace hb_gr := hQ18
  replace hb_g10 : Blk _ g10 _ [(.int .u64 (↑(numV l) : Int))] := hT18
  have hlr18 := numR_len l
  have hlv18 := numV_lt l
  refine q_nil (k_then (wc_seq (wc_seq (wc_regionL ?_))))
  refine wl_val (ov_loadAt oc25 rfl hb_g10 rfl) rfl rfl rfl ?_
  refine vm rfl rfl ?_
  refine wl_val (ov_conv Try.underlying3 Try.underlying25 (m := 0) rfl (by decide)) rfl rfl rfl ?_
  refine wl_val (ov_lss rfl rfl) rfl rfl rfl ?_
  refine wl_spell (d := 22) rfl (bf (by omega)) ?_
  refine vm rfl rfl ?_
  refine wl_gval (ov_loadAt oc25 rfl hb_g10 rfl) rfl rfl rfl rfl rfl ?_
  refine wl_gval (ov_move rfl) rfl rfl rfl rfl rfl ?_
  refine wl_gval (ov_conv Try.underlying3 Try.underlying25 (m := 16) rfl (by decide)) rfl rfl rfl rfl rfl ?_
  refine wl_gval (ov_gtr rfl rfl) rfl rfl rfl rfl rfl ?_
  refine wl_spell (d := 27) rfl (bf (by omega)) ?_
  refine wl_val (ov_pick_f rfl rfl) rfl rfl rfl ?_
  refine q_nil (k_then ?_)
  refine wc_cond_f rfl ?_
  refine q_skip (k_then (wc_seq (wc_seq (wc_regionL ?_))))
  refine vm rfl rfl ?_
  refine vn rfl rfl ?_
  refine wl_val (ov_field0 (off := 1) fo92_1 rfl) rfl rfl rfl ?_
  refine wl_val (ov_loadAt oc83 rfl hb_gx rfl) rfl rfl rfl ?_
  refine wl_val (ov_nnilptr Try.underlying83 rfl) rfl rfl rfl ?_
  refine vm rfl rfl ?_
  refine wl_gval (ov_loadAt oc25 rfl hb_g10 rfl) rfl rfl rfl rfl rfl ?_
  refine wl_gval (ov_gtr rfl rfl) rfl rfl rfl rfl rfl ?_
  refine wl_spell (d := 39) rfl (bf (by omega)) ?_
  refine wl_val (ov_pick_t rfl rfl) rfl rfl rfl ?_
  refine q_nil (k_then ?_)
  refine wc_cond_f rfl ?_
  refine q_skip (k_then (wc_seq (wc_regionL ?_)))
  refine vm rfl rfl ?_
  refine vn rfl rfl ?_
  refine wl_val (ov_loadAt oc56 rfl hb_gc rfl) rfl rfl rfl ?_
  refine wl_val (ov_len Try.underlying56 rfl) rfl rfl rfl ?_
  refine vm rfl rfl ?_
  refine q_nil (k_then (wc_block ?_))
  refine wc_loop (σ := Nat) (fun i => i) (fun i => [(0, .pointer (some ⟨gx, 0, none⟩)), (1, .pointer (some ⟨gc, 4, none⟩)), (4, .func (.func 57) #[] #[]), (48, .int .i64 0), (49, .int .i64 0)]) (fun i w' => Blk w' gx 92 [.pointer (some ⟨gc, 0, none⟩), .pointer (some ⟨gr, 0, none⟩), .slice none 0 0, .bool (bad || numB l)] ∧ RdrAt w' gr lo hi (numR l) ∧ Blk w' gc 58 [v0, v1, v2, v3, .slice none 0 0, v5, v6, v7, v8, v9] ∧ Kp [gx, gr, gc] w w') (0) (⟨hb_gx, ⟨_, _, hb_gr, hr18⟩, hb_gc, hK⟩) (⟨rfl, rfl, rfl, rfl, rfl, trivial⟩) ?_
  rintro i wq ⟨hb_gx, ⟨A9, c9, hb_gr, hr9⟩, hb_gc, hK⟩
  show WC _ _ _ _ [(0, (.pointer (some ⟨gx, 0, none⟩))), (1, (.pointer (some ⟨gc, 4, none⟩))), (4, (.func (.func 57) #[] #[])), (48, (.int .i64 0)), (49, (.int .i64 0))] _
  refine wc_seq (wc_regionL ?_)
  refine wl_val (ov_lss rfl rfl) rfl rfl rfl ?_
  refine q_nil (k_then (wc_seq ?_))
  refine wc_cond_f rfl ?_
  refine q_exit (k_thenX (k_thenX (k_blockE ?_)))
  refine e_end0 rfl ?_
  exact ⟨rfl, hb_gx, ⟨_, _, hb_gr, hr9⟩, ⟨none, 0, hb_gc, Rd.nil _ _ _ _ _ _ (Nat.zero_le _)⟩, hK⟩

theorem listTr (w : World) (gx gc gr lo hi : Nat) (A : Option Addr) (c : Nat) (l : List UInt8) (bad : Bool) (hb_gx : Blk w gx 92 [.pointer (some ⟨gc, 0, none⟩), .pointer (some ⟨gr, 0, none⟩), .slice none 0 0, .bool bad]) (hb_gr : Blk w gr 101 [.bool true, .slice A l.length c]) (hr : RdB w lo hi A c l) (hgx : gx ≠ gr) (hxo : gx < lo ∨ hi ≤ gx) (hro : gr < lo ∨ hi ≤ gr) (hlen : l.length ≤ 140737488355328) (v0 v1 v2 v3 v5 v6 v7 v8 v9 : Value) (hb_gc : Blk w gc 58 [v0, v1, v2, v3, .slice none 0 0, v5, v6, v7, v8, v9]) (hcx : gc ≠ gx) (hcr : gc ≠ gr) (hco : gc < lo ∨ hi ≤ gc) (hhi : hi ≤ w.heap.size) :
    Fn Try.prog 56 #[.pointer (some ⟨gx, 0, none⟩), .pointer (some ⟨gc, 4, none⟩), .int .i64 0, .int .i64 16, .func (.func 57) #[] #[]] w (fun v w' => v = .tuple #[] ∧ Blk w' gx 92 [.pointer (some ⟨gc, 0, none⟩), .pointer (some ⟨gr, 0, none⟩), .slice none 0 0, .bool (bad || rlB 0 16 tv l)] ∧ RdrAt w' gr lo hi (rlR 0 16 l) ∧ (∃ K ck, Blk w' gc 58 [v0, v1, v2, v3, .slice K (rlV 0 16 l).length ck, v5, v6, v7, v8, v9] ∧ RdS w' w.heap.size w'.heap.size K ck (rlV 0 16 l)) ∧ Kp [gx, gr, gc] w w') := by
  by_cases h : numV l < 0 ∨ 16 < numV l
  · obtain ⟨e1, e2, e3⟩ := rl_bad (al := tv) h
    rw [e1, e2, e3, Bool.or_true]; exact listTr_bad w gx gc gr lo hi A c l bad hb_gx hb_gr hr hgx hxo hro hlen v0 v1 v2 v3 v5 v6 v7 v8 v9 hb_gc hcx hcr hco hhi h
  · obtain ⟨e1, e2, e3⟩ := rl_ok tv h
    rw [e1, e2, e3, ← Bool.or_assoc]
    by_cases h0 : numV l = 0
    · rw [h0, show rS tv 0 (numR l) = ([], numR l, false) from rfl, Bool.or_false]; exact listTr_zero w gx gc gr lo hi A c l bad hb_gx hb_gr hr hgx hxo hro hlen v0 v1 v2 v3 v5 v6 v7 v8 v9 hb_gc hcx hcr hco hhi h0
    · exact listTr_ok w gx gc gr lo hi A c l bad hb_gx hb_gr hr hgx hxo hro hlen v0 v1 v2 v3 v5 v6 v7 v8 v9 hb_gc hcx hcr hco hhi (by omega) (by omega) (by omega)

end Go.Proofs.Ytohnkjjjejnkpaa
