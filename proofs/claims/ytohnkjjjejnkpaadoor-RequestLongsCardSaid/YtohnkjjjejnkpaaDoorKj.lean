/-
  The walk of RequestLongs.
-/
import Derived.Test.YtohnkjjjejnkpaaDoorKi
namespace Go.Proofs.YtohnkjjjejnkpaaDoor
open Go.RowKit
set_option linter.unusedVariables false
set_option maxRecDepth 4000
theorem cl21 : callable Tryd.prog 21 = true := by kernel_rfl
theorem cl25 : callable Tryd.prog 25 = true := by kernel_rfl
theorem cl9 : callable Tryd.prog 9 = true := by kernel_rfl
theorem sl54 : SliceTy Tryd.prog 54 36 10 160 (.agg #[(.int .i64 0), (.string (strB [])), (.slice none 0 0), (.slice none 0 0), (.slice none 0 0), (.int .u64 0), (.int .u64 0), (.string (strB [])), (.string (strB [])), (.string (strB []))]) := sliceTy_mk Tryd.underlying54 (by kernel_rfl) rfl (by decide)

theorem sep_ne {A B : Option Addr} (h : ∀ g, blk A = some g → blk B = some g → False) : blk A = none ∨ blk A ≠ blk B := by
  cases hA : blk A with
  | none => exact .inl rfl
  | some g => exact .inr fun e => h g hA e.symm
theorem rdrep {w : World} {lo hi k c m : Nat} {A : Option Addr} (h : Rd w lo hi 1 A k c ((List.replicate k (List.replicate m (0 : UInt8))).flatMap strc)) : RdS w 0 hi A c (List.replicate k (List.replicate m 0)) := by
  have h2 := h.mono (Nat.zero_le _) (Nat.le_refl _)
  unfold RdS RdR
  rw [List.length_replicate]
  exact h2

theorem requestLongs_a (w : World) (hW : WordsAt w) (more parts : Int) (h : more < -2) :
    Fn Tryd.prog 7 #[(.int .i64 more), (.int .i64 parts)] w (fun v w' => v = .bool true ∧ Ext w w')  := by
  have hE := ext_refl w
  refine fn_enter (args := [(.int .i64 more), (.int .i64 parts)]) Tryd.func7 rfl rfl rfl ?_
  show WC _ _ _ _ [(0, (.int .i64 more)), (1, (.int .i64 parts))] _
  refine wc_seq (wc_regionL ?_)
  refine va rfl rfl ?_
  refine q_nil (k_then (wc_seq (wc_seq (wc_regionL ?_))))
  refine vm rfl rfl ?_
  refine wl_val (ov_lss rfl rfl) rfl rfl rfl ?_
  refine wl_spell (d := 11) rfl (bt (by omega)) ?_
  refine vm rfl rfl ?_
  iterate 2 refine wl_gskip rfl rfl rfl rfl rfl rfl ?_
  refine wl_val (ov_pick_t rfl rfl) rfl rfl rfl ?_
  refine vm rfl rfl ?_
  iterate 2 refine wl_gskip rfl rfl rfl rfl rfl rfl ?_
  refine wl_val (ov_pick_t rfl rfl) rfl rfl rfl ?_
  refine vm rfl rfl ?_
  iterate 2 refine wl_gskip rfl rfl rfl rfl rfl rfl ?_
  refine wl_val (ov_pick_t rfl rfl) rfl rfl rfl ?_
  refine q_nil (k_then ?_)
  refine wc_cond_t rfl ?_
  refine wc_seq (wc_regionL ?_)
  refine wl_step (or_call0 cl9 rfl rfl (known07_any _ (hW.ext hE))) rfl rfl rfl ?_
  rintro v w1 ⟨rfl, he24⟩
  replace hE := hE.tr he24
  have hz_he24 := he24.size
  refine va rfl rfl ?_
  refine q_nil (k_then (q_ret (k_thenR ?_)))
  refine e_ret rfl rfl ?_
  exact ⟨rfl, hE⟩

theorem requestLongs_b (w : World) (hW : WordsAt w) (more parts : Int) (h0 : -2 ≤ more) (h : 2 < more) :
    Fn Tryd.prog 7 #[(.int .i64 more), (.int .i64 parts)] w (fun v w' => v = .bool true ∧ Ext w w')  := by
  have hE := ext_refl w
  refine fn_enter (args := [(.int .i64 more), (.int .i64 parts)]) Tryd.func7 rfl rfl rfl ?_
  show WC _ _ _ _ [(0, (.int .i64 more)), (1, (.int .i64 parts))] _
  refine wc_seq (wc_regionL ?_)
  refine va rfl rfl ?_
  refine q_nil (k_then (wc_seq (wc_seq (wc_regionL ?_))))
  refine vm rfl rfl ?_
  refine wl_val (ov_lss rfl rfl) rfl rfl rfl ?_
  refine wl_spell (d := 11) rfl (bf (by omega)) ?_
  refine vm rfl rfl ?_
  refine wl_gval (ov_move rfl) rfl rfl rfl rfl rfl ?_
  refine wl_gval (ov_gtr rfl rfl) rfl rfl rfl rfl rfl ?_
  refine wl_spell (d := 14) rfl (bt (by omega)) ?_
  refine wl_val (ov_pick_f rfl rfl) rfl rfl rfl ?_
  refine vm rfl rfl ?_
  iterate 2 refine wl_gskip rfl rfl rfl rfl rfl rfl ?_
  refine wl_val (ov_pick_t rfl rfl) rfl rfl rfl ?_
  refine vm rfl rfl ?_
  iterate 2 refine wl_gskip rfl rfl rfl rfl rfl rfl ?_
  refine wl_val (ov_pick_t rfl rfl) rfl rfl rfl ?_
  refine q_nil (k_then ?_)
  refine wc_cond_t rfl ?_
  refine wc_seq (wc_regionL ?_)
  refine wl_step (or_call0 cl9 rfl rfl (known07_any _ (hW.ext hE))) rfl rfl rfl ?_
  rintro v w1 ⟨rfl, he24⟩
  replace hE := hE.tr he24
  have hz_he24 := he24.size
  refine va rfl rfl ?_
  refine q_nil (k_then (q_ret (k_thenR ?_)))
  refine e_ret rfl rfl ?_
  exact ⟨rfl, hE⟩

theorem requestLongs_c (w : World) (hW : WordsAt w) (more parts : Int) (h0 : -2 ≤ more) (h1 : more ≤ 2) (h : parts < -2) :
    Fn Tryd.prog 7 #[(.int .i64 more), (.int .i64 parts)] w (fun v w' => v = .bool true ∧ Ext w w')  := by
  have hE := ext_refl w
  refine fn_enter (args := [(.int .i64 more), (.int .i64 parts)]) Tryd.func7 rfl rfl rfl ?_
  show WC _ _ _ _ [(0, (.int .i64 more)), (1, (.int .i64 parts))] _
  refine wc_seq (wc_regionL ?_)
  refine va rfl rfl ?_
  refine q_nil (k_then (wc_seq (wc_seq (wc_regionL ?_))))
  refine vm rfl rfl ?_
  refine wl_val (ov_lss rfl rfl) rfl rfl rfl ?_
  refine wl_spell (d := 11) rfl (bf (by omega)) ?_
  refine vm rfl rfl ?_
  refine wl_gval (ov_move rfl) rfl rfl rfl rfl rfl ?_
  refine wl_gval (ov_gtr rfl rfl) rfl rfl rfl rfl rfl ?_
  refine wl_spell (d := 14) rfl (bf (by omega)) ?_
  refine wl_val (ov_pick_f rfl rfl) rfl rfl rfl ?_
  refine vm rfl rfl ?_
  refine wl_gval (ov_move rfl) rfl rfl rfl rfl rfl ?_
  refine wl_gval (ov_lss rfl rfl) rfl rfl rfl rfl rfl ?_
  refine wl_spell (d := 18) rfl (bt (by omega)) ?_
  refine wl_val (ov_pick_f rfl rfl) rfl rfl rfl ?_
  refine vm rfl rfl ?_
  iterate 2 refine wl_gskip rfl rfl rfl rfl rfl rfl ?_
  refine wl_val (ov_pick_t rfl rfl) rfl rfl rfl ?_
  refine q_nil (k_then ?_)
  refine wc_cond_t rfl ?_
  refine wc_seq (wc_regionL ?_)
  refine wl_step (or_call0 cl9 rfl rfl (known07_any _ (hW.ext hE))) rfl rfl rfl ?_
  rintro v w1 ⟨rfl, he24⟩
  replace hE := hE.tr he24
  have hz_he24 := he24.size
  refine va rfl rfl ?_
  refine q_nil (k_then (q_ret (k_thenR ?_)))
  refine e_ret rfl rfl ?_
  exact ⟨rfl, hE⟩

theorem requestLongs_d (w : World) (hW : WordsAt w) (more parts : Int) (h0 : -2 ≤ more) (h1 : more ≤ 2) (h2 : -2 ≤ parts) (h : 2 < parts) :
    Fn Tryd.prog 7 #[(.int .i64 more), (.int .i64 parts)] w (fun v w' => v = .bool true ∧ Ext w w')  := by
  have hE := ext_refl w
  refine fn_enter (args := [(.int .i64 more), (.int .i64 parts)]) Tryd.func7 rfl rfl rfl ?_
  show WC _ _ _ _ [(0, (.int .i64 more)), (1, (.int .i64 parts))] _
  refine wc_seq (wc_regionL ?_)
  refine va rfl rfl ?_
  refine q_nil (k_then (wc_seq (wc_seq (wc_regionL ?_))))
  refine vm rfl rfl ?_
  refine wl_val (ov_lss rfl rfl) rfl rfl rfl ?_
  refine wl_spell (d := 11) rfl (bf (by omega)) ?_
  refine vm rfl rfl ?_
  refine wl_gval (ov_move rfl) rfl rfl rfl rfl rfl ?_
  refine wl_gval (ov_gtr rfl rfl) rfl rfl rfl rfl rfl ?_
  refine wl_spell (d := 14) rfl (bf (by omega)) ?_
  refine wl_val (ov_pick_f rfl rfl) rfl rfl rfl ?_
  refine vm rfl rfl ?_
  refine wl_gval (ov_move rfl) rfl rfl rfl rfl rfl ?_
  refine wl_gval (ov_lss rfl rfl) rfl rfl rfl rfl rfl ?_
  refine wl_spell (d := 18) rfl (bf (by omega)) ?_
  refine wl_val (ov_pick_f rfl rfl) rfl rfl rfl ?_
  refine vm rfl rfl ?_
  refine wl_gval (ov_move rfl) rfl rfl rfl rfl rfl ?_
  refine wl_gval (ov_gtr rfl rfl) rfl rfl rfl rfl rfl ?_
  refine wl_spell (d := 22) rfl (bt (by omega)) ?_
  refine wl_val (ov_pick_f rfl rfl) rfl rfl rfl ?_
  refine q_nil (k_then ?_)
  refine wc_cond_t rfl ?_
  refine wc_seq (wc_regionL ?_)
  refine wl_step (or_call0 cl9 rfl rfl (known07_any _ (hW.ext hE))) rfl rfl rfl ?_
  rintro v w1 ⟨rfl, he24⟩
  replace hE := hE.tr he24
  have hz_he24 := he24.size
  refine va rfl rfl ?_
  refine q_nil (k_then (q_ret (k_thenR ?_)))
  refine e_ret rfl rfl ?_
  exact ⟨rfl, hE⟩

set_option maxHeartbeats 1000000 in
theorem requestLongs_e (w : World) (hW : WordsAt w) (more parts : Int) (h0 : -2 ≤ more) (h1 : more ≤ 2) (h2 : -2 ≤ parts) (h3 : parts ≤ 2) (nv np : Nat) (hnv : 65536 + more = (nv : Int)) (hnp : 16 + parts = (np : Int)) :
    Fn Tryd.prog 7 #[(.int .i64 more), (.int .i64 parts)] w (fun v w' => v = .bool true ∧ Ext w w')  := by
  have hE := ext_refl w
  refine fn_enter (args := [(.int .i64 more), (.int .i64 parts)]) Tryd.func7 rfl rfl rfl ?_
  show WC _ _ _ _ [(0, (.int .i64 more)), (1, (.int .i64 parts))] _
  refine wc_seq (wc_regionL ?_)
  refine va rfl rfl ?_
  refine q_nil (k_then (wc_seq (wc_seq (wc_regionL ?_))))
  refine vm rfl rfl ?_
  refine wl_val (ov_lss rfl rfl) rfl rfl rfl ?_
  refine wl_spell (d := 11) rfl (bf (by omega)) ?_
  refine vm rfl rfl ?_
  refine wl_gval (ov_move rfl) rfl rfl rfl rfl rfl ?_
  refine wl_gval (ov_gtr rfl rfl) rfl rfl rfl rfl rfl ?_
  refine wl_spell (d := 14) rfl (bf (by omega)) ?_
  refine wl_val (ov_pick_f rfl rfl) rfl rfl rfl ?_
  refine vm rfl rfl ?_
  refine wl_gval (ov_move rfl) rfl rfl rfl rfl rfl ?_
  refine wl_gval (ov_lss rfl rfl) rfl rfl rfl rfl rfl ?_
  refine wl_spell (d := 18) rfl (bf (by omega)) ?_
  refine wl_val (ov_pick_f rfl rfl) rfl rfl rfl ?_
  refine vm rfl rfl ?_
  refine wl_gval (ov_move rfl) rfl rfl rfl rfl rfl ?_
  refine wl_gval (ov_gtr rfl rfl) rfl rfl rfl rfl rfl ?_
  refine wl_spell (d := 22) rfl (bf (by omega)) ?_
  refine wl_val (ov_pick_f rfl rfl) rfl rfl rfl ?_
  refine q_nil (k_then ?_)
  refine wc_cond_f rfl ?_
  refine q_skip (k_then (wc_seq (wc_regionL ?_)))
  refine vm rfl rfl ?_
  refine wl_val (ov_add rfl rfl (wi64 (by omega) (by omega))) rfl rfl rfl ?_
  refine wl_spell (d := 26) rfl (v' := (.int .i64 (↑nv : Int))) (by rw [hnv]) ?_
  refine wl_step (or_makeBytes (n := nv) bt32 rfl rfl (rfl) (by omega)) rfl rfl rfl ?_
  rintro v w1 ⟨A27, c27, rfl, ho27, he27⟩
  replace hE := hE.tr he27
  have hz_he27 := he27.size
  have hq_ho27 := fun g e => Own.lt ho27 (g := g) e
  refine wl_val (ov_build (cs := [(.int .i64 2), (.string (strB [107])), (.slice none 0 0), (.slice A27 (List.replicate nv 0).length c27), (.slice none 0 0), (.int .u64 1), (.int .u64 0), (.string (strB [])), (.string (strB [])), (.string (strB []))]) ze36 pl36 rfl rfl) rfl rfl rfl ?_
  refine wl_step (or_alloc (cs := [(.int .i64 0), (.string (strB [])), (.slice none 0 0), (.slice none 0 0), (.slice none 0 0), (.int .u64 0), (.int .u64 0), (.string (strB [])), (.string (strB [])), (.string (strB []))]) ze36 rfl) rfl rfl rfl ?_
  rintro v w2 ⟨g5, rfl, hb_g5, he5, hl5, hu5⟩
  replace hE := hE.tr he5
  replace ho27 := Own.ext ho27 he5
  have hz_he5 := he5.size
  refine wl_step0 (or_storeBlk (vs := [(.int .i64 2), (.string (strB [107])), (.slice none 0 0), (.slice A27 (List.replicate nv 0).length c27), (.slice none 0 0), (.int .u64 1), (.int .u64 0), (.string (strB [])), (.string (strB [])), (.string (strB []))]) sz36 rfl rfl (by simp [Value.oneCell']) hb_g5 rfl) rfl rfl ?_
  rintro _ w3 ⟨hN3, hg3⟩
  have hz_hg3 := hg3.size
  replace hE := hE.gr hg3 (fun _ e => by cases e; omega)
  replace ho27 := Own.gr ho27 hg3 (by first | exact .inl rfl | (right; intro e; first | (have := hq_ho27 _ e; omega) | (have := Own.lt ho27 e; omega) | exact own_blk_ne ho27 hb_g5 (by decide) e))
  replace hb_g5 := hN3
  refine q_nil (k_then (wc_seq (wc_regionL ?_)))
  refine wl_val (ov_build (cs := [(.int .i64 5), (.string (strB [])), (.slice none 0 0), (.slice none 0 0), (.slice none 0 0), (.int .u64 0), (.int .u64 0), (.string (strB [])), (.string (strB [])), (.string (strB []))]) ze36 pl36 rfl rfl) rfl rfl rfl ?_
  refine wl_step (or_alloc (cs := [(.int .i64 0), (.string (strB [])), (.slice none 0 0), (.slice none 0 0), (.slice none 0 0), (.int .u64 0), (.int .u64 0), (.string (strB [])), (.string (strB [])), (.string (strB []))]) ze36 rfl) rfl rfl rfl ?_
  rintro v w4 ⟨g6, rfl, hb_g6, he6, hl6, hu6⟩
  replace hE := hE.tr he6
  replace ho27 := Own.ext ho27 he6
  replace hb_g5 := hb_g5.ext he6
  have hz_he6 := he6.size
  refine wl_step0 (or_storeBlk (vs := [(.int .i64 5), (.string (strB [])), (.slice none 0 0), (.slice none 0 0), (.slice none 0 0), (.int .u64 0), (.int .u64 0), (.string (strB [])), (.string (strB [])), (.string (strB []))]) sz36 rfl rfl (by simp [Value.oneCell']) hb_g6 rfl) rfl rfl ?_
  rintro _ w5 ⟨hN5, hg5⟩
  have hz_hg5 := hg5.size
  replace hE := hE.gr hg5 (fun _ e => by cases e; omega)
  replace ho27 := Own.gr ho27 hg5 (by first | exact .inl rfl | (right; intro e; first | (have := hq_ho27 _ e; omega) | (have := Own.lt ho27 e; omega) | exact own_blk_ne ho27 hb_g6 (by decide) e))
  replace hb_g5 := hb_g5.gr hg5 (by intro e; cases e; omega)
  replace hb_g6 := hN5
  refine q_nil (k_then (wc_seq (wc_seq (wc_regionL ?_))))
  refine va rfl rfl ?_
  refine q_nil (k_then (wc_block ?_))
  have hoV := ho27
  refine wc_loop (σ := Nat × Option Addr × Nat × Option Addr × Nat) (fun s => np - s.1) (fun s => [(1, .int .i64 parts), (5, .pointer (some ⟨g5, 0, none⟩)), (6, .pointer (some ⟨g6, 0, none⟩)), (7, .int .i64 (s.1 : Int))]) (fun s w' => s.1 ≤ np ∧ Blk w' g5 36 [(.int .i64 2), (.string (strB [107])), (.slice none 0 0), (.slice A27 (List.replicate nv (0 : UInt8)).length c27), (.slice s.2.1 s.1 s.2.2.1), (.int .u64 1), (.int .u64 0), (.string (strB ([] : List UInt8))), (.string (strB ([] : List UInt8))), (.string (strB ([] : List UInt8)))] ∧ Blk w' g6 36 [(.int .i64 5), (.string (strB ([] : List UInt8))), (.slice s.2.2.2.1 s.1 s.2.2.2.2), (.slice none 0 0), (.slice none 0 0), (.int .u64 0), (.int .u64 0), (.string (strB ([] : List UInt8))), (.string (strB ([] : List UInt8))), (.string (strB ([] : List UInt8)))] ∧ OwnB w' w.heap.size 5 A27 c27 (List.replicate nv (0 : UInt8)) ∧ Own w' w.heap.size 9 1 s.2.1 s.1 s.2.2.1 ((List.replicate s.1 (List.replicate 64 (0 : UInt8))).flatMap strc) ∧ Own w' w.heap.size 9 1 s.2.2.2.1 s.1 s.2.2.2.2 ((List.replicate s.1 (List.replicate 250 (0 : UInt8))).flatMap strc) ∧ (∀ g, blk s.2.2.2.1 = some g → blk s.2.1 ≠ some g) ∧ Ext w w') ((0, none, 0, none, 0)) (⟨Nat.zero_le _, hb_g5, hb_g6, hoV, Own.nil_ _ _ _ _, Own.nil_ _ _ _ _, (fun g e => by cases e), hE⟩) (⟨rfl, rfl, rfl, rfl, trivial⟩) ?_
  rintro ⟨i, Bi, di, Ki, ki⟩ wq ⟨hi0, hb_g5, hb_g6, hoV, hoT, hoK, hsep, hE⟩
  show WC _ _ _ _ [(1, (.int .i64 parts)), (5, (.pointer (some ⟨g5, 0, none⟩))), (6, (.pointer (some ⟨g6, 0, none⟩))), (7, (.int .i64 (↑i : Int)))] _
  simp only at hi0
  replace hb_g5 : Blk wq g5 36 [(.int .i64 2), (.string (strB [107])), (.slice none 0 0), (.slice A27 (List.replicate nv (0 : UInt8)).length c27), (.slice Bi i di), (.int .u64 1), (.int .u64 0), (.string (strB ([] : List UInt8))), (.string (strB ([] : List UInt8))), (.string (strB ([] : List UInt8)))] := hb_g5
  replace hb_g6 : Blk wq g6 36 [(.int .i64 5), (.string (strB ([] : List UInt8))), (.slice Ki i ki), (.slice none 0 0), (.slice none 0 0), (.int .u64 0), (.int .u64 0), (.string (strB ([] : List UInt8))), (.string (strB ([] : List UInt8))), (.string (strB ([] : List UInt8)))] := hb_g6
  replace hoT : Own wq w.heap.size 9 1 Bi i di ((List.replicate i (List.replicate 64 (0 : UInt8))).flatMap strc) := hoT
  replace hoK : Own wq w.heap.size 9 1 Ki i ki ((List.replicate i (List.replicate 250 (0 : UInt8))).flatMap strc) := hoK
  replace hsep : ∀ g, blk Ki = some g → blk Bi ≠ some g := hsep
  have hz_E := hE.size
  have hzb5 := hb_g5.lt
  have hzb6 := hb_g6.lt
  have hq_hoV := fun g e => Own.lt hoV (g := g) e
  have hq_hoT := fun g e => Own.lt hoT (g := g) e
  have hq_hoK := fun g e => Own.lt hoK (g := g) e
  refine wc_seq (wc_seq (wc_regionL ?_))
  iterate 2 refine vm rfl rfl ?_
  refine wl_val (ov_add rfl rfl (wi64 (by omega) (by omega))) rfl rfl rfl ?_
  refine wl_val (ov_lss rfl rfl) rfl rfl rfl ?_
  refine q_nil (k_then ?_)
  refine wc_cond_d rfl (fun hc2 => ?_) (fun hc2 => ?_)
  · refine q_skip (k_then (wc_seq (wc_block (wc_seq ?_))))
    refine wc_draw mixed 5 [(36, eqv (.pointer (some ⟨g5, 4, none⟩))), (37, eqv (.slice Bi i di)), (38, isOwnB wq.heap.size 5 (List.replicate 64 0)), (39, eqv (.string (strB (List.replicate 64 0)))), (40, (fun v wz => ∃ g, v = .slice (some ⟨g, 0, none⟩) 1 1 ∧ Blk wz g 9 [.string (strB (List.replicate 64 (0 : UInt8)))]))] [[], [0], [], [2], [3]] _ [] [] (fun _ _ h => h) trivial (by kernel_rfl) rfl ⟨⟨stb_eqv _, fun _ he => by cases he⟩, ⟨stb_eqv _, fun _ he => by cases he⟩, ⟨stb_isOwnB _ _ _, fun _ he => by cases he⟩, ⟨stb_eqv _, fun _ he => by cases he⟩, ⟨(fun v w1 w2 ⟨g, hv, hb⟩ he => ⟨g, hv, hb.ext he⟩), fun _ he => by cases he⟩, trivial⟩ ⟨?_, ?_, ?_, ?_, ?_, trivial⟩ ?_
    · intro wd hxE
      replace hb_g5 := hb_g5.ext hxE
      replace hb_g6 := hb_g6.ext hxE
      replace hoV := Own.ext hoV hxE
      replace hoT := Own.ext hoT hxE
      replace hoK := Own.ext hoK hxE
      replace hE := hE.tr hxE
      have hz_hxE := hxE.size
      show OpG _ _ _ _ _ _
      exact og_plain rfl (ox_val (ov_field0 (off := 4) fo36_4 rfl))
    · intro wd hxE
      replace hb_g5 := hb_g5.ext hxE
      replace hb_g6 := hb_g6.ext hxE
      replace hoV := Own.ext hoV hxE
      replace hoT := Own.ext hoT hxE
      replace hoK := Own.ext hoK hxE
      replace hE := hE.tr hxE
      have hz_hxE := hxE.size
      rintro _ rfl
      show OpG _ _ _ _ _ _
      exact og_plain rfl (ox_val (ov_loadAt oc27 rfl hb_g5 rfl))
    · intro wd hxE
      replace hb_g5 := hb_g5.ext hxE
      replace hb_g6 := hb_g6.ext hxE
      replace hoV := Own.ext hoV hxE
      replace hoT := Own.ext hoT hxE
      replace hoK := Own.ext hoK hxE
      replace hE := hE.tr hxE
      have hz_hxE := hxE.size
      show OpG _ _ _ _ _ _
      refine og_plain rfl (OpRun.mono (or_makeBytes (n := 64) bt32 rfl rfl (by omega) (by omega)) ?_)
      rintro v w6 ⟨A38, c38, rfl, ho38, he38⟩
      replace hb_g5 := hb_g5.ext he38
      replace hb_g6 := hb_g6.ext he38
      replace hoV := Own.ext hoV he38
      replace hoT := Own.ext hoT he38
      replace hoK := Own.ext hoK he38
      replace hE := hE.tr he38
      have hz_he38 := he38.size
      have hq_ho38 := fun g e => Own.lt ho38 (g := g) e
      exact ⟨⟨A38, c38, rfl, Own.mono ho38 (by omega)⟩, he38⟩
    · intro wd hxE
      replace hb_g5 := hb_g5.ext hxE
      replace hb_g6 := hb_g6.ext hxE
      replace hoV := Own.ext hoV hxE
      replace hoT := Own.ext hoT hxE
      replace hoK := Own.ext hoK hxE
      replace hE := hE.tr hxE
      have hz_hxE := hxE.size
      rintro _ ⟨A38, c38, rfl, ho38⟩
      show OpG _ _ _ _ _ _
      exact og_plain rfl (ox_val (ov_bstr bt32 Tryd.underlying9 rfl (OwnB.rd ho38)))
    · intro wd hxE
      replace hb_g5 := hb_g5.ext hxE
      replace hb_g6 := hb_g6.ext hxE
      replace hoV := Own.ext hoV hxE
      replace hoT := Own.ext hoT hxE
      replace hoK := Own.ext hoK hxE
      replace hE := hE.tr hxE
      have hz_hxE := hxE.size
      rintro _ rfl
      show OpG _ _ _ _ _ _
      refine og_plain rfl (OpRun.mono (or_buildSlice1 (os := [.tmp 39]) sl27 rfl rfl rfl (by simp [Value.oneCell']) (by decide)) ?_)
      rintro v w6 ⟨g40, rfl, hb_g40, he40, hl40, hu40, _⟩
      replace hb_g5 := hb_g5.ext he40
      replace hb_g6 := hb_g6.ext he40
      replace hoV := Own.ext hoV he40
      replace hoT := Own.ext hoT he40
      replace hoK := Own.ext hoK he40
      replace hE := hE.tr he40
      have hz_he40 := he40.size
      exact ⟨⟨g40, rfl, hb_g40⟩, he40⟩
    · intro wf8 hf8
      replace hb_g5 := hb_g5.ext hf8
      replace hb_g6 := hb_g6.ext hf8
      replace hoV := Own.ext hoV hf8
      replace hoT := Own.ext hoT hf8
      replace hoK := Own.ext hoK hf8
      replace hE := hE.tr hf8
      have hz_hf8 := hf8.size
      rintro _ rfl
      rintro _ rfl
      rintro _ ⟨A38, c38, rfl, ho38⟩
      rintro _ rfl
      rintro _ ⟨g40, rfl, hb_g40⟩
      show WL _ _ _ [_, _, _] _ _ _
      refine wl_step (or_append sl27 rfl hoT rfl (Blk.rd1 hb_g40) (by simp [Value.oneCell']) (by omega) (by simp only [maxLen]; omega) (by omega)) rfl rfl rfl ?_
      rintro v w6 ⟨A41, c41, rfl, ho41, hg41, ha41⟩
      have hqo := fun g e => Own.lt hoK (g := g) e
      have hq41 := fun g e => Own.lt hoT (g := g) e
      have hz_hg41 := hg41.size
      replace hb_g5 := hb_g5.gr hg41 (by first | (intro e; have := hq41 _ e; omega) | exact own_blk_ne hoT hb_g5 (by decide))
      replace hb_g6 := hb_g6.gr hg41 (by first | (intro e; have := hq41 _ e; omega) | exact own_blk_ne hoT hb_g6 (by decide))
      replace hoV := Own.gr hoV hg41 (by first | exact own_apart fun g e g2 e2 => by have := hq_hoV g e; have := hq41 g2 e2; omega | exact own_own_ne hoV hoT (by decide))
      replace hE := hE.gr hg41 (fun g e => by have := hq41 g e; omega)
      replace hoK := Own.gr hoK hg41 (sep_ne (fun g e1 e2 => hsep g e1 e2))
      replace hsep : ∀ g, blk Ki = some g → blk A41 ≠ some g := fun g e1 e2 => by
        rcases ha41 with h | h
        · exact hsep g e1 (h ▸ e2)
        · have h9 := hqo g e1; rw [h] at e2; cases e2; omega
      replace ho41 : Own w6 w.heap.size 9 1 A41 (i + 1) c41 ((List.replicate (i + 1) (List.replicate 64 (0 : UInt8))).flatMap strc) := by rw [rep_flat]; exact ho41
      have hq_ho41 := fun g e => Own.lt ho41 (g := g) e
      refine wl_val (ov_field0 (off := 4) fo36_4 rfl) rfl rfl rfl ?_
      refine wl_step0 (or_storeAt (cs' := [(.int .i64 2), (.string (strB [107])), (.slice none 0 0), (.slice A27 (List.replicate nv (0 : UInt8)).length c27), (.slice A41 (i + 1) c41), (.int .u64 1), (.int .u64 0), (.string (strB ([] : List UInt8))), (.string (strB ([] : List UInt8))), (.string (strB ([] : List UInt8)))]) sz27 rfl rfl rfl hb_g5 rfl rfl) rfl rfl ?_
      rintro _ w7 ⟨hN7, hg7⟩
      have hz_hg7 := hg7.size
      replace hb_g6 := hb_g6.gr hg7 (by intro e; cases e; omega)
      replace hoV := Own.gr hoV hg7 (by first | exact .inl rfl | (right; intro e; first | (have := hq_hoV _ e; omega) | (have := Own.lt hoV e; omega) | exact own_blk_ne hoV hb_g5 (by decide) e))
      replace hoK := Own.gr hoK hg7 (by first | exact .inl rfl | (right; intro e; first | (have := hq_hoK _ e; omega) | (have := Own.lt hoK e; omega) | exact own_blk_ne hoK hb_g5 (by decide) e))
      replace hE := hE.gr hg7 (fun _ e => by cases e; omega)
      replace ho41 := Own.gr ho41 hg7 (by first | exact .inl rfl | (right; intro e; first | (have := hq_ho41 _ e; omega) | (have := Own.lt ho41 e; omega) | exact own_blk_ne ho41 hb_g5 (by decide) e))
      replace hb_g5 := hN7
      refine q_nil (k_then ?_)
      refine wc_draw mixed 5 [(43, eqv (.pointer (some ⟨g6, 2, none⟩))), (44, eqv (.slice Ki i ki)), (45, isOwnB w7.heap.size 5 (List.replicate 250 0)), (46, eqv (.string (strB (List.replicate 250 0)))), (47, (fun v wz => ∃ g, v = .slice (some ⟨g, 0, none⟩) 1 1 ∧ Blk wz g 9 [.string (strB (List.replicate 250 (0 : UInt8)))]))] [[], [0], [], [2], [3]] _ [] [] (fun _ _ h => h) trivial (by kernel_rfl) rfl ⟨⟨stb_eqv _, fun _ he => by cases he⟩, ⟨stb_eqv _, fun _ he => by cases he⟩, ⟨stb_isOwnB _ _ _, fun _ he => by cases he⟩, ⟨stb_eqv _, fun _ he => by cases he⟩, ⟨(fun v w1 w2 ⟨g, hv, hb⟩ he => ⟨g, hv, hb.ext he⟩), fun _ he => by cases he⟩, trivial⟩ ⟨?_, ?_, ?_, ?_, ?_, trivial⟩ ?_
      · intro wd hxE
        replace hb_g5 := hb_g5.ext hxE
        replace hb_g6 := hb_g6.ext hxE
        replace hoV := Own.ext hoV hxE
        replace hoK := Own.ext hoK hxE
        replace hE := hE.tr hxE
        replace ho41 := Own.ext ho41 hxE
        have hz_hxE := hxE.size
        show OpG _ _ _ _ _ _
        exact og_plain rfl (ox_val (ov_field0 (off := 2) fo36_2 rfl))
      · intro wd hxE
        replace hb_g5 := hb_g5.ext hxE
        replace hb_g6 := hb_g6.ext hxE
        replace hoV := Own.ext hoV hxE
        replace hoK := Own.ext hoK hxE
        replace hE := hE.tr hxE
        replace ho41 := Own.ext ho41 hxE
        have hz_hxE := hxE.size
        rintro _ rfl
        show OpG _ _ _ _ _ _
        exact og_plain rfl (ox_val (ov_loadAt oc27 rfl hb_g6 rfl))
      · intro wd hxE
        replace hb_g5 := hb_g5.ext hxE
        replace hb_g6 := hb_g6.ext hxE
        replace hoV := Own.ext hoV hxE
        replace hoK := Own.ext hoK hxE
        replace hE := hE.tr hxE
        replace ho41 := Own.ext ho41 hxE
        have hz_hxE := hxE.size
        show OpG _ _ _ _ _ _
        refine og_plain rfl (OpRun.mono (or_makeBytes (n := 250) bt32 rfl rfl (by omega) (by omega)) ?_)
        rintro v w8 ⟨A45, c45, rfl, ho45, he45⟩
        replace hb_g5 := hb_g5.ext he45
        replace hb_g6 := hb_g6.ext he45
        replace hoV := Own.ext hoV he45
        replace hoK := Own.ext hoK he45
        replace hE := hE.tr he45
        replace ho41 := Own.ext ho41 he45
        have hz_he45 := he45.size
        have hq_ho45 := fun g e => Own.lt ho45 (g := g) e
        exact ⟨⟨A45, c45, rfl, Own.mono ho45 (by omega)⟩, he45⟩
      · intro wd hxE
        replace hb_g5 := hb_g5.ext hxE
        replace hb_g6 := hb_g6.ext hxE
        replace hoV := Own.ext hoV hxE
        replace hoK := Own.ext hoK hxE
        replace hE := hE.tr hxE
        replace ho41 := Own.ext ho41 hxE
        have hz_hxE := hxE.size
        rintro _ ⟨A45, c45, rfl, ho45⟩
        show OpG _ _ _ _ _ _
        exact og_plain rfl (ox_val (ov_bstr bt32 Tryd.underlying9 rfl (OwnB.rd ho45)))
      · intro wd hxE
        replace hb_g5 := hb_g5.ext hxE
        replace hb_g6 := hb_g6.ext hxE
        replace hoV := Own.ext hoV hxE
        replace hoK := Own.ext hoK hxE
        replace hE := hE.tr hxE
        replace ho41 := Own.ext ho41 hxE
        have hz_hxE := hxE.size
        rintro _ rfl
        show OpG _ _ _ _ _ _
        refine og_plain rfl (OpRun.mono (or_buildSlice1 (os := [.tmp 46]) sl27 rfl rfl rfl (by simp [Value.oneCell']) (by decide)) ?_)
        rintro v w8 ⟨g47, rfl, hb_g47, he47, hl47, hu47, _⟩
        replace hb_g5 := hb_g5.ext he47
        replace hb_g6 := hb_g6.ext he47
        replace hoV := Own.ext hoV he47
        replace hoK := Own.ext hoK he47
        replace hE := hE.tr he47
        replace ho41 := Own.ext ho41 he47
        have hz_he47 := he47.size
        exact ⟨⟨g47, rfl, hb_g47⟩, he47⟩
      · intro wf9 hf9
        replace hb_g5 := hb_g5.ext hf9
        replace hb_g6 := hb_g6.ext hf9
        replace hoV := Own.ext hoV hf9
        replace hoK := Own.ext hoK hf9
        replace hE := hE.tr hf9
        replace ho41 := Own.ext ho41 hf9
        have hz_hf9 := hf9.size
        rintro _ rfl
        rintro _ rfl
        rintro _ ⟨A45, c45, rfl, ho45⟩
        rintro _ rfl
        rintro _ ⟨g47, rfl, hb_g47⟩
        show WL _ _ _ [_, _, _] _ _ _
        refine wl_step (or_append sl27 rfl hoK rfl (Blk.rd1 hb_g47) (by simp [Value.oneCell']) (by omega) (by simp only [maxLen]; omega) (by omega)) rfl rfl rfl ?_
        rintro v w8 ⟨A48, c48, rfl, ho48, hg48, ha48⟩
        have hqo := fun g e => Own.lt ho41 (g := g) e
        have hq48 := fun g e => Own.lt hoK (g := g) e
        have hz_hg48 := hg48.size
        replace hb_g5 := hb_g5.gr hg48 (by first | (intro e; have := hq48 _ e; omega) | exact own_blk_ne hoK hb_g5 (by decide))
        replace hb_g6 := hb_g6.gr hg48 (by first | (intro e; have := hq48 _ e; omega) | exact own_blk_ne hoK hb_g6 (by decide))
        replace hoV := Own.gr hoV hg48 (by first | exact own_apart fun g e g2 e2 => by have := hq_hoV g e; have := hq48 g2 e2; omega | exact own_own_ne hoV hoK (by decide))
        replace hE := hE.gr hg48 (fun g e => by have := hq48 g e; omega)
        replace ho41 := Own.gr ho41 hg48 (sep_ne (fun g e1 e2 => hsep g e2 e1))
        replace hsep : ∀ g, blk A48 = some g → blk A41 ≠ some g := fun g e1 e2 => by
          rcases ha48 with h | h
          · exact hsep g (h ▸ e1) e2
          · have h9 := hqo g e2; rw [h] at e1; cases e1; omega
        replace ho48 : Own w8 w.heap.size 9 1 A48 (i + 1) c48 ((List.replicate (i + 1) (List.replicate 250 (0 : UInt8))).flatMap strc) := by rw [rep_flat]; exact ho48
        have hq_ho48 := fun g e => Own.lt ho48 (g := g) e
        refine wl_val (ov_field0 (off := 2) fo36_2 rfl) rfl rfl rfl ?_
        refine wl_step0 (or_storeAt (cs' := [(.int .i64 5), (.string (strB ([] : List UInt8))), (.slice A48 (i + 1) c48), (.slice none 0 0), (.slice none 0 0), (.int .u64 0), (.int .u64 0), (.string (strB ([] : List UInt8))), (.string (strB ([] : List UInt8))), (.string (strB ([] : List UInt8)))]) sz27 rfl rfl rfl hb_g6 rfl rfl) rfl rfl ?_
        rintro _ w9 ⟨hN9, hg9⟩
        have hz_hg9 := hg9.size
        replace hb_g5 := hb_g5.gr hg9 (by intro e; cases e; omega)
        replace hoV := Own.gr hoV hg9 (by first | exact .inl rfl | (right; intro e; first | (have := hq_hoV _ e; omega) | (have := Own.lt hoV e; omega) | exact own_blk_ne hoV hb_g6 (by decide) e))
        replace hE := hE.gr hg9 (fun _ e => by cases e; omega)
        replace ho41 := Own.gr ho41 hg9 (by first | exact .inl rfl | (right; intro e; first | (have := hq_ho41 _ e; omega) | (have := Own.lt ho41 e; omega) | exact own_blk_ne ho41 hb_g6 (by decide) e))
        replace ho48 := Own.gr ho48 hg9 (by first | exact .inl rfl | (right; intro e; first | (have := hq_ho48 _ e; omega) | (have := Own.lt ho48 e; omega) | exact own_blk_ne ho48 hb_g6 (by decide) e))
        replace hb_g6 := hN9
        refine q_nil (k_block (k_then (wc_regionL ?_)))
        refine vm rfl rfl ?_
        refine wl_val (ov_add rfl rfl (wi64 (by omega) (by omega))) rfl rfl rfl ?_
        refine va rfl rfl ?_
        refine q_nil ?_
        refine k_loop ((i + 1, A41, c41, A48, c48)) (by show np - (i + 1) < np - i; omega) (⟨rfl, rfl, rfl, rfl, trivial⟩) (⟨by show i + 1 ≤ _; omega, hb_g5, hb_g6, hoV, ho41, ho48, hsep, hE⟩)
  · have hin : i = np := by omega
    subst hin
    refine q_exit (k_thenX (k_thenX (k_blockE (k_then (wc_seq (wc_seq (wc_regionL ?_)))))))
    refine wl_val (ov_loadBlk (cs := [(.int .i64 2), (.string (strB [107])), (.slice none 0 0), (.slice A27 (List.replicate nv (0 : UInt8)).length c27), (.slice Bi i di), (.int .u64 1), (.int .u64 0), (.string (strB ([] : List UInt8))), (.string (strB ([] : List UInt8))), (.string (strB ([] : List UInt8)))]) ag36_10 rfl hb_g5) rfl rfl rfl ?_
    refine wl_val (ov_loadBlk (cs := [(.int .i64 5), (.string (strB ([] : List UInt8))), (.slice Ki i ki), (.slice none 0 0), (.slice none 0 0), (.int .u64 0), (.int .u64 0), (.string (strB ([] : List UInt8))), (.string (strB ([] : List UInt8))), (.string (strB ([] : List UInt8)))]) ag36_10 rfl hb_g6) rfl rfl rfl ?_
    refine wl_step (or_buildSliceF (cs := [(.int .i64 2), (.string (strB [107])), (.slice none 0 0), (.slice A27 (List.replicate nv (0 : UInt8)).length c27), (.slice Bi i di), (.int .u64 1), (.int .u64 0), (.string (strB ([] : List UInt8))), (.string (strB ([] : List UInt8))), (.string (strB ([] : List UInt8))), (.int .i64 5), (.string (strB ([] : List UInt8))), (.slice Ki i ki), (.slice none 0 0), (.slice none 0 0), (.int .u64 0), (.int .u64 0), (.string (strB ([] : List UInt8))), (.string (strB ([] : List UInt8))), (.string (strB ([] : List UInt8)))]) sl54 rfl (by kernel_rfl) (by decide) (by decide)) rfl rfl rfl ?_
    rintro v w206 ⟨g52, rfl, hb_g52, he52, hl52, hu52⟩
    replace hb_g5 := hb_g5.ext he52
    replace hb_g6 := hb_g6.ext he52
    replace hoV := Own.ext hoV he52
    replace hoT := Own.ext hoT he52
    replace hoK := Own.ext hoK he52
    replace hE := hE.tr he52
    have hz_he52 := he52.size
    obtain ⟨B52, hB52⟩ : ∃ n, n = w206.heap.size := ⟨_, rfl⟩
    have hQ : HQ w206 B52 [(cA nv i, Option.none, 0, A27, c27, Bi, di), (cM i, Ki, ki, Option.none, 0, Option.none, 0)] := by
      intro x hx
      simp only [List.mem_cons, List.not_mem_nil, or_false] at hx
      rcases hx with rfl | rfl
      · exact ⟨Rd.nil _ _ _ _ _ _ (Nat.zero_le _), hB52 ▸ (OwnB.rd hoV).mono (Nat.zero_le _) (Nat.le_refl _), hB52 ▸ rdrep (Own.rd hoT)⟩
      · exact ⟨hB52 ▸ rdrep (Own.rd hoK), Rd.nil _ _ _ _ _ _ (Nat.zero_le _), Rd.nil _ _ _ _ _ _ (Nat.zero_le _)⟩
    have ecs : List.flatMap xtc [(cA nv i, Option.none, 0, A27, c27, Bi, di), (cM i, Ki, ki, Option.none, 0, Option.none, 0)] = [(.int .i64 2), (.string (strB [107])), (.slice none 0 0), (.slice A27 (List.replicate nv (0 : UInt8)).length c27), (.slice Bi i di), (.int .u64 1), (.int .u64 0), (.string (strB ([] : List UInt8))), (.string (strB ([] : List UInt8))), (.string (strB ([] : List UInt8))), (.int .i64 5), (.string (strB ([] : List UInt8))), (.slice Ki i ki), (.slice none 0 0), (.slice none 0 0), (.int .u64 0), (.int .u64 0), (.string (strB ([] : List UInt8))), (.string (strB ([] : List UInt8))), (.string (strB ([] : List UInt8)))] := by
      simp only [List.flatMap_cons, List.flatMap_nil, xtc, cmdc, cA, cM, List.length_replicate]; rfl
    have hrX : RdR w206 0 B52 10 xtc (some ⟨g52, 0, none⟩) 2 [(cA nv i, Option.none, 0, A27, c27, Bi, di), (cM i, Ki, ki, Option.none, 0, Option.none, 0)] := by
      rw [hB52]; unfold RdR; rw [ecs]; exact Blk.rdF (n := 2) hb_g52 rfl (by decide)
    have hPX : ∀ x ∈ ([(cA nv i, Option.none, 0, A27, c27, Bi, di), (cM i, Ki, ki, Option.none, 0, Option.none, 0)] : List XT), CPr x.1 := by
      intro x hx
      simp only [List.mem_cons, List.not_mem_nil, or_false] at hx
      rcases hx with rfl | rfl
      · exact cA_pr (by omega) (by omega)
      · exact cM_pr (by omega) (by omega)
    have hXl : ([(cA nv i, Option.none, 0, A27, c27, Bi, di), (cM i, Ki, ki, Option.none, 0, Option.none, 0)] : List XT).length = 2 := rfl
    clear ecs
    generalize ([(cA nv i, Option.none, 0, A27, c27, Bi, di), (cM i, Ki, ki, Option.none, 0, Option.none, 0)] : List XT) = XS at hQ hrX hPX hXl
    refine wl_spell (d := 52) rfl (v' := .slice (some ⟨g52, 0, none⟩) XS.length 2) (by rw [hXl]) ?_
    refine wl_val (ov_len Tryd.underlying54 rfl) rfl rfl rfl ?_
    refine wl_spell (d := 53) rfl (v' := (.int .i64 2)) (by rw [hXl]; rfl) ?_
    refine vm rfl rfl ?_
    refine q_nil (k_then (wc_block ?_))
    refine wc_loop (σ := Nat) (fun k => 2 - k) (fun k => [(52, .slice (some ⟨g52, 0, none⟩) XS.length 2), (53, .int .i64 2), (54, .int .i64 (k : Int))]) (fun k w' => k ≤ 2 ∧ RdR w' 0 B52 10 xtc (some ⟨g52, 0, none⟩) 2 XS ∧ HQ w' B52 XS ∧ B52 ≤ w'.heap.size ∧ Ext w w') (0) (⟨by omega, hrX, hQ, by omega, hE⟩) (⟨rfl, rfl, rfl, trivial⟩) ?_
    rintro k wr ⟨hk0, hrX, hQ, hBw, hE⟩
    show WC _ _ _ _ [(52, (.slice (some ⟨g52, 0, none⟩) XS.length 2)), (53, (.int .i64 2)), (54, (.int .i64 (↑k : Int)))] _
    refine wc_seq (wc_regionL ?_)
    refine wl_val (ov_lss rfl rfl) rfl rfl rfl ?_
    refine q_nil (k_then (wc_seq ?_))
    refine wc_cond_d rfl (fun hc3 => ?_) (fun hc3 => ?_)
    · obtain ⟨x, hk⟩ : ∃ x, XS[k]? = some x := ⟨_, List.getElem?_eq_getElem (by omega)⟩
      have hxm := List.mem_of_getElem? hk
      obtain ⟨hXK, hXV, hXT⟩ := hQ x hxm
      have hp := hPX x hxm
      have hps := hp.sz
      have hol := outC_len x.1 (needs x.1.op)
      have hnl := needs_len x.1.op
      have hol2 : (needs x.1.op).length * (csz x.1 + 10) ≤ 5 * (csz x.1 + 10) := Nat.mul_le_mul_right _ hnl
      replace hol : (outC x.1).length ≤ 5 * (csz x.1 + 10) := Nat.le_trans hol hol2
      refine q_skip (k_then (wc_seq (wc_block (wc_seq (wc_regionL ?_)))))
      refine wl_step (or_rindex (m := (k)) sl54 rfl rfl hrX (fun _ _ => rfl) hk) rfl rfl rfl ?_
      rintro v _ ⟨rfl, p56, rfl, hp56, hpl56, hph56⟩
      refine wl_val (ov_loadAgg (cs := [(.int .i64 x.1.op), (.string (strB x.1.key)), (.slice x.2.1 x.1.keys.length x.2.2.1), (.slice x.2.2.2.1 x.1.value.length x.2.2.2.2.1), (.slice x.2.2.2.2.2.1 x.1.tags.length x.2.2.2.2.2.2), (.int .u64 (↑x.1.life : Int)), (.int .u64 (↑x.1.ver : Int)), (.string (strB x.1.tag)), (.string (strB x.1.pre)), (.string (strB x.1.child))]) ag36_10 rfl rfl hp56) rfl rfl rfl ?_
      refine wl_step (or_alloc (cs := [(.int .i64 0), (.string (strB [])), (.slice none 0 0), (.slice none 0 0), (.slice none 0 0), (.int .u64 0), (.int .u64 0), (.string (strB [])), (.string (strB [])), (.string (strB []))]) ze36 rfl) rfl rfl rfl ?_
      rintro v w207 ⟨g9, rfl, hb_g9, he9, hl9, hu9⟩
      replace hrX := hrX.ext he9
      replace hQ := HQ.ext hQ he9
      replace hE := hE.tr he9
      replace hXK := hXK.ext he9
      replace hXV := hXV.ext he9
      replace hXT := hXT.ext he9
      have hz_he9 := he9.size
      refine wl_step0 (or_storeBlk (vs := [(.int .i64 x.1.op), (.string (strB x.1.key)), (.slice x.2.1 x.1.keys.length x.2.2.1), (.slice x.2.2.2.1 x.1.value.length x.2.2.2.2.1), (.slice x.2.2.2.2.2.1 x.1.tags.length x.2.2.2.2.2.2), (.int .u64 (↑x.1.life : Int)), (.int .u64 (↑x.1.ver : Int)), (.string (strB x.1.tag)), (.string (strB x.1.pre)), (.string (strB x.1.child))]) sz36 rfl rfl (by simp [Value.oneCell']) hb_g9 rfl) rfl rfl ?_
      rintro _ w208 ⟨hN208, hg208⟩
      have hz_hg208 := hg208.size
      replace hrX := hrX.gr hg208 (fun _ e => by cases e; omega)
      replace hQ := HQ.gr hQ hg208 (fun _ e => by cases e; omega)
      replace hE := hE.gr hg208 (fun _ e => by cases e; omega)
      replace hXK := hXK.gr hg208 (fun _ e => by cases e; omega)
      replace hXV := hXV.gr hg208 (fun _ e => by cases e; omega)
      replace hXT := hXT.gr hg208 (fun _ e => by cases e; omega)
      replace hb_g9 := hN208
      refine q_nil (k_then (wc_seq (wc_regionL ?_)))
      refine wl_val (ov_loadBlk (cs := [(.int .i64 x.1.op), (.string (strB x.1.key)), (.slice x.2.1 x.1.keys.length x.2.2.1), (.slice x.2.2.2.1 x.1.value.length x.2.2.2.2.1), (.slice x.2.2.2.2.2.1 x.1.tags.length x.2.2.2.2.2.2), (.int .u64 (↑x.1.life : Int)), (.int .u64 (↑x.1.ver : Int)), (.string (strB x.1.tag)), (.string (strB x.1.pre)), (.string (strB x.1.child))]) ag36_10 rfl hb_g9) rfl rfl rfl ?_
      refine wl_step (or_call0 cl14 rfl rfl (rvalid_any _ x.1 0 _ x.2.1 x.2.2.1 x.2.2.2.1 x.2.2.2.2.1 x.2.2.2.2.2.1 x.2.2.2.2.2.2 ((Rd.top hXK).mono (Nat.zero_le _) (Nat.le_refl _)) ((Rd.top hXV).mono (Nat.zero_le _) (Nat.le_refl _)) ((Rd.top hXT).mono (Nat.zero_le _) (Nat.le_refl _)))) rfl rfl rfl ?_
      rintro v w209 ⟨rfl, he59⟩
      replace hrX := hrX.ext he59
      replace hQ := HQ.ext hQ he59
      replace hE := hE.tr he59
      replace hXK := hXK.ext he59
      replace hXV := hXV.ext he59
      replace hXT := hXT.ext he59
      replace hb_g9 := hb_g9.ext he59
      have hz_he59 := he59.size
      refine wl_val (ov_not rfl) rfl rfl rfl ?_
      refine q_nil (k_then ?_)
      refine wc_cond rfl (fun hc4 => ?_) (fun hc4 => ?_)
      · have hv : rvalid x.1 = false := by simpa using hc4
        have hwr : wrC x.1 = ((0, []), 2) := by rw [wrC_eq hp.life hp.ver, if_neg (by rw [hv]; decide)]
        have hrd := hp.none hv
        refine wc_seq (wc_regionL ?_)
        refine wl_val (ov_loadBlk (cs := [(.int .i64 x.1.op), (.string (strB x.1.key)), (.slice x.2.1 x.1.keys.length x.2.2.1), (.slice x.2.2.2.1 x.1.value.length x.2.2.2.2.1), (.slice x.2.2.2.2.2.1 x.1.tags.length x.2.2.2.2.2.2), (.int .u64 (↑x.1.life : Int)), (.int .u64 (↑x.1.ver : Int)), (.string (strB x.1.tag)), (.string (strB x.1.pre)), (.string (strB x.1.child))]) ag36_10 rfl hb_g9) rfl rfl rfl ?_
        refine wl_step (or_call0 cl25 rfl rfl (wvalid_ref _ x.1 0 _ x.2.1 x.2.2.1 x.2.2.2.1 x.2.2.2.2.1 x.2.2.2.2.2.1 x.2.2.2.2.2.2 ((Rd.top hXK).mono (Nat.zero_le _) (Nat.le_refl _)) ((Rd.top hXV).mono (Nat.zero_le _) (Nat.le_refl _)) ((Rd.top hXT).mono (Nat.zero_le _) (Nat.le_refl _)) hp.life hp.ver hps)) rfl rfl rfl ?_
        rintro v w210 ⟨rfl, he62⟩
        replace hrX := hrX.ext he62
        replace hQ := HQ.ext hQ he62
        replace hE := hE.tr he62
        replace hXK := hXK.ext he62
        replace hXV := hXV.ext he62
        replace hXT := hXT.ext he62
        replace hb_g9 := hb_g9.ext he62
        have hz_he62 := he62.size
        refine wl_spell (d := 62) rfl (v' := (.bool false)) (by rw [hv]) ?_
        refine vm rfl rfl ?_
        refine wl_gval (ov_loadBlk (cs := [(.int .i64 x.1.op), (.string (strB x.1.key)), (.slice x.2.1 x.1.keys.length x.2.2.1), (.slice x.2.2.2.1 x.1.value.length x.2.2.2.2.1), (.slice x.2.2.2.2.2.1 x.1.tags.length x.2.2.2.2.2.2), (.int .u64 (↑x.1.life : Int)), (.int .u64 (↑x.1.ver : Int)), (.string (strB x.1.tag)), (.string (strB x.1.pre)), (.string (strB x.1.child))]) ag36_10 rfl hb_g9) rfl rfl rfl rfl rfl ?_
        refine wl_gval (ov_build (cs := [(.int .u8 0), (.slice none 0 0)]) ze40 pl40 rfl rfl) rfl rfl rfl rfl rfl ?_
        refine wl_gstep (or_call0 cl15 rfl rfl (lwrites_any _ x.1 0 _ x.2.1 x.2.2.1 x.2.2.2.1 x.2.2.2.2.1 x.2.2.2.2.2.1 x.2.2.2.2.2.2 ((Rd.top hXK).mono (Nat.zero_le _) (Nat.le_refl _)) ((Rd.top hXV).mono (Nat.zero_le _) (Nat.le_refl _)) ((Rd.top hXT).mono (Nat.zero_le _) (Nat.le_refl _)) _ _ (0) _ _ [] (RdB.nil _ 0 0) 2 _ (by rfl) hp.life hp.ver hps hwr)) rfl rfl rfl rfl rfl ?_
        rintro v w211 ⟨rfl, he66⟩
        replace hrX := hrX.ext he66
        replace hQ := HQ.ext hQ he66
        replace hE := hE.tr he66
        replace hXK := hXK.ext he66
        replace hXV := hXV.ext he66
        replace hXT := hXT.ext he66
        replace hb_g9 := hb_g9.ext he66
        have hz_he66 := he66.size
        refine wl_gval (ov_not (b := true) rfl) rfl rfl rfl rfl rfl ?_
        refine wl_val (ov_pick_f rfl rfl) rfl rfl rfl ?_
        refine vm rfl rfl ?_
        refine wl_gval (ov_loadBlk (cs := [(.int .i64 x.1.op), (.string (strB x.1.key)), (.slice x.2.1 x.1.keys.length x.2.2.1), (.slice x.2.2.2.1 x.1.value.length x.2.2.2.2.1), (.slice x.2.2.2.2.2.1 x.1.tags.length x.2.2.2.2.2.2), (.int .u64 (↑x.1.life : Int)), (.int .u64 (↑x.1.ver : Int)), (.string (strB x.1.tag)), (.string (strB x.1.pre)), (.string (strB x.1.child))]) ag36_10 rfl hb_g9) rfl rfl rfl rfl rfl ?_
        refine wl_gstep (or_call0 cl21 rfl rfl (rwrite07_any _ x.1 0 _ x.2.1 x.2.2.1 x.2.2.2.1 x.2.2.2.2.1 x.2.2.2.2.2.1 x.2.2.2.2.2.2 ((Rd.top hXK).mono (Nat.zero_le _) (Nat.le_refl _)) ((Rd.top hXV).mono (Nat.zero_le _) (Nat.le_refl _)) ((Rd.top hXT).mono (Nat.zero_le _) (Nat.le_refl _)) hp.life hp.ver hps hp.op1 hp.op2)) rfl rfl rfl rfl rfl ?_
        rintro v w212 ⟨A71, c71, rfl, ho71, he71⟩
        replace hrX := hrX.ext he71
        replace hQ := HQ.ext hQ he71
        replace hE := hE.tr he71
        replace hXK := hXK.ext he71
        replace hXV := hXV.ext he71
        replace hXT := hXT.ext he71
        replace hb_g9 := hb_g9.ext he71
        have hz_he71 := he71.size
        have hq_ho71 := fun g e => Own.lt ho71 (g := g) e
        refine wl_gval (ov_build (cs := [(.int .i64 0), (.string (strB [])), (.slice none 0 0), (.slice none 0 0), (.slice none 0 0), (.int .u64 0), (.int .u64 0), (.string (strB [])), (.string (strB [])), (.string (strB []))]) ze36 pl36 rfl rfl) rfl rfl rfl rfl rfl ?_
        refine wl_gstep (or_call0 cl23 rfl rfl (lreads_any _ _ _ ((codeOf x.1)) _ _ (outC x.1) (OwnB.rd ho71) (by omega) (⟨0, [], [], [], [], 0, 0, [], [], []⟩ : Cmd) 0 0 none 0 none 0 none 0 (Rd.nil _ 0 _ _ _ _ (Nat.zero_le _)) (Rd.nil _ 0 _ _ _ _ (Nat.zero_le _)) (Rd.nil _ 0 _ _ _ _ (Nat.zero_le _)) 6 _ (by rfl) hrd)) rfl rfl rfl rfl rfl ?_
        rintro v w213 ⟨rfl, he73⟩
        replace hrX := hrX.ext he73
        replace hQ := HQ.ext hQ he73
        replace hE := hE.tr he73
        replace hXK := hXK.ext he73
        replace hXV := hXV.ext he73
        replace hXT := hXT.ext he73
        replace hb_g9 := hb_g9.ext he73
        replace ho71 := Own.ext ho71 he73
        have hz_he73 := he73.size
        refine wl_gval (ov_not (b := true) rfl) rfl rfl rfl rfl rfl ?_
        refine wl_val (ov_pick_f rfl rfl) rfl rfl rfl ?_
        refine q_nil (k_then ?_)
        refine wc_cond_f rfl ?_
        refine q_skip (k_block (k_then (wc_regionL ?_)))
        refine wl_val (ov_add rfl rfl (wi64 (by omega) (by omega))) rfl rfl rfl ?_
        refine vm rfl rfl ?_
        refine q_nil ?_
        refine k_loop (k + 1) (by show 2 - (k + 1) < 2 - k; omega) (⟨rfl, rfl, rfl, trivial⟩) (⟨by omega, hrX, hQ, by omega, hE⟩)
      · have hv : rvalid x.1 = true := by simpa using hc4
        have hwr : wrC x.1 = ((codeOf x.1, outC x.1), 0) := by rw [wrC_eq hp.life hp.ver, if_pos hv]
        have hrd := rdC_back hp.life hp.ver hv
        refine wc_seq ?_
        refine wc_draw mixed 14 [(76, eqv (.agg #[(.int .i64 x.1.op), (.string (strB x.1.key)), (.slice x.2.1 x.1.keys.length x.2.2.1), (.slice x.2.2.2.1 x.1.value.length x.2.2.2.2.1), (.slice x.2.2.2.2.2.1 x.1.tags.length x.2.2.2.2.2.2), (.int .u64 (↑x.1.life : Int)), (.int .u64 (↑x.1.ver : Int)), (.string (strB x.1.tag)), (.string (strB x.1.pre)), (.string (strB x.1.child))])), (77, eqv (.bool true)), (78, eqv (.bool false)), (79, eqv (.bool false)), (80, eqv (.agg #[(.int .i64 x.1.op), (.string (strB x.1.key)), (.slice x.2.1 x.1.keys.length x.2.2.1), (.slice x.2.2.2.1 x.1.value.length x.2.2.2.2.1), (.slice x.2.2.2.2.2.1 x.1.tags.length x.2.2.2.2.2.2), (.int .u64 (↑x.1.life : Int)), (.int .u64 (↑x.1.ver : Int)), (.string (strB x.1.tag)), (.string (strB x.1.pre)), (.string (strB x.1.child))])), (81, eqv (.agg #[(.int .i64 x.1.op), (.string (strB x.1.key)), (.slice x.2.1 x.1.keys.length x.2.2.1), (.slice x.2.2.2.1 x.1.value.length x.2.2.2.2.1), (.slice x.2.2.2.2.2.1 x.1.tags.length x.2.2.2.2.2.2), (.int .u64 (↑x.1.life : Int)), (.int .u64 (↑x.1.ver : Int)), (.string (strB x.1.tag)), (.string (strB x.1.pre)), (.string (strB x.1.child))])), (82, (fun v w => ∃ A82 c82, v = (.agg #[(.int .u8 (↑(codeOf x.1).toNat : Int)), (.slice A82 (outC x.1).length c82)]) ∧ OwnB w w209.heap.size 5 A82 c82 (outC x.1))), (83, eqv (.bool true)), (84, eqv (.bool false)), (85, eqv (.bool false)), (86, eqv (.bool false)), (87, eqv (.agg #[(.int .i64 x.1.op), (.string (strB x.1.key)), (.slice x.2.1 x.1.keys.length x.2.2.1), (.slice x.2.2.2.1 x.1.value.length x.2.2.2.2.1), (.slice x.2.2.2.2.2.1 x.1.tags.length x.2.2.2.2.2.2), (.int .u64 (↑x.1.life : Int)), (.int .u64 (↑x.1.ver : Int)), (.string (strB x.1.tag)), (.string (strB x.1.pre)), (.string (strB x.1.child))])), (88, (fun v w => ∃ A88 c88, v = (.agg #[(.int .u8 (↑(codeOf x.1).toNat : Int)), (.slice A88 (outC x.1).length c88)]) ∧ OwnB w w209.heap.size 5 A88 c88 (outC x.1))), (89, eqv (.agg #[(.int .i64 x.1.op), (.string (strB x.1.key)), (.slice x.2.1 x.1.keys.length x.2.2.1), (.slice x.2.2.2.1 x.1.value.length x.2.2.2.2.1), (.slice x.2.2.2.2.2.1 x.1.tags.length x.2.2.2.2.2.2), (.int .u64 (↑x.1.life : Int)), (.int .u64 (↑x.1.ver : Int)), (.string (strB x.1.tag)), (.string (strB x.1.pre)), (.string (strB x.1.child))]))] [[], [0], [1], [2], [3], [3], [3, 5], [3, 4, 6], [3, 7], [3, 8], [9], [10], [10, 11], [10]] _ [] [] (fun _ _ h => h) trivial (by kernel_rfl) rfl ⟨⟨stb_eqv _, fun _ he => by cases he⟩, ⟨stb_eqv _, fun _ he => by cases he⟩, ⟨stb_eqv _, fun _ he => by cases he⟩, ⟨stb_eqv _, fun _ he => by cases he⟩, ⟨stb_eqv _, fun _ he => by cases he⟩, ⟨stb_eqv _, fun _ he => by cases he⟩, ⟨(fun v w w' ⟨A, c, hv, ho⟩ he => ⟨A, c, hv, Own.ext ho he⟩), fun _ he => by cases he⟩, ⟨stb_eqv _, fun _ he => by cases he⟩, ⟨stb_eqv _, fun _ he => by cases he⟩, ⟨stb_eqv _, fun _ he => by cases he⟩, ⟨stb_eqv _, fun _ he => by cases he⟩, ⟨stb_eqv _, fun _ he => by cases he⟩, ⟨(fun v w w' ⟨A, c, hv, ho⟩ he => ⟨A, c, hv, Own.ext ho he⟩), fun _ he => by cases he⟩, ⟨stb_eqv _, fun _ he => by cases he⟩, trivial⟩ ⟨?_, ?_, ?_, ?_, ?_, ?_, ?_, ?_, ?_, ?_, ?_, ?_, ?_, ?_, trivial⟩ ?_
        · intro wd hxE
          replace hrX := hrX.ext hxE
          replace hQ := HQ.ext hQ hxE
          replace hE := hE.tr hxE
          replace hXK := hXK.ext hxE
          replace hXV := hXV.ext hxE
          replace hXT := hXT.ext hxE
          replace hb_g9 := hb_g9.ext hxE
          have hz_hxE := hxE.size
          show OpG _ _ _ _ _ _
          exact og_plain rfl (ox_val (ov_loadBlk (cs := [(.int .i64 x.1.op), (.string (strB x.1.key)), (.slice x.2.1 x.1.keys.length x.2.2.1), (.slice x.2.2.2.1 x.1.value.length x.2.2.2.2.1), (.slice x.2.2.2.2.2.1 x.1.tags.length x.2.2.2.2.2.2), (.int .u64 (↑x.1.life : Int)), (.int .u64 (↑x.1.ver : Int)), (.string (strB x.1.tag)), (.string (strB x.1.pre)), (.string (strB x.1.child))]) ag36_10 rfl hb_g9))
        · intro wd hxE
          replace hrX := hrX.ext hxE
          replace hQ := HQ.ext hQ hxE
          replace hE := hE.tr hxE
          replace hXK := hXK.ext hxE
          replace hXV := hXV.ext hxE
          replace hXT := hXT.ext hxE
          replace hb_g9 := hb_g9.ext hxE
          have hz_hxE := hxE.size
          rintro _ rfl
          show OpG _ _ _ _ _ _
          refine og_plain rfl (OpRun.mono (or_call0 cl25 rfl rfl (wvalid_t _ x.1 0 _ x.2.1 x.2.2.1 x.2.2.2.1 x.2.2.2.2.1 x.2.2.2.2.2.1 x.2.2.2.2.2.2 hXK hXV hXT hp.life hp.ver hps hv)) ?_)
          rintro v w210 ⟨rfl, he77⟩
          replace hrX := hrX.ext he77
          replace hQ := HQ.ext hQ he77
          replace hE := hE.tr he77
          replace hXK := hXK.ext he77
          replace hXV := hXV.ext he77
          replace hXT := hXT.ext he77
          replace hb_g9 := hb_g9.ext he77
          have hz_he77 := he77.size
          exact ⟨rfl, he77⟩
        · intro wd hxE
          replace hrX := hrX.ext hxE
          replace hQ := HQ.ext hQ hxE
          replace hE := hE.tr hxE
          replace hXK := hXK.ext hxE
          replace hXV := hXV.ext hxE
          replace hXT := hXT.ext hxE
          replace hb_g9 := hb_g9.ext hxE
          have hz_hxE := hxE.size
          rintro _ rfl
          show OpG _ _ _ _ _ _
          exact og_plain rfl (ox_val (ov_not (b := true) rfl))
        · intro wd hxE
          replace hrX := hrX.ext hxE
          replace hQ := HQ.ext hQ hxE
          replace hE := hE.tr hxE
          replace hXK := hXK.ext hxE
          replace hXV := hXV.ext hxE
          replace hXT := hXT.ext hxE
          replace hb_g9 := hb_g9.ext hxE
          have hz_hxE := hxE.size
          rintro _ rfl
          show OpG _ _ _ _ _ _
          exact og_plain rfl (ox_val (ov_move rfl))
        · intro wd hxE
          replace hrX := hrX.ext hxE
          replace hQ := HQ.ext hQ hxE
          replace hE := hE.tr hxE
          replace hXK := hXK.ext hxE
          replace hXV := hXV.ext hxE
          replace hXT := hXT.ext hxE
          replace hb_g9 := hb_g9.ext hxE
          have hz_hxE := hxE.size
          rintro _ rfl
          show OpG _ _ _ _ _ _
          exact og_on rfl rfl rfl (ox_val (ov_loadBlk (cs := [(.int .i64 x.1.op), (.string (strB x.1.key)), (.slice x.2.1 x.1.keys.length x.2.2.1), (.slice x.2.2.2.1 x.1.value.length x.2.2.2.2.1), (.slice x.2.2.2.2.2.1 x.1.tags.length x.2.2.2.2.2.2), (.int .u64 (↑x.1.life : Int)), (.int .u64 (↑x.1.ver : Int)), (.string (strB x.1.tag)), (.string (strB x.1.pre)), (.string (strB x.1.child))]) ag36_10 rfl hb_g9))
        · intro wd hxE
          replace hrX := hrX.ext hxE
          replace hQ := HQ.ext hQ hxE
          replace hE := hE.tr hxE
          replace hXK := hXK.ext hxE
          replace hXV := hXV.ext hxE
          replace hXT := hXT.ext hxE
          replace hb_g9 := hb_g9.ext hxE
          have hz_hxE := hxE.size
          rintro _ rfl
          show OpG _ _ _ _ _ _
          exact og_on rfl rfl rfl (ox_val (ov_loadBlk (cs := [(.int .i64 x.1.op), (.string (strB x.1.key)), (.slice x.2.1 x.1.keys.length x.2.2.1), (.slice x.2.2.2.1 x.1.value.length x.2.2.2.2.1), (.slice x.2.2.2.2.2.1 x.1.tags.length x.2.2.2.2.2.2), (.int .u64 (↑x.1.life : Int)), (.int .u64 (↑x.1.ver : Int)), (.string (strB x.1.tag)), (.string (strB x.1.pre)), (.string (strB x.1.child))]) ag36_10 rfl hb_g9))
        · intro wd hxE
          replace hrX := hrX.ext hxE
          replace hQ := HQ.ext hQ hxE
          replace hE := hE.tr hxE
          replace hXK := hXK.ext hxE
          replace hXV := hXV.ext hxE
          replace hXT := hXT.ext hxE
          replace hb_g9 := hb_g9.ext hxE
          have hz_hxE := hxE.size
          rintro _ rfl
          rintro _ rfl
          show OpG _ _ _ _ _ _
          refine og_on rfl rfl rfl (OpRun.mono (or_call0 cl21 rfl rfl (rwrite07_any _ x.1 0 _ x.2.1 x.2.2.1 x.2.2.2.1 x.2.2.2.2.1 x.2.2.2.2.2.1 x.2.2.2.2.2.2 ((Rd.top hXK).mono (Nat.zero_le _) (Nat.le_refl _)) ((Rd.top hXV).mono (Nat.zero_le _) (Nat.le_refl _)) ((Rd.top hXT).mono (Nat.zero_le _) (Nat.le_refl _)) hp.life hp.ver hps hp.op1 hp.op2)) ?_)
          rintro v w210 ⟨A82, c82, rfl, ho82, he82⟩
          replace hrX := hrX.ext he82
          replace hQ := HQ.ext hQ he82
          replace hE := hE.tr he82
          replace hXK := hXK.ext he82
          replace hXV := hXV.ext he82
          replace hXT := hXT.ext he82
          replace hb_g9 := hb_g9.ext he82
          have hz_he82 := he82.size
          have hq_ho82 := fun g e => Own.lt ho82 (g := g) e
          exact ⟨⟨A82, c82, rfl, Own.mono ho82 (by omega)⟩, he82⟩
        · intro wd hxE
          replace hrX := hrX.ext hxE
          replace hQ := HQ.ext hQ hxE
          replace hE := hE.tr hxE
          replace hXK := hXK.ext hxE
          replace hXV := hXV.ext hxE
          replace hXT := hXT.ext hxE
          replace hb_g9 := hb_g9.ext hxE
          have hz_hxE := hxE.size
          rintro _ rfl
          rintro _ rfl
          rintro _ ⟨A82, c82, rfl, ho82⟩
          show OpG _ _ _ _ _ _
          refine og_on rfl rfl rfl (OpRun.mono (or_call0 cl15 rfl rfl (lwrites_any _ x.1 0 _ x.2.1 x.2.2.1 x.2.2.2.1 x.2.2.2.2.1 x.2.2.2.2.2.1 x.2.2.2.2.2.2 ((Rd.top hXK).mono (Nat.zero_le _) (Nat.le_refl _)) ((Rd.top hXV).mono (Nat.zero_le _) (Nat.le_refl _)) ((Rd.top hXT).mono (Nat.zero_le _) (Nat.le_refl _)) _ _ ((codeOf x.1)) _ _ (outC x.1) (OwnB.rd ho82) 0 _ (by rfl) hp.life hp.ver hps hwr)) ?_)
          rintro v w210 ⟨rfl, he83⟩
          replace hrX := hrX.ext he83
          replace hQ := HQ.ext hQ he83
          replace hE := hE.tr he83
          replace hXK := hXK.ext he83
          replace hXV := hXV.ext he83
          replace hXT := hXT.ext he83
          replace hb_g9 := hb_g9.ext he83
          replace ho82 := Own.ext ho82 he83
          have hz_he83 := he83.size
          exact ⟨rfl, he83⟩
        · intro wd hxE
          replace hrX := hrX.ext hxE
          replace hQ := HQ.ext hQ hxE
          replace hE := hE.tr hxE
          replace hXK := hXK.ext hxE
          replace hXV := hXV.ext hxE
          replace hXT := hXT.ext hxE
          replace hb_g9 := hb_g9.ext hxE
          have hz_hxE := hxE.size
          rintro _ rfl
          rintro _ rfl
          show OpG _ _ _ _ _ _
          exact og_on rfl rfl rfl (ox_val (ov_not (b := true) rfl))
        · intro wd hxE
          replace hrX := hrX.ext hxE
          replace hQ := HQ.ext hQ hxE
          replace hE := hE.tr hxE
          replace hXK := hXK.ext hxE
          replace hXV := hXV.ext hxE
          replace hXT := hXT.ext hxE
          replace hb_g9 := hb_g9.ext hxE
          have hz_hxE := hxE.size
          rintro _ rfl
          rintro _ rfl
          show OpG _ _ _ _ _ _
          exact og_plain rfl (ox_val (ov_pick_f rfl rfl))
        · intro wd hxE
          replace hrX := hrX.ext hxE
          replace hQ := HQ.ext hQ hxE
          replace hE := hE.tr hxE
          replace hXK := hXK.ext hxE
          replace hXV := hXV.ext hxE
          replace hXT := hXT.ext hxE
          replace hb_g9 := hb_g9.ext hxE
          have hz_hxE := hxE.size
          rintro _ rfl
          show OpG _ _ _ _ _ _
          exact og_plain rfl (ox_val (ov_move rfl))
        · intro wd hxE
          replace hrX := hrX.ext hxE
          replace hQ := HQ.ext hQ hxE
          replace hE := hE.tr hxE
          replace hXK := hXK.ext hxE
          replace hXV := hXV.ext hxE
          replace hXT := hXT.ext hxE
          replace hb_g9 := hb_g9.ext hxE
          have hz_hxE := hxE.size
          rintro _ rfl
          show OpG _ _ _ _ _ _
          exact og_on rfl rfl rfl (ox_val (ov_loadBlk (cs := [(.int .i64 x.1.op), (.string (strB x.1.key)), (.slice x.2.1 x.1.keys.length x.2.2.1), (.slice x.2.2.2.1 x.1.value.length x.2.2.2.2.1), (.slice x.2.2.2.2.2.1 x.1.tags.length x.2.2.2.2.2.2), (.int .u64 (↑x.1.life : Int)), (.int .u64 (↑x.1.ver : Int)), (.string (strB x.1.tag)), (.string (strB x.1.pre)), (.string (strB x.1.child))]) ag36_10 rfl hb_g9))
        · intro wd hxE
          replace hrX := hrX.ext hxE
          replace hQ := HQ.ext hQ hxE
          replace hE := hE.tr hxE
          replace hXK := hXK.ext hxE
          replace hXV := hXV.ext hxE
          replace hXT := hXT.ext hxE
          replace hb_g9 := hb_g9.ext hxE
          have hz_hxE := hxE.size
          rintro _ rfl
          rintro _ rfl
          show OpG _ _ _ _ _ _
          refine og_on rfl rfl rfl (OpRun.mono (or_call0 cl21 rfl rfl (rwrite07_any _ x.1 0 _ x.2.1 x.2.2.1 x.2.2.2.1 x.2.2.2.2.1 x.2.2.2.2.2.1 x.2.2.2.2.2.2 ((Rd.top hXK).mono (Nat.zero_le _) (Nat.le_refl _)) ((Rd.top hXV).mono (Nat.zero_le _) (Nat.le_refl _)) ((Rd.top hXT).mono (Nat.zero_le _) (Nat.le_refl _)) hp.life hp.ver hps hp.op1 hp.op2)) ?_)
          rintro v w210 ⟨A88, c88, rfl, ho88, he88⟩
          replace hrX := hrX.ext he88
          replace hQ := HQ.ext hQ he88
          replace hE := hE.tr he88
          replace hXK := hXK.ext he88
          replace hXV := hXV.ext he88
          replace hXT := hXT.ext he88
          replace hb_g9 := hb_g9.ext he88
          have hz_he88 := he88.size
          have hq_ho88 := fun g e => Own.lt ho88 (g := g) e
          exact ⟨⟨A88, c88, rfl, Own.mono ho88 (by omega)⟩, he88⟩
        · intro wd hxE
          replace hrX := hrX.ext hxE
          replace hQ := HQ.ext hQ hxE
          replace hE := hE.tr hxE
          replace hXK := hXK.ext hxE
          replace hXV := hXV.ext hxE
          replace hXT := hXT.ext hxE
          replace hb_g9 := hb_g9.ext hxE
          have hz_hxE := hxE.size
          rintro _ rfl
          show OpG _ _ _ _ _ _
          exact og_on rfl rfl rfl (ox_val (ov_loadBlk (cs := [(.int .i64 x.1.op), (.string (strB x.1.key)), (.slice x.2.1 x.1.keys.length x.2.2.1), (.slice x.2.2.2.1 x.1.value.length x.2.2.2.2.1), (.slice x.2.2.2.2.2.1 x.1.tags.length x.2.2.2.2.2.2), (.int .u64 (↑x.1.life : Int)), (.int .u64 (↑x.1.ver : Int)), (.string (strB x.1.tag)), (.string (strB x.1.pre)), (.string (strB x.1.child))]) ag36_10 rfl hb_g9))
        · intro wf16 hf16
          replace hrX := hrX.ext hf16
          replace hQ := HQ.ext hQ hf16
          replace hE := hE.tr hf16
          replace hXK := hXK.ext hf16
          replace hXV := hXV.ext hf16
          replace hXT := hXT.ext hf16
          replace hb_g9 := hb_g9.ext hf16
          have hz_hf16 := hf16.size
          rintro _ rfl
          rintro _ rfl
          rintro _ rfl
          rintro _ rfl
          rintro _ rfl
          rintro _ rfl
          rintro _ ⟨A82, c82, rfl, ho82⟩
          rintro _ rfl
          rintro _ rfl
          rintro _ rfl
          rintro _ rfl
          rintro _ rfl
          rintro _ ⟨A88, c88, rfl, ho88⟩
          rintro _ rfl
          have hq_ho88 := fun g e => Own.lt ho88 (g := g) e
          show WL _ _ _ [_, _, _] _ _ _
          refine wl_gstep (or_call0 cl23 rfl rfl (lreads_any _ _ _ ((codeOf x.1)) _ _ (outC x.1) (OwnB.rd ho88) (by omega) x.1 0 _ x.2.1 x.2.2.1 x.2.2.2.1 x.2.2.2.2.1 x.2.2.2.2.2.1 x.2.2.2.2.2.2 ((Rd.top hXK).mono (Nat.zero_le _) (Nat.le_refl _)) ((Rd.top hXV).mono (Nat.zero_le _) (Nat.le_refl _)) ((Rd.top hXT).mono (Nat.zero_le _) (Nat.le_refl _)) 0 _ (by rfl) hrd)) rfl rfl rfl rfl rfl ?_
          rintro v w210 ⟨rfl, he90⟩
          replace hrX := hrX.ext he90
          replace hQ := HQ.ext hQ he90
          replace hE := hE.tr he90
          replace hXK := hXK.ext he90
          replace hXV := hXV.ext he90
          replace hXT := hXT.ext he90
          replace hb_g9 := hb_g9.ext he90
          replace ho88 := Own.ext ho88 he90
          have hz_he90 := he90.size
          refine wl_gval (ov_not (b := true) rfl) rfl rfl rfl rfl rfl ?_
          refine wl_val (ov_pick_f rfl rfl) rfl rfl rfl ?_
          refine q_nil (k_then ?_)
          refine wc_cond_f rfl ?_
          refine q_skip (k_block (k_then (wc_regionL ?_)))
          refine wl_val (ov_add rfl rfl (wi64 (by omega) (by omega))) rfl rfl rfl ?_
          refine vm rfl rfl ?_
          refine q_nil ?_
          refine k_loop (k + 1) (by show 2 - (k + 1) < 2 - k; omega) (⟨rfl, rfl, rfl, trivial⟩) (⟨by omega, hrX, hQ, by omega, hE⟩)
    · refine q_exit (k_thenX (k_thenX (k_blockE (k_then (wc_seq (wc_regionL ?_))))))
      refine wl_step (or_call0 cl9 rfl rfl (known07_any _ (hW.ext hE))) rfl rfl rfl ?_
      rintro v w207 ⟨rfl, he94⟩
      replace hrX := hrX.ext he94
      replace hQ := HQ.ext hQ he94
      replace hE := hE.tr he94
      have hz_he94 := he94.size
      refine va rfl rfl ?_
      refine q_nil (k_then (q_ret ?_))
      refine e_ret rfl rfl ?_
      exact ⟨rfl, hE⟩

theorem requestLongs_walk (w : World) (hW : WordsAt w) (more parts : Int) :
    Fn Tryd.prog 7 #[.int .i64 more, .int .i64 parts] w (fun v w' => v = .bool true ∧ Ext w w') := by
  by_cases a : more < -2
  · exact requestLongs_a w hW more parts a
  · by_cases b : 2 < more
    · exact requestLongs_b w hW more parts (by omega) b
    · by_cases c : parts < -2
      · exact requestLongs_c w hW more parts (by omega) (by omega) c
      · by_cases d : 2 < parts
        · exact requestLongs_d w hW more parts (by omega) (by omega) (by omega) d
        · exact requestLongs_e w hW more parts (by omega) (by omega) (by omega) (by omega) (65536 + more).toNat (16 + parts).toNat (by omega) (by omega)

end Go.Proofs.YtohnkjjjejnkpaaDoor
