/-
 The walk of ConnAnswers.
-/
import Derived.Test.YtiighkbehiddkaaGreatCj
namespace Go.Proofs.YtiighkbehiddkaaGreat
open Go.RowKit
set_option linter.unusedVariables false
set_option maxRecDepth 4000
theorem cl10 : callable Tryz.prog 10 = true := by kernel_rfl
theorem cl20 : callable Tryz.prog 20 = true := by kernel_rfl
theorem connAnswers_a (w : World) (o n m k : Int) (h : o < 64) :
  Fn Tryz.prog 6 #[(.int .i64 o), (.int .i64 n), (.int .u8 m), (.int .u8 k)] w (fun v w' => v = .bool true ∧ Ext w w')  := by
 have hE := ext_refl w
 refine fn_enter (args := [(.int .i64 o), (.int .i64 n), (.int .u8 m), (.int .u8 k)]) Tryz.func6 rfl rfl rfl ?_
 show WC _ _ _ _ [(0, (.int .i64 o)), (1, (.int .i64 n)), (2, (.int .u8 m)), (3, (.int .u8 k))] _
 refine wc_seq (wc_regionL ?_)
 refine va rfl rfl ?_
 refine q_nil (k_then (wc_seq (wc_seq (wc_regionL ?_))))
 refine vm rfl rfl ?_
 refine wl_val (ov_lss rfl rfl) rfl rfl rfl ?_
 refine wl_spell (d := 20) rfl (bt (by omega)) ?_
 refine vm rfl rfl ?_
 iterate 2 refine wl_gskip rfl rfl rfl rfl rfl rfl ?_
 refine wl_val (ov_pick_t rfl rfl) rfl rfl rfl ?_
 refine vm rfl rfl ?_
 iterate 2 refine wl_gskip rfl rfl rfl rfl rfl rfl ?_
 refine wl_val (ov_pick_t rfl rfl) rfl rfl rfl ?_
 refine vm rfl rfl ?_
 iterate 2 refine wl_gskip rfl rfl rfl rfl rfl rfl ?_
 refine wl_val (ov_pick_t rfl rfl) rfl rfl rfl ?_
 refine vm rfl rfl ?_
 iterate 2 refine wl_gskip rfl rfl rfl rfl rfl rfl ?_
 refine wl_val (ov_pick_t rfl rfl) rfl rfl rfl ?_
 refine q_nil (k_then ?_)
 refine wc_cond_t rfl ?_
 refine wc_seq (wc_regionL ?_)
 refine wl_step (or_call0 cl10 rfl rfl (known28_any _)) rfl rfl rfl ?_
 rintro v w1 ⟨rfl, he37⟩
 replace hE := hE.tr he37
 have hz_he37 := he37.size
 refine va rfl rfl ?_
 refine q_nil (k_then (q_ret (k_thenR ?_)))
 refine e_ret rfl rfl ?_
 exact ⟨rfl, hE⟩
theorem connAnswers_b (w : World) (o n m k : Int) (h0 : ¬ o < 64) (h : 400 < o) :
  Fn Tryz.prog 6 #[(.int .i64 o), (.int .i64 n), (.int .u8 m), (.int .u8 k)] w (fun v w' => v = .bool true ∧ Ext w w')  := by
 have hE := ext_refl w
 refine fn_enter (args := [(.int .i64 o), (.int .i64 n), (.int .u8 m), (.int .u8 k)]) Tryz.func6 rfl rfl rfl ?_
 show WC _ _ _ _ [(0, (.int .i64 o)), (1, (.int .i64 n)), (2, (.int .u8 m)), (3, (.int .u8 k))] _
 refine wc_seq (wc_regionL ?_)
 refine va rfl rfl ?_
 refine q_nil (k_then (wc_seq (wc_seq (wc_regionL ?_))))
 refine vm rfl rfl ?_
 refine wl_val (ov_lss rfl rfl) rfl rfl rfl ?_
 refine wl_spell (d := 20) rfl (bf (by omega)) ?_
 refine vm rfl rfl ?_
 refine wl_gval (ov_move rfl) rfl rfl rfl rfl rfl ?_
 refine wl_gval (ov_gtr rfl rfl) rfl rfl rfl rfl rfl ?_
 refine wl_spell (d := 23) rfl (bt (by omega)) ?_
 refine wl_val (ov_pick_f rfl rfl) rfl rfl rfl ?_
 refine vm rfl rfl ?_
 iterate 2 refine wl_gskip rfl rfl rfl rfl rfl rfl ?_
 refine wl_val (ov_pick_t rfl rfl) rfl rfl rfl ?_
 refine vm rfl rfl ?_
 iterate 2 refine wl_gskip rfl rfl rfl rfl rfl rfl ?_
 refine wl_val (ov_pick_t rfl rfl) rfl rfl rfl ?_
 refine vm rfl rfl ?_
 iterate 2 refine wl_gskip rfl rfl rfl rfl rfl rfl ?_
 refine wl_val (ov_pick_t rfl rfl) rfl rfl rfl ?_
 refine q_nil (k_then ?_)
 refine wc_cond_t rfl ?_
 refine wc_seq (wc_regionL ?_)
 refine wl_step (or_call0 cl10 rfl rfl (known28_any _)) rfl rfl rfl ?_
 rintro v w1 ⟨rfl, he37⟩
 replace hE := hE.tr he37
 have hz_he37 := he37.size
 refine va rfl rfl ?_
 refine q_nil (k_then (q_ret (k_thenR ?_)))
 refine e_ret rfl rfl ?_
 exact ⟨rfl, hE⟩
theorem connAnswers_c (w : World) (o n m k : Int) (h0 : ¬ o < 64) (h1 : ¬ 400 < o) (h : n < 0) :
  Fn Tryz.prog 6 #[(.int .i64 o), (.int .i64 n), (.int .u8 m), (.int .u8 k)] w (fun v w' => v = .bool true ∧ Ext w w')  := by
 have hE := ext_refl w
 refine fn_enter (args := [(.int .i64 o), (.int .i64 n), (.int .u8 m), (.int .u8 k)]) Tryz.func6 rfl rfl rfl ?_
 show WC _ _ _ _ [(0, (.int .i64 o)), (1, (.int .i64 n)), (2, (.int .u8 m)), (3, (.int .u8 k))] _
 refine wc_seq (wc_regionL ?_)
 refine va rfl rfl ?_
 refine q_nil (k_then (wc_seq (wc_seq (wc_regionL ?_))))
 refine vm rfl rfl ?_
 refine wl_val (ov_lss rfl rfl) rfl rfl rfl ?_
 refine wl_spell (d := 20) rfl (bf (by omega)) ?_
 refine vm rfl rfl ?_
 refine wl_gval (ov_move rfl) rfl rfl rfl rfl rfl ?_
 refine wl_gval (ov_gtr rfl rfl) rfl rfl rfl rfl rfl ?_
 refine wl_spell (d := 23) rfl (bf (by omega)) ?_
 refine wl_val (ov_pick_f rfl rfl) rfl rfl rfl ?_
 refine vm rfl rfl ?_
 refine wl_gval (ov_move rfl) rfl rfl rfl rfl rfl ?_
 refine wl_gval (ov_lss rfl rfl) rfl rfl rfl rfl rfl ?_
 refine wl_spell (d := 27) rfl (bt (by omega)) ?_
 refine wl_val (ov_pick_f rfl rfl) rfl rfl rfl ?_
 refine vm rfl rfl ?_
 iterate 2 refine wl_gskip rfl rfl rfl rfl rfl rfl ?_
 refine wl_val (ov_pick_t rfl rfl) rfl rfl rfl ?_
 refine vm rfl rfl ?_
 iterate 2 refine wl_gskip rfl rfl rfl rfl rfl rfl ?_
 refine wl_val (ov_pick_t rfl rfl) rfl rfl rfl ?_
 refine q_nil (k_then ?_)
 refine wc_cond_t rfl ?_
 refine wc_seq (wc_regionL ?_)
 refine wl_step (or_call0 cl10 rfl rfl (known28_any _)) rfl rfl rfl ?_
 rintro v w1 ⟨rfl, he37⟩
 replace hE := hE.tr he37
 have hz_he37 := he37.size
 refine va rfl rfl ?_
 refine q_nil (k_then (q_ret (k_thenR ?_)))
 refine e_ret rfl rfl ?_
 exact ⟨rfl, hE⟩
theorem connAnswers_d (w : World) (o n m k : Int) (h0 : ¬ o < 64) (h1 : ¬ 400 < o) (h2 : ¬ n < 0) (h : 500 < n) :
  Fn Tryz.prog 6 #[(.int .i64 o), (.int .i64 n), (.int .u8 m), (.int .u8 k)] w (fun v w' => v = .bool true ∧ Ext w w')  := by
 have hE := ext_refl w
 refine fn_enter (args := [(.int .i64 o), (.int .i64 n), (.int .u8 m), (.int .u8 k)]) Tryz.func6 rfl rfl rfl ?_
 show WC _ _ _ _ [(0, (.int .i64 o)), (1, (.int .i64 n)), (2, (.int .u8 m)), (3, (.int .u8 k))] _
 refine wc_seq (wc_regionL ?_)
 refine va rfl rfl ?_
 refine q_nil (k_then (wc_seq (wc_seq (wc_regionL ?_))))
 refine vm rfl rfl ?_
 refine wl_val (ov_lss rfl rfl) rfl rfl rfl ?_
 refine wl_spell (d := 20) rfl (bf (by omega)) ?_
 refine vm rfl rfl ?_
 refine wl_gval (ov_move rfl) rfl rfl rfl rfl rfl ?_
 refine wl_gval (ov_gtr rfl rfl) rfl rfl rfl rfl rfl ?_
 refine wl_spell (d := 23) rfl (bf (by omega)) ?_
 refine wl_val (ov_pick_f rfl rfl) rfl rfl rfl ?_
 refine vm rfl rfl ?_
 refine wl_gval (ov_move rfl) rfl rfl rfl rfl rfl ?_
 refine wl_gval (ov_lss rfl rfl) rfl rfl rfl rfl rfl ?_
 refine wl_spell (d := 27) rfl (bf (by omega)) ?_
 refine wl_val (ov_pick_f rfl rfl) rfl rfl rfl ?_
 refine vm rfl rfl ?_
 refine wl_gval (ov_move rfl) rfl rfl rfl rfl rfl ?_
 refine wl_gval (ov_gtr rfl rfl) rfl rfl rfl rfl rfl ?_
 refine wl_spell (d := 31) rfl (bt (by omega)) ?_
 refine wl_val (ov_pick_f rfl rfl) rfl rfl rfl ?_
 refine vm rfl rfl ?_
 iterate 2 refine wl_gskip rfl rfl rfl rfl rfl rfl ?_
 refine wl_val (ov_pick_t rfl rfl) rfl rfl rfl ?_
 refine q_nil (k_then ?_)
 refine wc_cond_t rfl ?_
 refine wc_seq (wc_regionL ?_)
 refine wl_step (or_call0 cl10 rfl rfl (known28_any _)) rfl rfl rfl ?_
 rintro v w1 ⟨rfl, he37⟩
 replace hE := hE.tr he37
 have hz_he37 := he37.size
 refine va rfl rfl ?_
 refine q_nil (k_then (q_ret (k_thenR ?_)))
 refine e_ret rfl rfl ?_
 exact ⟨rfl, hE⟩
theorem connAnswers_e (w : World) (o n m k : Int) (h0 : ¬ o < 64) (h1 : ¬ 400 < o) (h2 : ¬ n < 0) (h3 : ¬ 500 < n) (h : 20 < m) :
  Fn Tryz.prog 6 #[(.int .i64 o), (.int .i64 n), (.int .u8 m), (.int .u8 k)] w (fun v w' => v = .bool true ∧ Ext w w')  := by
 have hE := ext_refl w
 refine fn_enter (args := [(.int .i64 o), (.int .i64 n), (.int .u8 m), (.int .u8 k)]) Tryz.func6 rfl rfl rfl ?_
 show WC _ _ _ _ [(0, (.int .i64 o)), (1, (.int .i64 n)), (2, (.int .u8 m)), (3, (.int .u8 k))] _
 refine wc_seq (wc_regionL ?_)
 refine va rfl rfl ?_
 refine q_nil (k_then (wc_seq (wc_seq (wc_regionL ?_))))
 refine vm rfl rfl ?_
 refine wl_val (ov_lss rfl rfl) rfl rfl rfl ?_
 refine wl_spell (d := 20) rfl (bf (by omega)) ?_
 refine vm rfl rfl ?_
 refine wl_gval (ov_move rfl) rfl rfl rfl rfl rfl ?_
 refine wl_gval (ov_gtr rfl rfl) rfl rfl rfl rfl rfl ?_
 refine wl_spell (d := 23) rfl (bf (by omega)) ?_
 refine wl_val (ov_pick_f rfl rfl) rfl rfl rfl ?_
 refine vm rfl rfl ?_
 refine wl_gval (ov_move rfl) rfl rfl rfl rfl rfl ?_
 refine wl_gval (ov_lss rfl rfl) rfl rfl rfl rfl rfl ?_
 refine wl_spell (d := 27) rfl (bf (by omega)) ?_
 refine wl_val (ov_pick_f rfl rfl) rfl rfl rfl ?_
 refine vm rfl rfl ?_
 refine wl_gval (ov_move rfl) rfl rfl rfl rfl rfl ?_
 refine wl_gval (ov_gtr rfl rfl) rfl rfl rfl rfl rfl ?_
 refine wl_spell (d := 31) rfl (bf (by omega)) ?_
 refine wl_val (ov_pick_f rfl rfl) rfl rfl rfl ?_
 refine vm rfl rfl ?_
 refine wl_gval (ov_move rfl) rfl rfl rfl rfl rfl ?_
 refine wl_gval (ov_gtr rfl rfl) rfl rfl rfl rfl rfl ?_
 refine wl_spell (d := 35) rfl (bt (by omega)) ?_
 refine wl_val (ov_pick_f rfl rfl) rfl rfl rfl ?_
 refine q_nil (k_then ?_)
 refine wc_cond_t rfl ?_
 refine wc_seq (wc_regionL ?_)
 refine wl_step (or_call0 cl10 rfl rfl (known28_any _)) rfl rfl rfl ?_
 rintro v w1 ⟨rfl, he37⟩
 replace hE := hE.tr he37
 have hz_he37 := he37.size
 refine va rfl rfl ?_
 refine q_nil (k_then (q_ret (k_thenR ?_)))
 refine e_ret rfl rfl ?_
 exact ⟨rfl, hE⟩
set_option maxHeartbeats 4000000 in
theorem connAnswers_g (w : World) (o n m k : Nat) (ho1 : 64 ≤ o) (ho2 : o ≤ 400) (hn2 : n ≤ 500) (hm2 : m ≤ 20) (hk2 : k ≤ 255) (hbig : o < (refB (rA n)).length) :
  Fn Tryz.prog 6 #[(.int .i64 (↑o : Int)), (.int .i64 (↑n : Int)), (.int .u8 (↑m : Int)), (.int .u8 (↑k : Int))] w (fun v w' => v = .bool true ∧ Ext w w')  := by
 have hE := ext_refl w
 have hwt : (refB (rspO 4 5)) = cnFr (rspO 4 5) := refB_eq rE_rv (rspok_e _ _)
 have hra : refB (rA n) = cnFr (rA n) := refB_eq (rA_rv hn2) (rA_ok n)
 have hwl : (refB (rspO 4 5)).length ≤ o := by have h3 : (refB (rspO 4 5)).length = 3 := (by decide +kernel); omega
 have hwl0 : (refB (rspO 4 5)).length ≤ 2097200 := by omega
 refine fn_enter (args := [(.int .i64 (↑o : Int)), (.int .i64 (↑n : Int)), (.int .u8 (↑m : Int)), (.int .u8 (↑k : Int))]) Tryz.func6 rfl rfl rfl ?_
 show WC _ _ _ _ [(0, (.int .i64 (↑o : Int))), (1, (.int .i64 (↑n : Int))), (2, (.int .u8 (↑m : Int))), (3, (.int .u8 (↑k : Int)))] _
 refine wc_seq (wc_regionL ?_)
 refine va rfl rfl ?_
 refine q_nil (k_then (wc_seq (wc_seq (wc_regionL ?_))))
 refine vm rfl rfl ?_
 refine wl_val (ov_lss rfl rfl) rfl rfl rfl ?_
 refine wl_spell (d := 20) rfl (bf (by omega)) ?_
 refine vm rfl rfl ?_
 refine wl_gval (ov_move rfl) rfl rfl rfl rfl rfl ?_
 refine wl_gval (ov_gtr rfl rfl) rfl rfl rfl rfl rfl ?_
 refine wl_spell (d := 23) rfl (bf (by omega)) ?_
 refine wl_val (ov_pick_f rfl rfl) rfl rfl rfl ?_
 refine vm rfl rfl ?_
 refine wl_gval (ov_move rfl) rfl rfl rfl rfl rfl ?_
 refine wl_gval (ov_lss rfl rfl) rfl rfl rfl rfl rfl ?_
 refine wl_spell (d := 27) rfl (bf (by omega)) ?_
 refine wl_val (ov_pick_f rfl rfl) rfl rfl rfl ?_
 refine vm rfl rfl ?_
 refine wl_gval (ov_move rfl) rfl rfl rfl rfl rfl ?_
 refine wl_gval (ov_gtr rfl rfl) rfl rfl rfl rfl rfl ?_
 refine wl_spell (d := 31) rfl (bf (by omega)) ?_
 refine wl_val (ov_pick_f rfl rfl) rfl rfl rfl ?_
 refine vm rfl rfl ?_
 refine wl_gval (ov_move rfl) rfl rfl rfl rfl rfl ?_
 refine wl_gval (ov_gtr rfl rfl) rfl rfl rfl rfl rfl ?_
 refine wl_spell (d := 35) rfl (bf (by omega)) ?_
 refine wl_val (ov_pick_f rfl rfl) rfl rfl rfl ?_
 refine q_nil (k_then ?_)
 refine wc_cond_f rfl ?_
 refine q_skip (k_then (wc_seq (wc_regionL ?_)))
 refine vm rfl rfl ?_
 refine wl_val (ov_build (cs := [(.int .i64 24), (.int .i64 (↑o : Int)), (.int .i64 16)]) ze23 pl23 rfl rfl) rfl rfl rfl ?_
 refine wl_step (or_call0 cl11 rfl rfl (cnew_ok _ 24 o 16 (by omega))) rfl rfl rfl ?_
 rintro v w1 ⟨gn41, S41, a41, rfl, hc41, hl41, he41⟩
 replace hE := hE.tr he41
 have hz_he41 := he41.size
 obtain ⟨L41, hlo41⟩ : ∃ n, n = w.heap.size := ⟨_, rfl⟩
 obtain ⟨H41, hhi41⟩ : ∃ n, n = w1.heap.size := ⟨_, rfl⟩
 replace hc41 : Cnn w1 gn41 S41 a41 a41 (cnNew 24 o 16) := hc41
 have hQ41 : ∀ x ∈ S41, L41 ≤ x ∧ x < H41 := fun x hx => ⟨by rw [hlo41]; exact hl41 x hx, by rw [hhi41]; exact (hc41.bnd.1 x hx).1⟩
 have hB_hc41 : (∀ x ∈ S41, x < w1.heap.size) ∧ a41 ≤ w1.heap.size := ⟨fun x hx => (hc41.bnd.1 x hx).1, hc41.bnd.2⟩
 refine vm rfl rfl ?_
 iterate 2 refine vx rfl rfl rfl ?_
 iterate 2 refine va rfl rfl ?_
 refine q_nil (k_then (wc_seq (wc_seq (wc_regionL ?_))))
 refine vm rfl rfl ?_
 refine wl_val (ov_nilptr Tryz.underlying28 rfl) rfl rfl rfl ?_
 refine vm rfl rfl ?_
 refine wl_gval (ov_move rfl) rfl rfl rfl rfl rfl ?_
 refine wl_gval (ov_neq rfl rfl) rfl rfl rfl rfl rfl ?_
 refine wl_val (ov_pick_f rfl rfl) rfl rfl rfl ?_
 refine q_nil (k_then ?_)
 refine wc_cond_f rfl ?_
 refine q_skip (k_then (wc_seq (wc_regionL ?_)))
 refine vm rfl rfl ?_
 obtain ⟨La, hLa⟩ : ∃ n, n = w1.heap.size := ⟨_, rfl⟩
 refine wl_step (or_makeBytes (n := n) bt32 rfl rfl (by omega) (by omega)) rfl rfl rfl ?_
 rintro v w2 ⟨A51, c51, rfl, ho51, he51⟩
 replace hE := hE.tr he51
 replace hc41 := hc41.ext he51
 have hz_he51 := he51.size
 have hq_ho51 := fun g e => Own.lt ho51 (g := g) e
 refine wl_val (ov_build (cs := [(.int .i64 1), (.slice A51 (List.replicate n 0).length c51), (.int .u64 1), (.int .u64 18446744073709551615)]) ze80 pl80 rfl rfl) rfl rfl rfl ?_
 refine wl_step (or_buildSliceF (cs := [.int .i64 1, .slice A51 (List.replicate n (0 : UInt8)).length c51, .int .u64 1, .int .u64 18446744073709551615]) sl40 rfl (by kernel_rfl) (by decide) (by decide)) rfl rfl rfl ?_
 rintro v w3 ⟨g53, rfl, hb_g53, he53, hl53, hu53⟩
 replace hE := hE.tr he53
 replace hc41 := hc41.ext he53
 replace ho51 := Own.ext ho51 he53
 have hz_he53 := he53.size
 refine wl_val (ov_build (cs := [(.int .i64 4), (.int .i64 0), (.slice (some ⟨g53, 0, none⟩) 1 1), (.int .u64 0), (.int .i64 0), (.slice none 0 0)]) ze43 pl43 rfl rfl) rfl rfl rfl ?_
 refine wl_step (or_alloc (cs := [(.int .i64 0), (.int .i64 0), (.slice none 0 0), (.int .u64 0), (.int .i64 0), (.slice none 0 0)]) ze43 rfl) rfl rfl rfl ?_
 rintro v w4 ⟨g11, rfl, hb_g11, he11, hl11, hu11⟩
 replace hE := hE.tr he11
 replace hc41 := hc41.ext he11
 replace ho51 := Own.ext ho51 he11
 replace hb_g53 := hb_g53.ext he11
 have hz_he11 := he11.size
 refine wl_step0 (or_storeBlk (vs := [(.int .i64 4), (.int .i64 0), (.slice (some ⟨g53, 0, none⟩) 1 1), (.int .u64 0), (.int .i64 0), (.slice none 0 0)]) sz43 rfl rfl (by simp [Value.oneCell']) hb_g11 rfl) rfl rfl ?_
 rintro _ w5 ⟨hN5, hg5⟩
 have hz_hg5 := hg5.size
 replace hE := hE.gr hg5 (fun _ e => by cases e; omega)
 replace hc41 := hc41.grf hg5 hB_hc41 (by omega)
 replace ho51 := Own.gr ho51 hg5 (by first | exact .inl rfl | (right; intro e; first | (have := hq_ho51 _ e; omega) | (have := Own.lt ho51 e; omega) | exact own_blk_ne ho51 hb_g11 (by decide) e))
 replace hb_g53 := hb_g53.gr hg5 (by intro e; cases e; omega)
 replace hb_g11 := hN5
 refine q_nil (k_then (wc_seq (wc_regionL ?_)))
 refine wl_val (ov_loadBlk (cs := [(.int .i64 4), (.int .i64 0), (.slice (some ⟨g53, 0, none⟩) 1 1), (.int .u64 0), (.int .i64 0), (.slice none 0 0)]) ag43_6 rfl hb_g11) rfl rfl rfl ?_
 have hxr : RdI w5 La w5.heap.size (some ⟨g53, 0, none⟩) 1 [((⟨1, List.replicate n 0, 1, 18446744073709551615⟩ : Itm), A51, c51)] := rdI_blkL hb_g53 rfl (by decide) (vr_one ((OwnB.rd ho51).mono (by omega) (Nat.le_refl _))) (by omega)
 obtain ⟨Ha, hHa⟩ : ∃ n, n = w5.heap.size := ⟨_, rfl⟩
 rw [← hHa] at hxr
 refine wl_step (or_call0 cl28 rfl rfl (bytes28_any _ (rA n) [((⟨1, List.replicate n 0, 1, 18446744073709551615⟩ : Itm), A51, c51)] rfl La Ha (some ⟨g53, 0, none⟩) 1 none 0 hxr (Rd.nil _ _ _ _ _ _ (Nat.zero_le _)) (rA_ok n) (rA_sz hn2) (by show (0 : Int) ≤ 4; decide) (by show (4 : Int) ≤ 15; decide) (by show (0 : Int) ≤ 0; decide) (by show (0 : Int) ≤ _; decide) (by show (0 : Int) ≤ 0; decide) (rA_ms n))) rfl rfl rfl ?_
 rintro v w6 ⟨A56, c56, rfl, ho56, he56⟩
 replace hE := hE.tr he56
 replace hc41 := hc41.ext he56
 replace hb_g11 := hb_g11.ext he56
 replace hxr := RdI.ext hxr he56
 have hz_he56 := he56.size
 refine va rfl rfl ?_
 refine q_nil (k_then (wc_seq (wc_seq (wc_regionL ?_))))
 refine vm rfl rfl ?_
 refine wl_val (ov_len Tryz.underlying32 rfl) rfl rfl rfl ?_
 refine vm rfl rfl ?_
 refine wl_val (ov_gtr rfl rfl) rfl rfl rfl ?_
 refine q_nil (k_then ?_)
 refine wc_cond_T rfl (decide_eq_true (by omega)) ?_
 refine wc_regionL ?_
 refine wl_val (ov_build (cs := [(.int .i64 4), (.int .i64 5), (.slice none 0 0), (.int .u64 0), (.int .i64 0), (.slice none 0 0)]) ze43 pl43 rfl rfl) rfl rfl rfl ?_
 refine wl_step (or_call0 cl28 rfl rfl (bytes28_any _ (rspO 4 5) [] rfl 0 0 none 0 none 0 (RdI.nil _ 0 0) (Rd.nil _ _ _ _ _ _ (Nat.zero_le _)) (rspok_e _ _) (rsz_e _ _) (by decide) (by decide) (by decide) (by decide) (by decide) (fun x hx => by cases hx))) rfl rfl rfl ?_
 rintro v w7 ⟨A62, c62, rfl, ho62, he62⟩
 replace hE := hE.tr he62
 replace hc41 := hc41.ext he62
 replace hb_g11 := hb_g11.ext he62
 replace hxr := RdI.ext hxr he62
 have hz_he62 := he62.size
 refine va rfl rfl ?_
 refine q_nil (k_then (wc_seq (wc_regionL ?_)))
 refine va rfl rfl ?_
 refine q_nil (k_then (wc_seq (wc_seq (wc_regionL ?_))))
 refine va rfl rfl ?_
 refine q_nil (k_then (wc_block ?_))
 have hrw := OwnB.rd ho62
 obtain ⟨Lw, Hw, hLw, hHw, hrw, hLw2⟩ : ∃ a b, b ≤ w7.heap.size ∧ La ≤ a ∧ RdB w7 a b A62 c62 (refB (rspO 4 5)) ∧ H41 ≤ a := ⟨_, _, Nat.le_refl _, by omega, hrw, by omega⟩
 obtain ⟨B0, hB0⟩ : ∃ n, n = w7.heap.size := ⟨_, rfl⟩
 have hP41 : ∀ x ∈ S41, ((L41 ≤ x ∧ x < H41) ∨ B0 ≤ x) := fun x hx => .inl (hQ41 x hx)
 have hg11b := hb_g11.lt
 have hB0q : B0 ≤ w7.heap.size := by omega
 have hlay : H41 ≤ La ∧ La ≤ Ha ∧ Ha ≤ B0 ∧ Hw ≤ B0 ∧ H41 ≤ g11 ∧ g11 < B0 ∧ w.heap.size ≤ L41 ∧ L41 ≤ H41 := by omega
 have hEq41 := hE.size
 refine wc_loop (σ := Nat × List Nat × Nat × Nat × Cn) (fun s => m - s.1) (fun s => [(0, .int .i64 (o : Int)), (2, .int .u8 (m : Int)), (3, .int .u8 (k : Int)), (9, .pointer (some ⟨gn41, 0, none⟩)), (11, .pointer (some ⟨g11, 0, none⟩)), (12, .slice A62 (refB (rspO 4 5)).length c62), (13, .int .i64 (s.2.2.2.2.out.length : Int)), (14, .int .i64 (s.1 : Int))]) (fun s w' => s.1 ≤ m ∧ A1 o s.1 s.2.2.2.2 ∧ Cnn w' gn41 s.2.1 s.2.2.1 s.2.2.2.1 s.2.2.2.2 ∧ (∀ x ∈ s.2.1, ((L41 ≤ x ∧ x < H41) ∨ B0 ≤ x)) ∧ Blk w' g11 43 [.int .i64 4, .int .i64 0, .slice (some ⟨g53, 0, none⟩) 1 1, .int .u64 0, .int .i64 0, .slice none 0 0] ∧ RdI w' La Ha (some ⟨g53, 0, none⟩) 1 [((⟨1, List.replicate n 0, 1, 18446744073709551615⟩ : Itm), A51, c51)] ∧ RdB w' Lw Hw A62 c62 (refB (rspO 4 5)) ∧ B0 ≤ w'.heap.size ∧ Ext w w') ((0, S41, a41, a41, cnNew 24 o 16)) (⟨Nat.zero_le _, a1_new ho1, hc41, hP41, hb_g11, hxr, hrw, hB0q, hE⟩) (⟨rfl, rfl, rfl, rfl, rfl, rfl, rfl, rfl, trivial⟩) ?_
 rintro ⟨i, Sq, aq, bq, s⟩ wq ⟨hi0, hA1, hcq, hPq, hb_g11, hxr, hrw, hBq, hE⟩
 show WC _ _ _ _ [(0, (.int .i64 (↑o : Int))), (2, (.int .u8 (↑m : Int))), (3, (.int .u8 (↑k : Int))), (9, (.pointer (some ⟨gn41, 0, none⟩))), (11, (.pointer (some ⟨g11, 0, none⟩))), (12, (.slice A62 (refB (rspO 4 5)).length c62)), (13, (.int .i64 (↑s.out.length : Int))), (14, (.int .i64 (↑i : Int)))] _
 simp only at hi0 hA1 hPq
 replace hcq : Cnn wq gn41 Sq aq bq s := hcq
 have hz_E := hE.size
 have hB_hcq : (∀ x ∈ Sq, x < wq.heap.size) ∧ bq ≤ wq.heap.size := ⟨fun x hx => (hcq.bnd.1 x hx).1, hcq.bnd.2⟩
 obtain ⟨hy1, hy2, hy3, hy4, hy5, hy6, hy7, hy8⟩ := hlay
 have hcap := hcq.cap
 refine wc_seq (wc_seq (wc_regionL ?_))
 iterate 2 refine vm rfl rfl ?_
 refine wl_val (ov_conv Tryz.underlying5 Tryz.underlying3 rfl (wi64 (by omega) (by omega))) rfl rfl rfl ?_
 refine wl_val (ov_lss rfl rfl) rfl rfl rfl ?_
 refine q_nil (k_then ?_)
 refine wc_cond_d rfl (fun hc4 => ?_) (fun hc4 => ?_)
 ·refine q_skip (k_then (wc_seq (wc_block (wc_seq (wc_seq (wc_regionL ?_))))))
  refine vm rfl rfl ?_
  refine wl_step (or_buildBytes (l := [3, 4, 1, 97]) bt32 (os := [.const (.int .u8 3), .const (.int .u8 4), .const (.int .u8 1), .const (.int .u8 97)]) rfl rfl rfl (by decide)) rfl rfl rfl ?_
  rintro v w8 ⟨A70, c70, rfl, ho70, he70⟩
  replace hb_g11 := hb_g11.ext he70
  replace hxr := RdI.ext hxr he70
  replace hrw := hrw.ext he70
  replace hE := hE.tr he70
  replace hcq := hcq.ext he70
  have hz_he70 := he70.size
  refine wl_step (or_call0 cl29 rfl rfl (lw28_del _ _ Sq aq bq s hcq 4 _ _ A70 c70 [3, 4, 1, 97] (OwnB.rd ho70) (fun x hx => by have h1 := hPq x hx; have h2 := hB_hcq.1 x hx; omega) (by decide) (by rw [a1_del hA1]; exact ⟨rfl, rfl⟩))) rfl rfl rfl ?_
  rintro v w9 ⟨rfl, hto71⟩
  obtain ⟨S71, a71, b71, hc71, hk71, hS71, hab71⟩ := hto71
  replace hc71 : Cnn w9 gn41 S71 a71 b71 (aD s) := hc71
  have hz71 := hk71.size
  replace hb_g11 := hk71.bk hb_g11 (fun hx => by have := hPq _ hx; omega)
  replace hxr := RdI.kp hxr hk71 (fun x hx => by have := hPq x hx; omega)
  replace hrw := hk71.rd hrw (fun x hx => by have := hPq x hx; omega)
  replace hE := hk71.e0 hE (fun x hx => by have := hPq x hx; omega)
  have hP71 : ∀ x ∈ S71, ((L41 ≤ x ∧ x < H41) ∨ B0 ≤ x) := fun x hx => (hS71 x hx).elim (fun h => hPq x h) (fun h => .inr (by omega))
  have hB_hc71 : (∀ x ∈ S71, x < w9.heap.size) ∧ b71 ≤ w9.heap.size := ⟨fun x hx => (hc71.bnd.1 x hx).1, hc71.bnd.2⟩
  refine wl_val (ov_not (b := true) rfl) rfl rfl rfl ?_
  refine vm rfl rfl ?_
  refine wl_gval (ov_move rfl) rfl rfl rfl rfl rfl ?_
  refine wl_gstep (or_call0 cl30 rfl rfl (lw28_steps _ _ S71 a71 b71 (aD s) hc71 1 (by have e1 : (aD s).pt = s.pt := (by unfold aD; rw [a1_del hA1]); have e2 := hA1.pt; omega) (by rw [a1_step hA1]; rfl))) rfl rfl rfl rfl rfl ?_
  rintro v w10 ⟨rfl, hto75⟩
  obtain ⟨S75, a75, b75, hc75, hk75, hS75, hab75⟩ := hto75
  replace hc75 : Cnn w10 gn41 S75 a75 b75 (aS s) := hc75
  have hz75 := hk75.size
  replace hb_g11 := hk75.bk hb_g11 (fun hx => by have := hP71 _ hx; omega)
  replace hxr := RdI.kp hxr hk75 (fun x hx => by have := hP71 x hx; omega)
  replace hrw := hk75.rd hrw (fun x hx => by have := hP71 x hx; omega)
  replace hE := hk75.e0 hE (fun x hx => by have := hP71 x hx; omega)
  have hP75 : ∀ x ∈ S75, ((L41 ≤ x ∧ x < H41) ∨ B0 ≤ x) := fun x hx => (hS75 x hx).elim (fun h => hP71 x h) (fun h => .inr (by omega))
  have hB_hc75 : (∀ x ∈ S75, x < w10.heap.size) ∧ b75 ≤ w10.heap.size := ⟨fun x hx => (hc75.bnd.1 x hx).1, hc75.bnd.2⟩
  refine wl_gval (ov_not (b := true) rfl) rfl rfl rfl rfl rfl ?_
  refine wl_val (ov_pick_f rfl rfl) rfl rfl rfl ?_
  refine vm rfl rfl ?_
  refine wl_gval (ov_move rfl) rfl rfl rfl rfl rfl ?_
  refine wl_gval (ov_loadBlk (cs := [(.int .i64 4), (.int .i64 0), (.slice (some ⟨g53, 0, none⟩) 1 1), (.int .u64 0), (.int .i64 0), (.slice none 0 0)]) ag43_6 rfl hb_g11) rfl rfl rfl rfl rfl ?_
  refine wl_gstep (or_call0 cl24 rfl rfl (lcans _ _ S75 a75 b75 (aS s) hc75 (rA n) [((⟨1, List.replicate n 0, 1, 18446744073709551615⟩ : Itm), A51, c51)] rfl La Ha (some ⟨g53, 0, none⟩) 1 none 0 hxr (Rd.nil _ _ _ _ _ _ (Nat.zero_le _)) (rA_ok n) (rA_sz hn2))) rfl rfl rfl rfl rfl ?_
  rintro v w11 ⟨rfl, hto81⟩
  obtain ⟨S81, a81, b81, hc81, hk81, hS81, hab81⟩ := hto81
  replace hc81 : Cnn w11 gn41 S81 a81 b81 (aA s (rA n)) := hc81
  have hz81 := hk81.size
  replace hb_g11 := hk81.bk hb_g11 (fun hx => by have := hP75 _ hx; omega)
  replace hxr := RdI.kp hxr hk81 (fun x hx => by have := hP75 x hx; omega)
  replace hrw := hk81.rd hrw (fun x hx => by have := hP75 x hx; omega)
  replace hE := hk81.e0 hE (fun x hx => by have := hP75 x hx; omega)
  have hP81 : ∀ x ∈ S81, ((L41 ≤ x ∧ x < H41) ∨ B0 ≤ x) := fun x hx => (hS81 x hx).elim (fun h => hP75 x h) (fun h => .inr (by omega))
  have hB_hc81 : (∀ x ∈ S81, x < w11.heap.size) ∧ b81 ≤ w11.heap.size := ⟨fun x hx => (hc81.bnd.1 x hx).1, hc81.bnd.2⟩
  have hout : (aA s (rA n)).out = s.out := aA_out hA1 (rA_rv hn2) (rA_ok n) rfl
  have hA30 : A3 o i (refB (rspO 4 5)) (aA s (rA n)) := by unfold aA; rw [a1_ans hA1 (rA_rv hn2) (rA_ok n) rfl, if_pos (by rw [← hra]; exact hbig), hwt]; exact a1_3 hA1 _
  refine wl_spell (d := 81) rfl (v' := (.int .i64 0)) (by rw [a1_ans hA1 (rA_rv hn2) (rA_ok n) rfl]; rfl) ?_
  refine wl_gval (ov_neq rfl rfl) rfl rfl rfl rfl rfl ?_
  refine wl_val (ov_pick_f rfl rfl) rfl rfl rfl ?_
  refine q_nil (k_then ?_)
  refine wc_cond_f rfl ?_
  refine q_skip (k_then (wc_seq (wc_block ?_)))
  refine wc_loop (σ := List Nat × Nat × Nat × Cn) (fun s => s.2.2.2.out.length) (fun s => [(0, .int .i64 (o : Int)), (2, .int .u8 (m : Int)), (3, .int .u8 (k : Int)), (9, .pointer (some ⟨gn41, 0, none⟩)), (11, .pointer (some ⟨g11, 0, none⟩)), (12, .slice A62 (refB (rspO 4 5)).length c62), (13, .int .i64 (s.2.2.2.out.length : Int)), (14, .int .i64 (i : Int))]) (fun s w' => A3 o i (refB (rspO 4 5)) s.2.2.2 ∧ Cnn w' gn41 s.1 s.2.1 s.2.2.1 s.2.2.2 ∧ (∀ x ∈ s.1, ((L41 ≤ x ∧ x < H41) ∨ B0 ≤ x)) ∧ Blk w' g11 43 [.int .i64 4, .int .i64 0, .slice (some ⟨g53, 0, none⟩) 1 1, .int .u64 0, .int .i64 0, .slice none 0 0] ∧ RdI w' La Ha (some ⟨g53, 0, none⟩) 1 [((⟨1, List.replicate n 0, 1, 18446744073709551615⟩ : Itm), A51, c51)] ∧ RdB w' Lw Hw A62 c62 (refB (rspO 4 5)) ∧ B0 ≤ w'.heap.size ∧ Ext w w') ((S81, a81, b81, aA s (rA n))) (⟨hA30, hc81, hP81, hb_g11, hxr, hrw, by omega, hE⟩) (⟨rfl, rfl, rfl, rfl, rfl, rfl, congrArg (fun z => some (Value.int .i64 ((List.length z : Nat) : Int))) hout.symm, rfl, trivial⟩) ?_
  rintro ⟨S2, a2, b2, s2⟩ wn ⟨hA3, hc2, hP2, hb_g11, hxr, hrw, hBq2, hE⟩
  show WC _ _ _ _ [(0, (.int .i64 (↑o : Int))), (2, (.int .u8 (↑m : Int))), (3, (.int .u8 (↑k : Int))), (9, (.pointer (some ⟨gn41, 0, none⟩))), (11, (.pointer (some ⟨g11, 0, none⟩))), (12, (.slice A62 (refB (rspO 4 5)).length c62)), (13, (.int .i64 (↑s2.out.length : Int))), (14, (.int .i64 (↑i : Int)))] _
  simp only at hA3 hP2
  replace hc2 : Cnn wn gn41 S2 a2 b2 s2 := hc2
  have hz_E2 := hE.size
  have hcap2 := hc2.cap
  have hco2 := hA3.co
  have htk2 := hA3.tk
  have hpt2 := hA3.pt
  have hB_hc2 : (∀ x ∈ S2, x < wn.heap.size) ∧ b2 ≤ wn.heap.size := ⟨fun x hx => (hc2.bnd.1 x hx).1, hc2.bnd.2⟩
  refine wc_seq (wc_seq (wc_regionL ?_))
  iterate 2 refine vm rfl rfl ?_
  refine wl_val (ov_len Tryz.underlying32 rfl) rfl rfl rfl ?_
  refine wl_val (ov_add rfl rfl (wi64 (by omega) (by omega))) rfl rfl rfl ?_
  refine vm rfl rfl ?_
  refine wl_val (ov_gtr rfl rfl) rfl rfl rfl ?_
  refine q_nil (k_then ?_)
  refine wc_cond_d rfl (fun hc6 => ?_) (fun hc6 => ?_)
  ·refine q_skip (k_then (wc_block (wc_seq (wc_seq (wc_regionL ?_)))))
   refine vm rfl rfl ?_
   refine wl_step (or_call0 cl30 rfl rfl (lw28_steps _ _ S2 a2 b2 s2 hc2 5 (by omega) (by rw [a3_blocked hA3 (by omega) (by omega)]; rfl))) rfl rfl rfl ?_
   rintro v w12 ⟨rfl, hto91⟩
   obtain ⟨S91, a91, b91, hc91, hk91, hS91, hab91⟩ := hto91
   replace hc91 : Cnn w12 gn41 S91 a91 b91 s2 := by have h := hc91; rw [a3_blocked hA3 (by omega) (by omega)] at h; exact h
   have hz91 := hk91.size
   replace hb_g11 := hk91.bk hb_g11 (fun hx => by have := hP2 _ hx; omega)
   replace hxr := RdI.kp hxr hk91 (fun x hx => by have := hP2 x hx; omega)
   replace hrw := hk91.rd hrw (fun x hx => by have := hP2 x hx; omega)
   replace hE := hk91.e0 hE (fun x hx => by have := hP2 x hx; omega)
   have hP91 : ∀ x ∈ S91, ((L41 ≤ x ∧ x < H41) ∨ B0 ≤ x) := fun x hx => (hS91 x hx).elim (fun h => hP2 x h) (fun h => .inr (by omega))
   have hB_hc91 : (∀ x ∈ S91, x < w12.heap.size) ∧ b91 ≤ w12.heap.size := ⟨fun x hx => (hc91.bnd.1 x hx).1, hc91.bnd.2⟩
   refine wl_val (ov_not (b := true) rfl) rfl rfl rfl ?_
   refine vm rfl rfl ?_
   refine wl_gval (ov_move rfl) rfl rfl rfl rfl rfl ?_
   refine wl_gstep (or_call0 cl25 rfl rfl (lcphase _ _ S91 a91 b91 s2 hc91)) rfl rfl rfl rfl rfl ?_
   rintro v w13 ⟨rfl, he95⟩
   replace hb_g11 := hb_g11.ext he95
   replace hxr := RdI.ext hxr he95
   replace hrw := hrw.ext he95
   replace hE := hE.tr he95
   replace hc91 := hc91.ext he95
   have hz_he95 := he95.size
   refine wl_gval (ov_neq rfl rfl) rfl rfl rfl rfl rfl ?_
   refine wl_spell (d := 96) rfl (bf (by rw [hA3.ph]; exact fun q => q rfl)) ?_
   refine wl_val (ov_pick_f rfl rfl) rfl rfl rfl ?_
   refine q_nil (k_then ?_)
   refine wc_cond_f rfl ?_
   refine q_skip (k_then (wc_seq (wc_regionL ?_)))
   iterate 2 refine vm rfl rfl ?_
   refine wl_val (ov_conv Tryz.underlying5 Tryz.underlying3 rfl (wi64 (by omega) (by omega))) rfl rfl rfl ?_
   refine wl_val (ov_add rfl rfl (wi64 (by omega) (by omega))) rfl rfl rfl ?_
   refine wl_step (or_call0 cl20 rfl rfl (lcdrain _ _ S91 a91 b91 s2 hc91 ((k + 1 : Nat) : Int) (by omega) (by omega) (by omega))) rfl rfl rfl ?_
   rintro v w14 ⟨A103, c103, rfl, ho103, hto103⟩
   obtain ⟨S103, a103, b103, hc103, hk103, hS103, hab103⟩ := hto103
   replace hc103 : Cnn w14 gn41 S103 a103 b103 (cnDr s2 ((k + 1 : Nat) : Int)).1 := hc103
   have hz103 := hk103.size
   replace hb_g11 := hk103.bk hb_g11 (fun hx => by have := hP91 _ hx; omega)
   replace hxr := RdI.kp hxr hk103 (fun x hx => by have := hP91 x hx; omega)
   replace hrw := hk103.rd hrw (fun x hx => by have := hP91 x hx; omega)
   replace hE := hk103.e0 hE (fun x hx => by have := hP91 x hx; omega)
   have hP103 : ∀ x ∈ S103, ((L41 ≤ x ∧ x < H41) ∨ B0 ≤ x) := fun x hx => (hS103 x hx).elim (fun h => hP91 x h) (fun h => .inr (by omega))
   have hB_hc103 : (∀ x ∈ S103, x < w14.heap.size) ∧ b103 ≤ w14.heap.size := ⟨fun x hx => (hc103.bnd.1 x hx).1, hc103.bnd.2⟩
   have hdr := a3_drain hA3 (k + 1)
   refine vm rfl rfl ?_
   iterate 2 refine vx rfl rfl rfl ?_
   iterate 2 refine va rfl rfl ?_
   refine q_nil (k_then (wc_seq (wc_seq (wc_regionL ?_))))
   refine vm rfl rfl ?_
   refine wl_val (ov_neq rfl rfl) rfl rfl rfl ?_
   refine wl_spell (d := 107) rfl (bf (by rw [show (bpeek s2.out ((k + 1 : Nat) : Int)).2 = 0 from hdr.2.1]; exact fun q => q rfl)) ?_
   refine vm rfl rfl ?_
   refine wl_gval (ov_move rfl) rfl rfl rfl rfl rfl ?_
   refine wl_gval (ov_len Tryz.underlying32 rfl) rfl rfl rfl rfl rfl ?_
   iterate 2 refine wl_gval (ov_move rfl) rfl rfl rfl rfl rfl ?_
   refine wl_gval (ov_conv Tryz.underlying5 Tryz.underlying3 rfl (wi64 (by omega) (by omega))) rfl rfl rfl rfl rfl ?_
   refine wl_gval (ov_add rfl rfl (wi64 (by omega) (by omega))) rfl rfl rfl rfl rfl ?_
   refine wl_gval (ov_min rfl rfl (m := ((min (k + 1) s2.out.length : Nat) : Int)) (by omega)) rfl rfl rfl rfl rfl ?_
   refine wl_gval (ov_neq rfl rfl) rfl rfl rfl rfl rfl ?_
   refine wl_spell (d := 116) rfl (bf (by rw [hdr.2.2]; exact fun q => q rfl)) ?_
   refine wl_val (ov_pick_f rfl rfl) rfl rfl rfl ?_
   refine q_nil (k_then ?_)
   refine wc_cond_f rfl ?_
   refine q_skip (k_then (wc_regionL ?_))
   iterate 2 refine vm rfl rfl ?_
   refine wl_val (ov_len Tryz.underlying32 rfl) rfl rfl rfl ?_
   refine wl_val (ov_sub rfl rfl (wi64 (by omega) (by omega))) rfl rfl rfl ?_
   refine va rfl rfl ?_
   refine q_nil (k_block ?_)
   refine k_loop ((S103, a103, b103, (cnDr s2 ((k + 1 : Nat) : Int)).1)) (by show (s2.out.drop _).length < s2.out.length; rw [List.length_drop, hdr.2.2]; omega) (⟨rfl, rfl, rfl, rfl, rfl, rfl, congrArg (fun z => some (Value.int .i64 z)) (show (s2.out.length : Int) - ((bpeek s2.out ((k + 1 : Nat) : Int)).1.length : Int) = ((s2.out.drop (bpeek s2.out ((k + 1 : Nat) : Int)).1.length).length : Int) from by rw [List.length_drop, hdr.2.2]; omega), rfl, trivial⟩) (⟨hdr.1, hc103, hP103, hb_g11, hxr, hrw, by omega, hE⟩)
  ·refine q_exit (k_thenX (k_thenX (k_blockE (k_then (wc_seq (wc_seq (wc_regionL ?_)))))))
   refine vm rfl rfl ?_
   refine wl_step (or_call0 cl30 rfl rfl (lw28_steps _ _ S2 a2 b2 s2 hc2 4 (by omega) (by rw [a3_write hA3 (by omega)]; rfl))) rfl rfl rfl ?_
   rintro v w212 ⟨rfl, hto123⟩
   obtain ⟨S123, a123, b123, hc123, hk123, hS123, hab123⟩ := hto123
   replace hc123 : Cnn w212 gn41 S123 a123 b123 (cnOut s2) := by have h := hc123; rw [a3_write hA3 (by omega)] at h; exact h
   have hz123 := hk123.size
   replace hb_g11 := hk123.bk hb_g11 (fun hx => by have := hP2 _ hx; omega)
   replace hxr := RdI.kp hxr hk123 (fun x hx => by have := hP2 x hx; omega)
   replace hrw := hk123.rd hrw (fun x hx => by have := hP2 x hx; omega)
   replace hE := hk123.e0 hE (fun x hx => by have := hP2 x hx; omega)
   have hP123 : ∀ x ∈ S123, ((L41 ≤ x ∧ x < H41) ∨ B0 ≤ x) := fun x hx => (hS123 x hx).elim (fun h => hP2 x h) (fun h => .inr (by omega))
   have hB_hc123 : (∀ x ∈ S123, x < w212.heap.size) ∧ b123 ≤ w212.heap.size := ⟨fun x hx => (hc123.bnd.1 x hx).1, hc123.bnd.2⟩
   have hno : (cnOut s2).out.length = s2.out.length + (refB (rspO 4 5)).length := by show (s2.out ++ s2.bs).length = _; rw [List.length_append, hA3.bs]
   have hA1o := a3_out hA3 hwl0
   refine wl_val (ov_not (b := true) rfl) rfl rfl rfl ?_
   refine q_nil (k_then ?_)
   refine wc_cond_f rfl ?_
   refine q_skip (k_then (wc_seq (wc_regionL ?_)))
   iterate 2 refine vm rfl rfl ?_
   refine wl_val (ov_len Tryz.underlying32 rfl) rfl rfl rfl ?_
   refine wl_val (ov_add rfl rfl (wi64 (by omega) (by omega))) rfl rfl rfl ?_
   refine va rfl rfl ?_
   refine q_nil (k_then (wc_seq (wc_regionL ?_)))
   refine vm rfl rfl ?_
   refine wl_step (or_call0 cl21 rfl rfl (lcsizes _ _ S123 a123 b123 (cnOut s2) hc123)) rfl rfl rfl ?_
   rintro v w213 ⟨rfl, he131⟩
   replace hb_g11 := hb_g11.ext he131
   replace hxr := RdI.ext hxr he131
   replace hrw := hrw.ext he131
   replace hE := hE.tr he131
   replace hc123 := hc123.ext he131
   have hz_he131 := he131.size
   refine vm rfl rfl ?_
   iterate 2 refine vx rfl rfl rfl ?_
   iterate 2 refine va rfl rfl ?_
   refine q_nil (k_then (wc_seq (wc_regionL ?_)))
   refine vm rfl rfl ?_
   refine wl_val (ov_neq rfl rfl) rfl rfl rfl ?_
   refine wl_spell (d := 135) rfl (bf (by rw [hA1o.held, hA1o.cl]; exact fun q => q rfl)) ?_
   refine vm rfl rfl ?_
   iterate 2 refine wl_gval (ov_move rfl) rfl rfl rfl rfl rfl ?_
   refine wl_gval (ov_neq rfl rfl) rfl rfl rfl rfl rfl ?_
   refine wl_spell (d := 139) rfl (bf (by omega)) ?_
   refine wl_val (ov_pick_f rfl rfl) rfl rfl rfl ?_
   refine vm rfl rfl ?_
   refine wl_gval (ov_move rfl) rfl rfl rfl rfl rfl ?_
   refine wl_gstep (or_call0 cl25 rfl rfl (lcphase _ _ S123 a123 b123 (cnOut s2) hc123)) rfl rfl rfl rfl rfl ?_
   rintro v w214 ⟨rfl, he143⟩
   replace hb_g11 := hb_g11.ext he143
   replace hxr := RdI.ext hxr he143
   replace hrw := hrw.ext he143
   replace hE := hE.tr he143
   replace hc123 := hc123.ext he143
   have hz_he143 := he143.size
   refine wl_gval (ov_neq rfl rfl) rfl rfl rfl rfl rfl ?_
   refine wl_spell (d := 144) rfl (bf (by rw [hA1o.ph]; exact fun q => q rfl)) ?_
   refine wl_val (ov_pick_f rfl rfl) rfl rfl rfl ?_
   refine q_nil (k_then ?_)
   refine wc_cond_f rfl ?_
   refine q_skip (k_block (k_then (wc_regionL ?_)))
   refine vm rfl rfl ?_
   refine wl_val (ov_add rfl rfl (wi64 (by omega) (by omega))) rfl rfl rfl ?_
   refine va rfl rfl ?_
   refine q_nil ?_
   have hA1n : A1 o (i + 1) (cnOut s2) := a3_out hA3 (by omega)
   refine k_loop ((i + 1, S123, a123, b123, cnOut s2)) (by show m - (i + 1) < m - i; omega) (⟨rfl, rfl, rfl, rfl, rfl, rfl, congrArg (fun z => some (Value.int .i64 z)) (show (s2.out.length : Int) + ((refB (rspO 4 5)).length : Int) = ((cnOut s2).out.length : Int) from by rw [hno]; omega), rfl, trivial⟩) (⟨by show i + 1 ≤ m; omega, hA1n, hc123, hP123, hb_g11, hxr, hrw, by omega, hE⟩)
 ·refine q_exit (k_thenX (k_thenX (k_blockE (k_then (wc_seq (wc_regionL ?_))))))
  refine wl_step (or_call0 cl10 rfl rfl (known28_any _)) rfl rfl rfl ?_
  rintro v w208 ⟨rfl, he146⟩
  replace hE := hE.tr he146
  have hz_he146 := he146.size
  refine va rfl rfl ?_
  refine q_nil (k_then (q_ret ?_))
  refine e_ret rfl rfl ?_
  exact ⟨rfl, hE⟩
set_option maxHeartbeats 4000000 in
theorem connAnswers_h (w : World) (o n m k : Nat) (ho1 : 64 ≤ o) (ho2 : o ≤ 400) (hn2 : n ≤ 500) (hm2 : m ≤ 20) (hk2 : k ≤ 255) (hbig : ¬ o < (refB (rA n)).length) :
  Fn Tryz.prog 6 #[(.int .i64 (↑o : Int)), (.int .i64 (↑n : Int)), (.int .u8 (↑m : Int)), (.int .u8 (↑k : Int))] w (fun v w' => v = .bool true ∧ Ext w w')  := by
 have hE := ext_refl w
 have hwt : (refB (rA n)) = cnFr (rA n) := refB_eq (rA_rv hn2) (rA_ok n)
 have hra : refB (rA n) = cnFr (rA n) := refB_eq (rA_rv hn2) (rA_ok n)
 have hwl : (refB (rA n)).length ≤ o := by omega
 have hwl0 : (refB (rA n)).length ≤ 2097200 := by omega
 refine fn_enter (args := [(.int .i64 (↑o : Int)), (.int .i64 (↑n : Int)), (.int .u8 (↑m : Int)), (.int .u8 (↑k : Int))]) Tryz.func6 rfl rfl rfl ?_
 show WC _ _ _ _ [(0, (.int .i64 (↑o : Int))), (1, (.int .i64 (↑n : Int))), (2, (.int .u8 (↑m : Int))), (3, (.int .u8 (↑k : Int)))] _
 refine wc_seq (wc_regionL ?_)
 refine va rfl rfl ?_
 refine q_nil (k_then (wc_seq (wc_seq (wc_regionL ?_))))
 refine vm rfl rfl ?_
 refine wl_val (ov_lss rfl rfl) rfl rfl rfl ?_
 refine wl_spell (d := 20) rfl (bf (by omega)) ?_
 refine vm rfl rfl ?_
 refine wl_gval (ov_move rfl) rfl rfl rfl rfl rfl ?_
 refine wl_gval (ov_gtr rfl rfl) rfl rfl rfl rfl rfl ?_
 refine wl_spell (d := 23) rfl (bf (by omega)) ?_
 refine wl_val (ov_pick_f rfl rfl) rfl rfl rfl ?_
 refine vm rfl rfl ?_
 refine wl_gval (ov_move rfl) rfl rfl rfl rfl rfl ?_
 refine wl_gval (ov_lss rfl rfl) rfl rfl rfl rfl rfl ?_
 refine wl_spell (d := 27) rfl (bf (by omega)) ?_
 refine wl_val (ov_pick_f rfl rfl) rfl rfl rfl ?_
 refine vm rfl rfl ?_
 refine wl_gval (ov_move rfl) rfl rfl rfl rfl rfl ?_
 refine wl_gval (ov_gtr rfl rfl) rfl rfl rfl rfl rfl ?_
 refine wl_spell (d := 31) rfl (bf (by omega)) ?_
 refine wl_val (ov_pick_f rfl rfl) rfl rfl rfl ?_
 refine vm rfl rfl ?_
 refine wl_gval (ov_move rfl) rfl rfl rfl rfl rfl ?_
 refine wl_gval (ov_gtr rfl rfl) rfl rfl rfl rfl rfl ?_
 refine wl_spell (d := 35) rfl (bf (by omega)) ?_
 refine wl_val (ov_pick_f rfl rfl) rfl rfl rfl ?_
 refine q_nil (k_then ?_)
 refine wc_cond_f rfl ?_
 refine q_skip (k_then (wc_seq (wc_regionL ?_)))
 refine vm rfl rfl ?_
 refine wl_val (ov_build (cs := [(.int .i64 24), (.int .i64 (↑o : Int)), (.int .i64 16)]) ze23 pl23 rfl rfl) rfl rfl rfl ?_
 refine wl_step (or_call0 cl11 rfl rfl (cnew_ok _ 24 o 16 (by omega))) rfl rfl rfl ?_
 rintro v w1 ⟨gn41, S41, a41, rfl, hc41, hl41, he41⟩
 replace hE := hE.tr he41
 have hz_he41 := he41.size
 obtain ⟨L41, hlo41⟩ : ∃ n, n = w.heap.size := ⟨_, rfl⟩
 obtain ⟨H41, hhi41⟩ : ∃ n, n = w1.heap.size := ⟨_, rfl⟩
 replace hc41 : Cnn w1 gn41 S41 a41 a41 (cnNew 24 o 16) := hc41
 have hQ41 : ∀ x ∈ S41, L41 ≤ x ∧ x < H41 := fun x hx => ⟨by rw [hlo41]; exact hl41 x hx, by rw [hhi41]; exact (hc41.bnd.1 x hx).1⟩
 have hB_hc41 : (∀ x ∈ S41, x < w1.heap.size) ∧ a41 ≤ w1.heap.size := ⟨fun x hx => (hc41.bnd.1 x hx).1, hc41.bnd.2⟩
 refine vm rfl rfl ?_
 iterate 2 refine vx rfl rfl rfl ?_
 iterate 2 refine va rfl rfl ?_
 refine q_nil (k_then (wc_seq (wc_seq (wc_regionL ?_))))
 refine vm rfl rfl ?_
 refine wl_val (ov_nilptr Tryz.underlying28 rfl) rfl rfl rfl ?_
 refine vm rfl rfl ?_
 refine wl_gval (ov_move rfl) rfl rfl rfl rfl rfl ?_
 refine wl_gval (ov_neq rfl rfl) rfl rfl rfl rfl rfl ?_
 refine wl_val (ov_pick_f rfl rfl) rfl rfl rfl ?_
 refine q_nil (k_then ?_)
 refine wc_cond_f rfl ?_
 refine q_skip (k_then (wc_seq (wc_regionL ?_)))
 refine vm rfl rfl ?_
 obtain ⟨La, hLa⟩ : ∃ n, n = w1.heap.size := ⟨_, rfl⟩
 refine wl_step (or_makeBytes (n := n) bt32 rfl rfl (by omega) (by omega)) rfl rfl rfl ?_
 rintro v w2 ⟨A51, c51, rfl, ho51, he51⟩
 replace hE := hE.tr he51
 replace hc41 := hc41.ext he51
 have hz_he51 := he51.size
 have hq_ho51 := fun g e => Own.lt ho51 (g := g) e
 refine wl_val (ov_build (cs := [(.int .i64 1), (.slice A51 (List.replicate n 0).length c51), (.int .u64 1), (.int .u64 18446744073709551615)]) ze80 pl80 rfl rfl) rfl rfl rfl ?_
 refine wl_step (or_buildSliceF (cs := [.int .i64 1, .slice A51 (List.replicate n (0 : UInt8)).length c51, .int .u64 1, .int .u64 18446744073709551615]) sl40 rfl (by kernel_rfl) (by decide) (by decide)) rfl rfl rfl ?_
 rintro v w3 ⟨g53, rfl, hb_g53, he53, hl53, hu53⟩
 replace hE := hE.tr he53
 replace hc41 := hc41.ext he53
 replace ho51 := Own.ext ho51 he53
 have hz_he53 := he53.size
 refine wl_val (ov_build (cs := [(.int .i64 4), (.int .i64 0), (.slice (some ⟨g53, 0, none⟩) 1 1), (.int .u64 0), (.int .i64 0), (.slice none 0 0)]) ze43 pl43 rfl rfl) rfl rfl rfl ?_
 refine wl_step (or_alloc (cs := [(.int .i64 0), (.int .i64 0), (.slice none 0 0), (.int .u64 0), (.int .i64 0), (.slice none 0 0)]) ze43 rfl) rfl rfl rfl ?_
 rintro v w4 ⟨g11, rfl, hb_g11, he11, hl11, hu11⟩
 replace hE := hE.tr he11
 replace hc41 := hc41.ext he11
 replace ho51 := Own.ext ho51 he11
 replace hb_g53 := hb_g53.ext he11
 have hz_he11 := he11.size
 refine wl_step0 (or_storeBlk (vs := [(.int .i64 4), (.int .i64 0), (.slice (some ⟨g53, 0, none⟩) 1 1), (.int .u64 0), (.int .i64 0), (.slice none 0 0)]) sz43 rfl rfl (by simp [Value.oneCell']) hb_g11 rfl) rfl rfl ?_
 rintro _ w5 ⟨hN5, hg5⟩
 have hz_hg5 := hg5.size
 replace hE := hE.gr hg5 (fun _ e => by cases e; omega)
 replace hc41 := hc41.grf hg5 hB_hc41 (by omega)
 replace ho51 := Own.gr ho51 hg5 (by first | exact .inl rfl | (right; intro e; first | (have := hq_ho51 _ e; omega) | (have := Own.lt ho51 e; omega) | exact own_blk_ne ho51 hb_g11 (by decide) e))
 replace hb_g53 := hb_g53.gr hg5 (by intro e; cases e; omega)
 replace hb_g11 := hN5
 refine q_nil (k_then (wc_seq (wc_regionL ?_)))
 refine wl_val (ov_loadBlk (cs := [(.int .i64 4), (.int .i64 0), (.slice (some ⟨g53, 0, none⟩) 1 1), (.int .u64 0), (.int .i64 0), (.slice none 0 0)]) ag43_6 rfl hb_g11) rfl rfl rfl ?_
 have hxr : RdI w5 La w5.heap.size (some ⟨g53, 0, none⟩) 1 [((⟨1, List.replicate n 0, 1, 18446744073709551615⟩ : Itm), A51, c51)] := rdI_blkL hb_g53 rfl (by decide) (vr_one ((OwnB.rd ho51).mono (by omega) (Nat.le_refl _))) (by omega)
 obtain ⟨Ha, hHa⟩ : ∃ n, n = w5.heap.size := ⟨_, rfl⟩
 rw [← hHa] at hxr
 refine wl_step (or_call0 cl28 rfl rfl (bytes28_any _ (rA n) [((⟨1, List.replicate n 0, 1, 18446744073709551615⟩ : Itm), A51, c51)] rfl La Ha (some ⟨g53, 0, none⟩) 1 none 0 hxr (Rd.nil _ _ _ _ _ _ (Nat.zero_le _)) (rA_ok n) (rA_sz hn2) (by show (0 : Int) ≤ 4; decide) (by show (4 : Int) ≤ 15; decide) (by show (0 : Int) ≤ 0; decide) (by show (0 : Int) ≤ _; decide) (by show (0 : Int) ≤ 0; decide) (rA_ms n))) rfl rfl rfl ?_
 rintro v w6 ⟨A56, c56, rfl, ho56, he56⟩
 replace hE := hE.tr he56
 replace hc41 := hc41.ext he56
 replace hb_g11 := hb_g11.ext he56
 replace hxr := RdI.ext hxr he56
 have hz_he56 := he56.size
 refine va rfl rfl ?_
 refine q_nil (k_then (wc_seq (wc_seq (wc_regionL ?_))))
 refine vm rfl rfl ?_
 refine wl_val (ov_len Tryz.underlying32 rfl) rfl rfl rfl ?_
 refine vm rfl rfl ?_
 refine wl_val (ov_gtr rfl rfl) rfl rfl rfl ?_
 refine q_nil (k_then ?_)
 refine wc_cond_F rfl (decide_eq_false (by omega)) ?_
 refine q_skip (k_then (wc_seq (wc_regionL ?_)))
 refine va rfl rfl ?_
 refine q_nil (k_then (wc_seq (wc_seq (wc_regionL ?_))))
 refine va rfl rfl ?_
 refine q_nil (k_then (wc_block ?_))
 have hrw := OwnB.rd ho56
 obtain ⟨Lw, Hw, hLw, hHw, hrw, hLw2⟩ : ∃ a b, b ≤ w6.heap.size ∧ La ≤ a ∧ RdB w6 a b A56 c56 (refB (rA n)) ∧ H41 ≤ a := ⟨_, _, Nat.le_refl _, by omega, hrw, by omega⟩
 obtain ⟨B0, hB0⟩ : ∃ n, n = w6.heap.size := ⟨_, rfl⟩
 have hP41 : ∀ x ∈ S41, ((L41 ≤ x ∧ x < H41) ∨ B0 ≤ x) := fun x hx => .inl (hQ41 x hx)
 have hg11b := hb_g11.lt
 have hB0q : B0 ≤ w6.heap.size := by omega
 have hlay : H41 ≤ La ∧ La ≤ Ha ∧ Ha ≤ B0 ∧ Hw ≤ B0 ∧ H41 ≤ g11 ∧ g11 < B0 ∧ w.heap.size ≤ L41 ∧ L41 ≤ H41 := by omega
 have hEq41 := hE.size
 refine wc_loop (σ := Nat × List Nat × Nat × Nat × Cn) (fun s => m - s.1) (fun s => [(0, .int .i64 (o : Int)), (2, .int .u8 (m : Int)), (3, .int .u8 (k : Int)), (9, .pointer (some ⟨gn41, 0, none⟩)), (11, .pointer (some ⟨g11, 0, none⟩)), (12, .slice A56 (refB (rA n)).length c56), (13, .int .i64 (s.2.2.2.2.out.length : Int)), (14, .int .i64 (s.1 : Int))]) (fun s w' => s.1 ≤ m ∧ A1 o s.1 s.2.2.2.2 ∧ Cnn w' gn41 s.2.1 s.2.2.1 s.2.2.2.1 s.2.2.2.2 ∧ (∀ x ∈ s.2.1, ((L41 ≤ x ∧ x < H41) ∨ B0 ≤ x)) ∧ Blk w' g11 43 [.int .i64 4, .int .i64 0, .slice (some ⟨g53, 0, none⟩) 1 1, .int .u64 0, .int .i64 0, .slice none 0 0] ∧ RdI w' La Ha (some ⟨g53, 0, none⟩) 1 [((⟨1, List.replicate n 0, 1, 18446744073709551615⟩ : Itm), A51, c51)] ∧ RdB w' Lw Hw A56 c56 (refB (rA n)) ∧ B0 ≤ w'.heap.size ∧ Ext w w') ((0, S41, a41, a41, cnNew 24 o 16)) (⟨Nat.zero_le _, a1_new ho1, hc41, hP41, hb_g11, hxr, hrw, hB0q, hE⟩) (⟨rfl, rfl, rfl, rfl, rfl, rfl, rfl, rfl, trivial⟩) ?_
 rintro ⟨i, Sq, aq, bq, s⟩ wq ⟨hi0, hA1, hcq, hPq, hb_g11, hxr, hrw, hBq, hE⟩
 show WC _ _ _ _ [(0, (.int .i64 (↑o : Int))), (2, (.int .u8 (↑m : Int))), (3, (.int .u8 (↑k : Int))), (9, (.pointer (some ⟨gn41, 0, none⟩))), (11, (.pointer (some ⟨g11, 0, none⟩))), (12, (.slice A56 (refB (rA n)).length c56)), (13, (.int .i64 (↑s.out.length : Int))), (14, (.int .i64 (↑i : Int)))] _
 simp only at hi0 hA1 hPq
 replace hcq : Cnn wq gn41 Sq aq bq s := hcq
 have hz_E := hE.size
 have hB_hcq : (∀ x ∈ Sq, x < wq.heap.size) ∧ bq ≤ wq.heap.size := ⟨fun x hx => (hcq.bnd.1 x hx).1, hcq.bnd.2⟩
 obtain ⟨hy1, hy2, hy3, hy4, hy5, hy6, hy7, hy8⟩ := hlay
 have hcap := hcq.cap
 refine wc_seq (wc_seq (wc_regionL ?_))
 iterate 2 refine vm rfl rfl ?_
 refine wl_val (ov_conv Tryz.underlying5 Tryz.underlying3 rfl (wi64 (by omega) (by omega))) rfl rfl rfl ?_
 refine wl_val (ov_lss rfl rfl) rfl rfl rfl ?_
 refine q_nil (k_then ?_)
 refine wc_cond_d rfl (fun hc4 => ?_) (fun hc4 => ?_)
 ·refine q_skip (k_then (wc_seq (wc_block (wc_seq (wc_seq (wc_regionL ?_))))))
  refine vm rfl rfl ?_
  refine wl_step (or_buildBytes (l := [3, 4, 1, 97]) bt32 (os := [.const (.int .u8 3), .const (.int .u8 4), .const (.int .u8 1), .const (.int .u8 97)]) rfl rfl rfl (by decide)) rfl rfl rfl ?_
  rintro v w7 ⟨A70, c70, rfl, ho70, he70⟩
  replace hb_g11 := hb_g11.ext he70
  replace hxr := RdI.ext hxr he70
  replace hrw := hrw.ext he70
  replace hE := hE.tr he70
  replace hcq := hcq.ext he70
  have hz_he70 := he70.size
  refine wl_step (or_call0 cl29 rfl rfl (lw28_del _ _ Sq aq bq s hcq 4 _ _ A70 c70 [3, 4, 1, 97] (OwnB.rd ho70) (fun x hx => by have h1 := hPq x hx; have h2 := hB_hcq.1 x hx; omega) (by decide) (by rw [a1_del hA1]; exact ⟨rfl, rfl⟩))) rfl rfl rfl ?_
  rintro v w8 ⟨rfl, hto71⟩
  obtain ⟨S71, a71, b71, hc71, hk71, hS71, hab71⟩ := hto71
  replace hc71 : Cnn w8 gn41 S71 a71 b71 (aD s) := hc71
  have hz71 := hk71.size
  replace hb_g11 := hk71.bk hb_g11 (fun hx => by have := hPq _ hx; omega)
  replace hxr := RdI.kp hxr hk71 (fun x hx => by have := hPq x hx; omega)
  replace hrw := hk71.rd hrw (fun x hx => by have := hPq x hx; omega)
  replace hE := hk71.e0 hE (fun x hx => by have := hPq x hx; omega)
  have hP71 : ∀ x ∈ S71, ((L41 ≤ x ∧ x < H41) ∨ B0 ≤ x) := fun x hx => (hS71 x hx).elim (fun h => hPq x h) (fun h => .inr (by omega))
  have hB_hc71 : (∀ x ∈ S71, x < w8.heap.size) ∧ b71 ≤ w8.heap.size := ⟨fun x hx => (hc71.bnd.1 x hx).1, hc71.bnd.2⟩
  refine wl_val (ov_not (b := true) rfl) rfl rfl rfl ?_
  refine vm rfl rfl ?_
  refine wl_gval (ov_move rfl) rfl rfl rfl rfl rfl ?_
  refine wl_gstep (or_call0 cl30 rfl rfl (lw28_steps _ _ S71 a71 b71 (aD s) hc71 1 (by have e1 : (aD s).pt = s.pt := (by unfold aD; rw [a1_del hA1]); have e2 := hA1.pt; omega) (by rw [a1_step hA1]; rfl))) rfl rfl rfl rfl rfl ?_
  rintro v w9 ⟨rfl, hto75⟩
  obtain ⟨S75, a75, b75, hc75, hk75, hS75, hab75⟩ := hto75
  replace hc75 : Cnn w9 gn41 S75 a75 b75 (aS s) := hc75
  have hz75 := hk75.size
  replace hb_g11 := hk75.bk hb_g11 (fun hx => by have := hP71 _ hx; omega)
  replace hxr := RdI.kp hxr hk75 (fun x hx => by have := hP71 x hx; omega)
  replace hrw := hk75.rd hrw (fun x hx => by have := hP71 x hx; omega)
  replace hE := hk75.e0 hE (fun x hx => by have := hP71 x hx; omega)
  have hP75 : ∀ x ∈ S75, ((L41 ≤ x ∧ x < H41) ∨ B0 ≤ x) := fun x hx => (hS75 x hx).elim (fun h => hP71 x h) (fun h => .inr (by omega))
  have hB_hc75 : (∀ x ∈ S75, x < w9.heap.size) ∧ b75 ≤ w9.heap.size := ⟨fun x hx => (hc75.bnd.1 x hx).1, hc75.bnd.2⟩
  refine wl_gval (ov_not (b := true) rfl) rfl rfl rfl rfl rfl ?_
  refine wl_val (ov_pick_f rfl rfl) rfl rfl rfl ?_
  refine vm rfl rfl ?_
  refine wl_gval (ov_move rfl) rfl rfl rfl rfl rfl ?_
  refine wl_gval (ov_loadBlk (cs := [(.int .i64 4), (.int .i64 0), (.slice (some ⟨g53, 0, none⟩) 1 1), (.int .u64 0), (.int .i64 0), (.slice none 0 0)]) ag43_6 rfl hb_g11) rfl rfl rfl rfl rfl ?_
  refine wl_gstep (or_call0 cl24 rfl rfl (lcans _ _ S75 a75 b75 (aS s) hc75 (rA n) [((⟨1, List.replicate n 0, 1, 18446744073709551615⟩ : Itm), A51, c51)] rfl La Ha (some ⟨g53, 0, none⟩) 1 none 0 hxr (Rd.nil _ _ _ _ _ _ (Nat.zero_le _)) (rA_ok n) (rA_sz hn2))) rfl rfl rfl rfl rfl ?_
  rintro v w10 ⟨rfl, hto81⟩
  obtain ⟨S81, a81, b81, hc81, hk81, hS81, hab81⟩ := hto81
  replace hc81 : Cnn w10 gn41 S81 a81 b81 (aA s (rA n)) := hc81
  have hz81 := hk81.size
  replace hb_g11 := hk81.bk hb_g11 (fun hx => by have := hP75 _ hx; omega)
  replace hxr := RdI.kp hxr hk81 (fun x hx => by have := hP75 x hx; omega)
  replace hrw := hk81.rd hrw (fun x hx => by have := hP75 x hx; omega)
  replace hE := hk81.e0 hE (fun x hx => by have := hP75 x hx; omega)
  have hP81 : ∀ x ∈ S81, ((L41 ≤ x ∧ x < H41) ∨ B0 ≤ x) := fun x hx => (hS81 x hx).elim (fun h => hP75 x h) (fun h => .inr (by omega))
  have hB_hc81 : (∀ x ∈ S81, x < w10.heap.size) ∧ b81 ≤ w10.heap.size := ⟨fun x hx => (hc81.bnd.1 x hx).1, hc81.bnd.2⟩
  have hout : (aA s (rA n)).out = s.out := aA_out hA1 (rA_rv hn2) (rA_ok n) rfl
  have hA30 : A3 o i (refB (rA n)) (aA s (rA n)) := by unfold aA; rw [a1_ans hA1 (rA_rv hn2) (rA_ok n) rfl, if_neg (by rw [← hra]; exact hbig), hwt]; exact a1_3 hA1 _
  refine wl_spell (d := 81) rfl (v' := (.int .i64 0)) (by rw [a1_ans hA1 (rA_rv hn2) (rA_ok n) rfl]; rfl) ?_
  refine wl_gval (ov_neq rfl rfl) rfl rfl rfl rfl rfl ?_
  refine wl_val (ov_pick_f rfl rfl) rfl rfl rfl ?_
  refine q_nil (k_then ?_)
  refine wc_cond_f rfl ?_
  refine q_skip (k_then (wc_seq (wc_block ?_)))
  refine wc_loop (σ := List Nat × Nat × Nat × Cn) (fun s => s.2.2.2.out.length) (fun s => [(0, .int .i64 (o : Int)), (2, .int .u8 (m : Int)), (3, .int .u8 (k : Int)), (9, .pointer (some ⟨gn41, 0, none⟩)), (11, .pointer (some ⟨g11, 0, none⟩)), (12, .slice A56 (refB (rA n)).length c56), (13, .int .i64 (s.2.2.2.out.length : Int)), (14, .int .i64 (i : Int))]) (fun s w' => A3 o i (refB (rA n)) s.2.2.2 ∧ Cnn w' gn41 s.1 s.2.1 s.2.2.1 s.2.2.2 ∧ (∀ x ∈ s.1, ((L41 ≤ x ∧ x < H41) ∨ B0 ≤ x)) ∧ Blk w' g11 43 [.int .i64 4, .int .i64 0, .slice (some ⟨g53, 0, none⟩) 1 1, .int .u64 0, .int .i64 0, .slice none 0 0] ∧ RdI w' La Ha (some ⟨g53, 0, none⟩) 1 [((⟨1, List.replicate n 0, 1, 18446744073709551615⟩ : Itm), A51, c51)] ∧ RdB w' Lw Hw A56 c56 (refB (rA n)) ∧ B0 ≤ w'.heap.size ∧ Ext w w') ((S81, a81, b81, aA s (rA n))) (⟨hA30, hc81, hP81, hb_g11, hxr, hrw, by omega, hE⟩) (⟨rfl, rfl, rfl, rfl, rfl, rfl, congrArg (fun z => some (Value.int .i64 ((List.length z : Nat) : Int))) hout.symm, rfl, trivial⟩) ?_
  rintro ⟨S2, a2, b2, s2⟩ wn ⟨hA3, hc2, hP2, hb_g11, hxr, hrw, hBq2, hE⟩
  show WC _ _ _ _ [(0, (.int .i64 (↑o : Int))), (2, (.int .u8 (↑m : Int))), (3, (.int .u8 (↑k : Int))), (9, (.pointer (some ⟨gn41, 0, none⟩))), (11, (.pointer (some ⟨g11, 0, none⟩))), (12, (.slice A56 (refB (rA n)).length c56)), (13, (.int .i64 (↑s2.out.length : Int))), (14, (.int .i64 (↑i : Int)))] _
  simp only at hA3 hP2
  replace hc2 : Cnn wn gn41 S2 a2 b2 s2 := hc2
  have hz_E2 := hE.size
  have hcap2 := hc2.cap
  have hco2 := hA3.co
  have htk2 := hA3.tk
  have hpt2 := hA3.pt
  have hB_hc2 : (∀ x ∈ S2, x < wn.heap.size) ∧ b2 ≤ wn.heap.size := ⟨fun x hx => (hc2.bnd.1 x hx).1, hc2.bnd.2⟩
  refine wc_seq (wc_seq (wc_regionL ?_))
  iterate 2 refine vm rfl rfl ?_
  refine wl_val (ov_len Tryz.underlying32 rfl) rfl rfl rfl ?_
  refine wl_val (ov_add rfl rfl (wi64 (by omega) (by omega))) rfl rfl rfl ?_
  refine vm rfl rfl ?_
  refine wl_val (ov_gtr rfl rfl) rfl rfl rfl ?_
  refine q_nil (k_then ?_)
  refine wc_cond_d rfl (fun hc6 => ?_) (fun hc6 => ?_)
  ·refine q_skip (k_then (wc_block (wc_seq (wc_seq (wc_regionL ?_)))))
   refine vm rfl rfl ?_
   refine wl_step (or_call0 cl30 rfl rfl (lw28_steps _ _ S2 a2 b2 s2 hc2 5 (by omega) (by rw [a3_blocked hA3 (by omega) (by omega)]; rfl))) rfl rfl rfl ?_
   rintro v w11 ⟨rfl, hto91⟩
   obtain ⟨S91, a91, b91, hc91, hk91, hS91, hab91⟩ := hto91
   replace hc91 : Cnn w11 gn41 S91 a91 b91 s2 := by have h := hc91; rw [a3_blocked hA3 (by omega) (by omega)] at h; exact h
   have hz91 := hk91.size
   replace hb_g11 := hk91.bk hb_g11 (fun hx => by have := hP2 _ hx; omega)
   replace hxr := RdI.kp hxr hk91 (fun x hx => by have := hP2 x hx; omega)
   replace hrw := hk91.rd hrw (fun x hx => by have := hP2 x hx; omega)
   replace hE := hk91.e0 hE (fun x hx => by have := hP2 x hx; omega)
   have hP91 : ∀ x ∈ S91, ((L41 ≤ x ∧ x < H41) ∨ B0 ≤ x) := fun x hx => (hS91 x hx).elim (fun h => hP2 x h) (fun h => .inr (by omega))
   have hB_hc91 : (∀ x ∈ S91, x < w11.heap.size) ∧ b91 ≤ w11.heap.size := ⟨fun x hx => (hc91.bnd.1 x hx).1, hc91.bnd.2⟩
   refine wl_val (ov_not (b := true) rfl) rfl rfl rfl ?_
   refine vm rfl rfl ?_
   refine wl_gval (ov_move rfl) rfl rfl rfl rfl rfl ?_
   refine wl_gstep (or_call0 cl25 rfl rfl (lcphase _ _ S91 a91 b91 s2 hc91)) rfl rfl rfl rfl rfl ?_
   rintro v w12 ⟨rfl, he95⟩
   replace hb_g11 := hb_g11.ext he95
   replace hxr := RdI.ext hxr he95
   replace hrw := hrw.ext he95
   replace hE := hE.tr he95
   replace hc91 := hc91.ext he95
   have hz_he95 := he95.size
   refine wl_gval (ov_neq rfl rfl) rfl rfl rfl rfl rfl ?_
   refine wl_spell (d := 96) rfl (bf (by rw [hA3.ph]; exact fun q => q rfl)) ?_
   refine wl_val (ov_pick_f rfl rfl) rfl rfl rfl ?_
   refine q_nil (k_then ?_)
   refine wc_cond_f rfl ?_
   refine q_skip (k_then (wc_seq (wc_regionL ?_)))
   iterate 2 refine vm rfl rfl ?_
   refine wl_val (ov_conv Tryz.underlying5 Tryz.underlying3 rfl (wi64 (by omega) (by omega))) rfl rfl rfl ?_
   refine wl_val (ov_add rfl rfl (wi64 (by omega) (by omega))) rfl rfl rfl ?_
   refine wl_step (or_call0 cl20 rfl rfl (lcdrain _ _ S91 a91 b91 s2 hc91 ((k + 1 : Nat) : Int) (by omega) (by omega) (by omega))) rfl rfl rfl ?_
   rintro v w13 ⟨A103, c103, rfl, ho103, hto103⟩
   obtain ⟨S103, a103, b103, hc103, hk103, hS103, hab103⟩ := hto103
   replace hc103 : Cnn w13 gn41 S103 a103 b103 (cnDr s2 ((k + 1 : Nat) : Int)).1 := hc103
   have hz103 := hk103.size
   replace hb_g11 := hk103.bk hb_g11 (fun hx => by have := hP91 _ hx; omega)
   replace hxr := RdI.kp hxr hk103 (fun x hx => by have := hP91 x hx; omega)
   replace hrw := hk103.rd hrw (fun x hx => by have := hP91 x hx; omega)
   replace hE := hk103.e0 hE (fun x hx => by have := hP91 x hx; omega)
   have hP103 : ∀ x ∈ S103, ((L41 ≤ x ∧ x < H41) ∨ B0 ≤ x) := fun x hx => (hS103 x hx).elim (fun h => hP91 x h) (fun h => .inr (by omega))
   have hB_hc103 : (∀ x ∈ S103, x < w13.heap.size) ∧ b103 ≤ w13.heap.size := ⟨fun x hx => (hc103.bnd.1 x hx).1, hc103.bnd.2⟩
   have hdr := a3_drain hA3 (k + 1)
   refine vm rfl rfl ?_
   iterate 2 refine vx rfl rfl rfl ?_
   iterate 2 refine va rfl rfl ?_
   refine q_nil (k_then (wc_seq (wc_seq (wc_regionL ?_))))
   refine vm rfl rfl ?_
   refine wl_val (ov_neq rfl rfl) rfl rfl rfl ?_
   refine wl_spell (d := 107) rfl (bf (by rw [show (bpeek s2.out ((k + 1 : Nat) : Int)).2 = 0 from hdr.2.1]; exact fun q => q rfl)) ?_
   refine vm rfl rfl ?_
   refine wl_gval (ov_move rfl) rfl rfl rfl rfl rfl ?_
   refine wl_gval (ov_len Tryz.underlying32 rfl) rfl rfl rfl rfl rfl ?_
   iterate 2 refine wl_gval (ov_move rfl) rfl rfl rfl rfl rfl ?_
   refine wl_gval (ov_conv Tryz.underlying5 Tryz.underlying3 rfl (wi64 (by omega) (by omega))) rfl rfl rfl rfl rfl ?_
   refine wl_gval (ov_add rfl rfl (wi64 (by omega) (by omega))) rfl rfl rfl rfl rfl ?_
   refine wl_gval (ov_min rfl rfl (m := ((min (k + 1) s2.out.length : Nat) : Int)) (by omega)) rfl rfl rfl rfl rfl ?_
   refine wl_gval (ov_neq rfl rfl) rfl rfl rfl rfl rfl ?_
   refine wl_spell (d := 116) rfl (bf (by rw [hdr.2.2]; exact fun q => q rfl)) ?_
   refine wl_val (ov_pick_f rfl rfl) rfl rfl rfl ?_
   refine q_nil (k_then ?_)
   refine wc_cond_f rfl ?_
   refine q_skip (k_then (wc_regionL ?_))
   iterate 2 refine vm rfl rfl ?_
   refine wl_val (ov_len Tryz.underlying32 rfl) rfl rfl rfl ?_
   refine wl_val (ov_sub rfl rfl (wi64 (by omega) (by omega))) rfl rfl rfl ?_
   refine va rfl rfl ?_
   refine q_nil (k_block ?_)
   refine k_loop ((S103, a103, b103, (cnDr s2 ((k + 1 : Nat) : Int)).1)) (by show (s2.out.drop _).length < s2.out.length; rw [List.length_drop, hdr.2.2]; omega) (⟨rfl, rfl, rfl, rfl, rfl, rfl, congrArg (fun z => some (Value.int .i64 z)) (show (s2.out.length : Int) - ((bpeek s2.out ((k + 1 : Nat) : Int)).1.length : Int) = ((s2.out.drop (bpeek s2.out ((k + 1 : Nat) : Int)).1.length).length : Int) from by rw [List.length_drop, hdr.2.2]; omega), rfl, trivial⟩) (⟨hdr.1, hc103, hP103, hb_g11, hxr, hrw, by omega, hE⟩)
  ·refine q_exit (k_thenX (k_thenX (k_blockE (k_then (wc_seq (wc_seq (wc_regionL ?_)))))))
   refine vm rfl rfl ?_
   refine wl_step (or_call0 cl30 rfl rfl (lw28_steps _ _ S2 a2 b2 s2 hc2 4 (by omega) (by rw [a3_write hA3 (by omega)]; rfl))) rfl rfl rfl ?_
   rintro v w211 ⟨rfl, hto123⟩
   obtain ⟨S123, a123, b123, hc123, hk123, hS123, hab123⟩ := hto123
   replace hc123 : Cnn w211 gn41 S123 a123 b123 (cnOut s2) := by have h := hc123; rw [a3_write hA3 (by omega)] at h; exact h
   have hz123 := hk123.size
   replace hb_g11 := hk123.bk hb_g11 (fun hx => by have := hP2 _ hx; omega)
   replace hxr := RdI.kp hxr hk123 (fun x hx => by have := hP2 x hx; omega)
   replace hrw := hk123.rd hrw (fun x hx => by have := hP2 x hx; omega)
   replace hE := hk123.e0 hE (fun x hx => by have := hP2 x hx; omega)
   have hP123 : ∀ x ∈ S123, ((L41 ≤ x ∧ x < H41) ∨ B0 ≤ x) := fun x hx => (hS123 x hx).elim (fun h => hP2 x h) (fun h => .inr (by omega))
   have hB_hc123 : (∀ x ∈ S123, x < w211.heap.size) ∧ b123 ≤ w211.heap.size := ⟨fun x hx => (hc123.bnd.1 x hx).1, hc123.bnd.2⟩
   have hno : (cnOut s2).out.length = s2.out.length + (refB (rA n)).length := by show (s2.out ++ s2.bs).length = _; rw [List.length_append, hA3.bs]
   have hA1o := a3_out hA3 hwl0
   refine wl_val (ov_not (b := true) rfl) rfl rfl rfl ?_
   refine q_nil (k_then ?_)
   refine wc_cond_f rfl ?_
   refine q_skip (k_then (wc_seq (wc_regionL ?_)))
   iterate 2 refine vm rfl rfl ?_
   refine wl_val (ov_len Tryz.underlying32 rfl) rfl rfl rfl ?_
   refine wl_val (ov_add rfl rfl (wi64 (by omega) (by omega))) rfl rfl rfl ?_
   refine va rfl rfl ?_
   refine q_nil (k_then (wc_seq (wc_regionL ?_)))
   refine vm rfl rfl ?_
   refine wl_step (or_call0 cl21 rfl rfl (lcsizes _ _ S123 a123 b123 (cnOut s2) hc123)) rfl rfl rfl ?_
   rintro v w212 ⟨rfl, he131⟩
   replace hb_g11 := hb_g11.ext he131
   replace hxr := RdI.ext hxr he131
   replace hrw := hrw.ext he131
   replace hE := hE.tr he131
   replace hc123 := hc123.ext he131
   have hz_he131 := he131.size
   refine vm rfl rfl ?_
   iterate 2 refine vx rfl rfl rfl ?_
   iterate 2 refine va rfl rfl ?_
   refine q_nil (k_then (wc_seq (wc_regionL ?_)))
   refine vm rfl rfl ?_
   refine wl_val (ov_neq rfl rfl) rfl rfl rfl ?_
   refine wl_spell (d := 135) rfl (bf (by rw [hA1o.held, hA1o.cl]; exact fun q => q rfl)) ?_
   refine vm rfl rfl ?_
   iterate 2 refine wl_gval (ov_move rfl) rfl rfl rfl rfl rfl ?_
   refine wl_gval (ov_neq rfl rfl) rfl rfl rfl rfl rfl ?_
   refine wl_spell (d := 139) rfl (bf (by omega)) ?_
   refine wl_val (ov_pick_f rfl rfl) rfl rfl rfl ?_
   refine vm rfl rfl ?_
   refine wl_gval (ov_move rfl) rfl rfl rfl rfl rfl ?_
   refine wl_gstep (or_call0 cl25 rfl rfl (lcphase _ _ S123 a123 b123 (cnOut s2) hc123)) rfl rfl rfl rfl rfl ?_
   rintro v w213 ⟨rfl, he143⟩
   replace hb_g11 := hb_g11.ext he143
   replace hxr := RdI.ext hxr he143
   replace hrw := hrw.ext he143
   replace hE := hE.tr he143
   replace hc123 := hc123.ext he143
   have hz_he143 := he143.size
   refine wl_gval (ov_neq rfl rfl) rfl rfl rfl rfl rfl ?_
   refine wl_spell (d := 144) rfl (bf (by rw [hA1o.ph]; exact fun q => q rfl)) ?_
   refine wl_val (ov_pick_f rfl rfl) rfl rfl rfl ?_
   refine q_nil (k_then ?_)
   refine wc_cond_f rfl ?_
   refine q_skip (k_block (k_then (wc_regionL ?_)))
   refine vm rfl rfl ?_
   refine wl_val (ov_add rfl rfl (wi64 (by omega) (by omega))) rfl rfl rfl ?_
   refine va rfl rfl ?_
   refine q_nil ?_
   have hA1n : A1 o (i + 1) (cnOut s2) := a3_out hA3 (by omega)
   refine k_loop ((i + 1, S123, a123, b123, cnOut s2)) (by show m - (i + 1) < m - i; omega) (⟨rfl, rfl, rfl, rfl, rfl, rfl, congrArg (fun z => some (Value.int .i64 z)) (show (s2.out.length : Int) + ((refB (rA n)).length : Int) = ((cnOut s2).out.length : Int) from by rw [hno]; omega), rfl, trivial⟩) (⟨by show i + 1 ≤ m; omega, hA1n, hc123, hP123, hb_g11, hxr, hrw, by omega, hE⟩)
 ·refine q_exit (k_thenX (k_thenX (k_blockE (k_then (wc_seq (wc_regionL ?_))))))
  refine wl_step (or_call0 cl10 rfl rfl (known28_any _)) rfl rfl rfl ?_
  rintro v w207 ⟨rfl, he146⟩
  replace hE := hE.tr he146
  have hz_he146 := he146.size
  refine va rfl rfl ?_
  refine q_nil (k_then (q_ret ?_))
  refine e_ret rfl rfl ?_
  exact ⟨rfl, hE⟩
theorem connAnswers_walk (w : World) (o n m k : Int) (hm1 : 0 ≤ m) (hk1 : 0 ≤ k) (hk2 : k ≤ 255) :
  Fn Tryz.prog 6 #[.int .i64 o, .int .i64 n, .int .u8 m, .int .u8 k] w (fun v w' => v = .bool true ∧ Ext w w') := by
 by_cases h0 : o < 64
 ·exact connAnswers_a w o n m k h0
 by_cases h1 : 400 < o
 ·exact connAnswers_b w o n m k h0 h1
 by_cases h2 : n < 0
 ·exact connAnswers_c w o n m k h0 h1 h2
 by_cases h3 : 500 < n
 ·exact connAnswers_d w o n m k h0 h1 h2 h3
 by_cases h4 : 20 < m
 ·exact connAnswers_e w o n m k h0 h1 h2 h3 h4
 obtain ⟨o, rfl⟩ : ∃ a : Nat, o = (a : Int) := ⟨o.toNat, by omega⟩
 obtain ⟨n, rfl⟩ : ∃ a : Nat, n = (a : Int) := ⟨n.toNat, by omega⟩
 obtain ⟨m, rfl⟩ : ∃ a : Nat, m = (a : Int) := ⟨m.toNat, by omega⟩
 obtain ⟨k, rfl⟩ : ∃ a : Nat, k = (a : Int) := ⟨k.toNat, by omega⟩
 by_cases hb : o < (refB (rA n)).length
 ·exact connAnswers_g w o n m k (by omega) (by omega) (by omega) (by omega) (by omega) hb
 ·exact connAnswers_h w o n m k (by omega) (by omega) (by omega) (by omega) (by omega) hb
end Go.Proofs.YtiighkbehiddkaaGreat