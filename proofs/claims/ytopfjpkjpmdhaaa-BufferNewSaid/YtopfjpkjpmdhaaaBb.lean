/-
  The walk of BufferNew.
-/
import Derived.Test.YtopfjpkjpmdhaaaBa
namespace Go.Proofs.Ytopfjpkjpmdhaaa
open Go.RowKit
set_option linter.unusedVariables false
set_option maxRecDepth 4000
theorem cl14 : callable Try.prog 14 = true := by kernel_rfl
theorem cl15 : callable Try.prog 15 = true := by kernel_rfl
theorem cl16 : callable Try.prog 16 = true := by kernel_rfl

theorem bufferNew_ok (w : World) (m : Nat) (h1 : 1 ≤ m) (h2 : m ≤ 1048576) :
    Fn Try.prog 3 #[(.int .i64 (↑m : Int))] w (fun v w' => v = .bool true ∧ Ext w w') := by
  have hE := ext_refl w
  refine fn_enter (args := [(.int .i64 (↑m : Int))]) Try.func3 rfl rfl rfl ?_
  show WC _ _ _ _ [(0, (.int .i64 (↑m : Int)))] _
  refine wc_seq ?_
  refine wc_regionL ?_
  refine wl_val (ov_assign rfl) rfl rfl rfl ?_
  refine q_nil ?_
  refine k_then ?_
  refine wc_seq ?_
  refine wc_regionL ?_
  refine wl_val (ov_move rfl) rfl rfl rfl ?_
  refine wl_step (or_call0 cl13 rfl rfl (bnew_ok _ (m) (by omega) (by omega))) rfl rfl rfl ?_
  rintro v w1 ⟨gn9, rfl, hb9, he9, hg19⟩
  replace hE := hE.tr he9
  have hz_he9 := he9.size
  have hDs9 : ∀ x, (none : Option Nat) = some x → w.heap.size ≤ x ∧ x < w1.heap.size := fun x e => by cases e
  have hzb9 := hb9.lt.1
  have hcp9 := hb9.cap
  refine wl_val (ov_move rfl) rfl rfl rfl ?_
  refine wl_val (ov_extract rfl rfl) rfl rfl rfl ?_
  refine wl_val (ov_extract rfl rfl) rfl rfl rfl ?_
  refine wl_val (ov_assign rfl) rfl rfl rfl ?_
  refine wl_val (ov_assign rfl) rfl rfl rfl ?_
  refine q_nil ?_
  refine k_then ?_
  refine wc_seq ?_
  refine wc_regionL ?_
  refine wl_val (ov_move rfl) rfl rfl rfl ?_
  refine wl_step (or_call0 cl14 rfl rfl (rnew27_ok _ (m) (by omega) (by omega))) rfl rfl rfl ?_
  rintro v w2 ⟨rfl, he14⟩
  replace hE := hE.tr he14
  replace hb9 := hb9.ext he14
  have hz_he14 := he14.size
  refine wl_val (ov_move rfl) rfl rfl rfl ?_
  refine wl_val (ov_extract rfl rfl) rfl rfl rfl ?_
  refine wl_val (ov_extract rfl rfl) rfl rfl rfl ?_
  refine wl_step (or_alloc (cs := [(.int .i64 0), (.slice none 0 0), (.int .u64 0)]) ze29 rfl) rfl rfl rfl ?_
  rintro v w3 ⟨g5, rfl, hb_g5, he5, hl5, hu5⟩
  replace hE := hE.tr he5
  replace hb9 := hb9.ext he5
  have hz_he5 := he5.size
  refine wl_step0 (or_storeBlk (vs := [(.int .i64 (↑m : Int)), (.slice none 0 0), (.int .u64 0)]) sz29 rfl rfl (by simp [Value.oneCell']) hb_g5 rfl) rfl rfl ?_
  rintro _ w4 ⟨hN4, hg4⟩
  have hz_hg4 := hg4.size
  replace hE := hE.gr hg4 (fun _ e => by cases e; omega)
  replace hb9 := hb9.gr hg4 (fun x e => by cases e; omega) (fun x e e2 => by cases e; have := hDs9 _ e2; omega)
  replace hb_g5 := hN4
  refine wl_val (ov_assign rfl) rfl rfl rfl ?_
  refine q_nil ?_
  refine k_then ?_
  refine wc_seq ?_
  refine wc_seq ?_
  refine wc_regionL ?_
  refine wl_val (ov_move rfl) rfl rfl rfl ?_
  refine wl_val (ov_move rfl) rfl rfl rfl ?_
  refine wl_val (ov_neq rfl rfl) rfl rfl rfl ?_
  refine wl_val (ov_move rfl) rfl rfl rfl ?_
  refine wl_gval (ov_move rfl) rfl rfl rfl rfl rfl ?_
  refine wl_gval (ov_nilptr Try.underlying22 rfl) rfl rfl rfl rfl rfl ?_
  refine wl_gval (ov_move rfl) rfl rfl rfl rfl rfl ?_
  refine wl_gval (ov_neq rfl rfl) rfl rfl rfl rfl rfl ?_
  refine wl_gval (ov_neb Try.underlying4 rfl rfl) rfl rfl rfl rfl rfl ?_
  refine wl_spell (d := 25) rfl (v' := (.bool false)) (rfl) ?_
  refine wl_val (ov_pick_f rfl rfl) rfl rfl rfl ?_
  refine q_nil ?_
  refine k_then ?_
  refine wc_cond_f rfl ?_
  refine q_skip ?_
  refine k_then ?_
  refine wc_seq ?_
  refine wc_regionL ?_
  refine wl_val (ov_move rfl) rfl rfl rfl ?_
  refine wl_val (ov_nilptr Try.underlying22 rfl) rfl rfl rfl ?_
  refine wl_val (ov_move rfl) rfl rfl rfl ?_
  refine wl_gval (ov_move rfl) rfl rfl rfl rfl rfl ?_
  refine wl_gval (ov_loadBlk (cs := [(.int .i64 (↑m : Int)), (.slice none 0 0), (.int .u64 0)]) ag29_3 rfl hb_g5) rfl rfl rfl rfl rfl ?_
  refine wl_gstep (or_call0 cl15 rfl rfl (looks27_ok _ w.heap.size gn9 none (m) [] 0 0 hb9 _ _ _ _ (RdB.nil _ 0 0) (by rfl) (by omega))) rfl rfl rfl rfl rfl ?_
  rintro v w5 ⟨rfl, he32⟩
  replace hE := hE.tr he32
  replace hb9 := hb9.ext he32
  replace hb_g5 := hb_g5.ext he32
  have hz_he32 := he32.size
  refine wl_val (ov_pick_f rfl rfl) rfl rfl rfl ?_
  refine wl_val (ov_move rfl) rfl rfl rfl ?_
  refine wl_gstep (or_call0 cl16 rfl rfl (known27_any _)) rfl rfl rfl rfl rfl ?_
  rintro v w6 ⟨rfl, he35⟩
  replace hE := hE.tr he35
  replace hb9 := hb9.ext he35
  replace hb_g5 := hb_g5.ext he35
  have hz_he35 := he35.size
  refine wl_val (ov_pick_t rfl rfl) rfl rfl rfl ?_
  refine wl_val (ov_assign rfl) rfl rfl rfl ?_
  refine q_nil ?_
  refine k_then ?_
  refine q_ret ?_
  refine e_ret rfl rfl ?_
  exact ⟨rfl, hE⟩

theorem bufferNew_bad (w : World) (m : Int) (h : m < 1 ∨ 1048576 < m) :
    Fn Try.prog 3 #[(.int .i64 m)] w (fun v w' => v = .bool true ∧ Ext w w') := by
  have hE := ext_refl w
  refine fn_enter (args := [(.int .i64 m)]) Try.func3 rfl rfl rfl ?_
  show WC _ _ _ _ [(0, (.int .i64 m))] _
  refine wc_seq ?_
  refine wc_regionL ?_
  refine wl_val (ov_assign rfl) rfl rfl rfl ?_
  refine q_nil ?_
  refine k_then ?_
  refine wc_seq ?_
  refine wc_regionL ?_
  refine wl_val (ov_move rfl) rfl rfl rfl ?_
  refine wl_step (or_call0 cl13 rfl rfl (bnew_bad _ m (by omega))) rfl rfl rfl ?_
  rintro v w1 ⟨rfl, he9⟩
  replace hE := hE.tr he9
  have hz_he9 := he9.size
  refine wl_val (ov_move rfl) rfl rfl rfl ?_
  refine wl_val (ov_extract rfl rfl) rfl rfl rfl ?_
  refine wl_val (ov_extract rfl rfl) rfl rfl rfl ?_
  refine wl_val (ov_assign rfl) rfl rfl rfl ?_
  refine wl_val (ov_assign rfl) rfl rfl rfl ?_
  refine q_nil ?_
  refine k_then ?_
  refine wc_seq ?_
  refine wc_regionL ?_
  refine wl_val (ov_move rfl) rfl rfl rfl ?_
  refine wl_step (or_call0 cl14 rfl rfl (rnew27_bad _ m (by omega))) rfl rfl rfl ?_
  rintro v w2 ⟨rfl, he14⟩
  replace hE := hE.tr he14
  have hz_he14 := he14.size
  refine wl_val (ov_move rfl) rfl rfl rfl ?_
  refine wl_val (ov_extract rfl rfl) rfl rfl rfl ?_
  refine wl_val (ov_extract rfl rfl) rfl rfl rfl ?_
  refine wl_step (or_alloc (cs := [(.int .i64 0), (.slice none 0 0), (.int .u64 0)]) ze29 rfl) rfl rfl rfl ?_
  rintro v w3 ⟨g5, rfl, hb_g5, he5, hl5, hu5⟩
  replace hE := hE.tr he5
  have hz_he5 := he5.size
  refine wl_step0 (or_storeBlk (vs := [(.int .i64 0), (.slice none 0 0), (.int .u64 0)]) sz29 rfl rfl (by simp [Value.oneCell']) hb_g5 rfl) rfl rfl ?_
  rintro _ w4 ⟨hN4, hg4⟩
  have hz_hg4 := hg4.size
  replace hE := hE.gr hg4 (fun _ e => by cases e; omega)
  replace hb_g5 := hN4
  refine wl_val (ov_assign rfl) rfl rfl rfl ?_
  refine q_nil ?_
  refine k_then ?_
  refine wc_seq ?_
  refine wc_seq ?_
  refine wc_regionL ?_
  refine wl_val (ov_move rfl) rfl rfl rfl ?_
  refine wl_val (ov_move rfl) rfl rfl rfl ?_
  refine wl_val (ov_neq rfl rfl) rfl rfl rfl ?_
  refine wl_val (ov_move rfl) rfl rfl rfl ?_
  refine wl_gval (ov_move rfl) rfl rfl rfl rfl rfl ?_
  refine wl_gval (ov_nilptr Try.underlying22 rfl) rfl rfl rfl rfl rfl ?_
  refine wl_gval (ov_move rfl) rfl rfl rfl rfl rfl ?_
  refine wl_gval (ov_neq rfl rfl) rfl rfl rfl rfl rfl ?_
  refine wl_gval (ov_neb Try.underlying4 rfl rfl) rfl rfl rfl rfl rfl ?_
  refine wl_spell (d := 25) rfl (v' := (.bool false)) (rfl) ?_
  refine wl_val (ov_pick_f rfl rfl) rfl rfl rfl ?_
  refine q_nil ?_
  refine k_then ?_
  refine wc_cond_f rfl ?_
  refine q_skip ?_
  refine k_then ?_
  refine wc_seq ?_
  refine wc_regionL ?_
  refine wl_val (ov_move rfl) rfl rfl rfl ?_
  refine wl_val (ov_nilptr Try.underlying22 rfl) rfl rfl rfl ?_
  refine wl_val (ov_move rfl) rfl rfl rfl ?_
  refine wl_gskip rfl rfl rfl rfl rfl rfl ?_
  refine wl_gskip rfl rfl rfl rfl rfl rfl ?_
  refine wl_gskip rfl rfl rfl rfl rfl rfl ?_
  refine wl_val (ov_pick_t rfl rfl) rfl rfl rfl ?_
  refine wl_val (ov_move rfl) rfl rfl rfl ?_
  refine wl_gstep (or_call0 cl16 rfl rfl (known27_any _)) rfl rfl rfl rfl rfl ?_
  rintro v w5 ⟨rfl, he35⟩
  replace hE := hE.tr he35
  replace hb_g5 := hb_g5.ext he35
  have hz_he35 := he35.size
  refine wl_val (ov_pick_t rfl rfl) rfl rfl rfl ?_
  refine wl_val (ov_assign rfl) rfl rfl rfl ?_
  refine q_nil ?_
  refine k_then ?_
  refine q_ret ?_
  refine e_ret rfl rfl ?_
  exact ⟨rfl, hE⟩

theorem bufferNew_walk (w : World) (m : Int) : Fn Try.prog 3 #[.int .i64 m] w (fun v w' => v = .bool true ∧ Ext w w') := by
  by_cases h : m < 1 ∨ 1048576 < m
  · exact bufferNew_bad w m h
  · obtain ⟨k, rfl⟩ : ∃ k : Nat, m = (k : Int) := ⟨m.toNat, by omega⟩
    exact bufferNew_ok w k (by omega) (by omega)

end Go.Proofs.Ytopfjpkjpmdhaaa
