/-
  The walk of BufferFull.
-/
import Derived.Test.YtopfjpkjpmdhaaaBa
namespace Go.Proofs.Ytopfjpkjpmdhaaa
open Go.RowKit
set_option linter.unusedVariables false
set_option maxRecDepth 4000
theorem cl16 : callable Try.prog 16 = true := by kernel_rfl

theorem bufferFull_out (w : World) (n : Int) (h : n < -3 ∨ 3 < n) :
    Fn Try.prog 4 #[(.int .i64 n)] w (fun v w' => v = .bool true ∧ Ext w w') := by
  have hE := ext_refl w
  refine fn_enter (args := [(.int .i64 n)]) Try.func4 rfl rfl rfl ?_
  show WC _ _ _ _ [(0, (.int .i64 n))] _
  refine wc_seq ?_
  refine wc_regionL ?_
  refine wl_val (ov_assign rfl) rfl rfl rfl ?_
  refine q_nil ?_
  refine k_then ?_
  refine wc_seq ?_
  refine wc_seq ?_
  refine wc_regionL ?_
  refine wl_val (ov_move rfl) rfl rfl rfl ?_
  refine wl_val (ov_lss rfl rfl) rfl rfl rfl ?_
  refine wl_case_d (d := 9) rfl (fun h9 => ?_) (fun h9 => ?_)
  · refine wl_val (ov_move rfl) rfl rfl rfl ?_
    refine wl_gskip rfl rfl rfl rfl rfl rfl ?_
    refine wl_gskip rfl rfl rfl rfl rfl rfl ?_
    refine wl_val (ov_pick_t rfl rfl) rfl rfl rfl ?_
    refine q_nil ?_
    refine k_then ?_
    refine wc_cond_t rfl ?_
    refine wc_seq ?_
    refine wc_regionL ?_
    refine wl_step (or_call0 cl16 rfl rfl (known27_any _)) rfl rfl rfl ?_
    rintro v w1 ⟨rfl, he14⟩
    replace hE := hE.tr he14
    have hz_he14 := he14.size
    refine wl_val (ov_assign rfl) rfl rfl rfl ?_
    refine q_nil ?_
    refine k_then ?_
    refine q_ret ?_
    refine k_thenR ?_
    refine e_ret rfl rfl ?_
    exact ⟨rfl, hE⟩
  · refine wl_val (ov_move rfl) rfl rfl rfl ?_
    refine wl_gval (ov_move rfl) rfl rfl rfl rfl rfl ?_
    refine wl_gval (ov_gtr rfl rfl) rfl rfl rfl rfl rfl ?_
    refine wl_spell (d := 12) rfl (bt (by omega)) ?_
    refine wl_val (ov_pick_f rfl rfl) rfl rfl rfl ?_
    refine q_nil ?_
    refine k_then ?_
    refine wc_cond_t rfl ?_
    refine wc_seq ?_
    refine wc_regionL ?_
    refine wl_step (or_call0 cl16 rfl rfl (known27_any _)) rfl rfl rfl ?_
    rintro v w201 ⟨rfl, he14⟩
    replace hE := hE.tr he14
    have hz_he14 := he14.size
    refine wl_val (ov_assign rfl) rfl rfl rfl ?_
    refine q_nil ?_
    refine k_then ?_
    refine q_ret ?_
    refine k_thenR ?_
    refine e_ret rfl rfl ?_
    exact ⟨rfl, hE⟩

theorem bufferFull_fits (w : World) (n : Int) (h0 : 0 ≤ n) (h3 : n ≤ 3) :
    Fn Try.prog 4 #[(.int .i64 n)] w (fun v w' => v = .bool true ∧ Ext w w') := by
  have hE := ext_refl w
  obtain ⟨j, hj⟩ : ∃ j : Nat, (1048576 : Int) - n = (j : Int) := ⟨(1048576 - n).toNat, by omega⟩
  refine fn_enter (args := [(.int .i64 n)]) Try.func4 rfl rfl rfl ?_
  show WC _ _ _ _ [(0, (.int .i64 n))] _
  refine wc_seq ?_
  refine wc_regionL ?_
  refine wl_val (ov_assign rfl) rfl rfl rfl ?_
  refine q_nil ?_
  refine k_then ?_
  refine wc_seq ?_
  refine wc_seq ?_
  refine wc_regionL ?_
  refine wl_val (ov_move rfl) rfl rfl rfl ?_
  refine wl_val (ov_lss rfl rfl) rfl rfl rfl ?_
  refine wl_spell (d := 9) rfl (bf (by omega)) ?_
  refine wl_val (ov_move rfl) rfl rfl rfl ?_
  refine wl_gval (ov_move rfl) rfl rfl rfl rfl rfl ?_
  refine wl_gval (ov_gtr rfl rfl) rfl rfl rfl rfl rfl ?_
  refine wl_spell (d := 12) rfl (bf (by omega)) ?_
  refine wl_val (ov_pick_f rfl rfl) rfl rfl rfl ?_
  refine q_nil ?_
  refine k_then ?_
  refine wc_cond_f rfl ?_
  refine q_skip ?_
  refine k_then ?_
  refine wc_seq ?_
  refine wc_regionL ?_
  refine wl_step (or_call0 cl13 rfl rfl (bnew_ok _ 1048576 (by omega) (by omega))) rfl rfl rfl ?_
  rintro v w1 ⟨gn16, rfl, hb16, he16, hg116⟩
  replace hE := hE.tr he16
  have hz_he16 := he16.size
  have hDs16 : ∀ x, (none : Option Nat) = some x → w.heap.size ≤ x ∧ x < w1.heap.size := fun x e => by cases e
  have hzb16 := hb16.lt.1
  have hcp16 := hb16.cap
  refine wl_val (ov_move rfl) rfl rfl rfl ?_
  refine wl_val (ov_extract rfl rfl) rfl rfl rfl ?_
  refine wl_val (ov_extract rfl rfl) rfl rfl rfl ?_
  refine wl_val (ov_assign rfl) rfl rfl rfl ?_
  refine wl_val (ov_assign rfl) rfl rfl rfl ?_
  refine q_nil ?_
  refine k_then ?_
  refine wc_seq ?_
  refine wc_seq ?_
  refine wc_regionL ?_
  refine wl_val (ov_move rfl) rfl rfl rfl ?_
  refine wl_val (ov_nilptr Try.underlying22 rfl) rfl rfl rfl ?_
  refine wl_val (ov_move rfl) rfl rfl rfl ?_
  refine wl_gval (ov_move rfl) rfl rfl rfl rfl rfl ?_
  refine wl_gval (ov_neq rfl rfl) rfl rfl rfl rfl rfl ?_
  refine wl_val (ov_pick_f rfl rfl) rfl rfl rfl ?_
  refine q_nil ?_
  refine k_then ?_
  refine wc_cond_f rfl ?_
  refine q_skip ?_
  refine k_then ?_
  refine wc_seq ?_
  refine wc_regionL ?_
  refine wl_val (ov_move rfl) rfl rfl rfl ?_
  refine wl_val (ov_sub rfl rfl (wi64 (by omega) (by omega))) rfl rfl rfl ?_
  refine wl_step (or_makeBytes (n := j) bt26 rfl rfl (by omega) (by omega)) rfl rfl rfl ?_
  rintro v w2 ⟨A27, c27, rfl, ho27, he27⟩
  replace hE := hE.tr he27
  replace hb16 := hb16.ext he27
  have hz_he27 := he27.size
  have hq_ho27 := fun g e => Own.lt ho27 (g := g) e
  have hr27 := OwnB.rd ho27
  refine wl_val (ov_assign rfl) rfl rfl rfl ?_
  refine q_nil ?_
  refine k_then ?_
  refine wc_seq ?_
  refine wc_seq ?_
  refine wc_regionL ?_
  refine wl_val (ov_move rfl) rfl rfl rfl ?_
  refine wl_val (ov_move rfl) rfl rfl rfl ?_
  refine wl_step (or_call0 cl17 rfl rfl (bputall_ok _ w.heap.size gn16 none 1048576 [] 0 0 hb16 _ _ _ _ (List.replicate j 0) hr27 (by omega) (fun x e => by have := hDs16 x e; omega) (by omega) (by omega))) rfl rfl rfl ?_
  rintro v w3 ⟨rfl, ⟨D30, hb30, hN30⟩, hC30⟩
  have hDa30 : ∀ x, none = some x → (w.heap.size ≤ x ∧ x < w1.heap.size) ∧ x < w2.heap.size := fun x e => ⟨hDs16 x e, (hb16.lt.2 x e).2⟩
  have hz_hC30 := hC30.size
  replace hE := hC30.e0 hE (by omega) (fun x e => by have := hDa30 x e; omega)
  replace hr27 := hC30.rd hr27 (by omega) (fun x e => by have := hDa30 x e; omega)
  rw [bal_ok (by simp; omega)] at hb30; simp only [List.nil_append, List.length_replicate, Nat.zero_add] at hb30
  replace hb30 : Buf _ w.heap.size gn16 D30 1048576 (List.replicate j 0) j 0 := hb30
  have hDs30 : ∀ x, D30 = some x → ((w.heap.size ≤ x ∧ x < w1.heap.size) ∨ w2.heap.size ≤ x) ∧ x < w3.heap.size := fun x e => ⟨(hN30 x e).imp (fun h => hDs16 x h) id, (hb30.lt.2 x e).2⟩
  have hzb30 := hb30.lt.1
  have hcp30 := hb30.cap
  refine wl_spell (d := 30) rfl (v' := .int .i64 0) (by rw [bal_ok (by simp; omega)]; rfl) ?_
  refine wl_val (ov_assign rfl) rfl rfl rfl ?_
  refine q_nil ?_
  refine k_then ?_
  refine wc_seq ?_
  refine wc_regionL ?_
  refine wl_val (ov_move rfl) rfl rfl rfl ?_
  refine wl_val (ov_eql rfl rfl) rfl rfl rfl ?_
  refine wl_val (ov_move rfl) rfl rfl rfl ?_
  refine wl_val (ov_geq rfl rfl) rfl rfl rfl ?_
  refine wl_spell (d := 34) rfl (bt (h0)) ?_
  refine wl_val (ov_neb Try.underlying4 rfl rfl) rfl rfl rfl ?_
  refine wl_spell (d := 35) rfl (v' := (.bool false)) (rfl) ?_
  refine wl_val (ov_move rfl) rfl rfl rfl ?_
  refine wl_gval (ov_move rfl) rfl rfl rfl rfl rfl ?_
  refine wl_gval (ov_neq rfl rfl) rfl rfl rfl rfl rfl ?_
  refine wl_gval (ov_move rfl) rfl rfl rfl rfl rfl ?_
  refine wl_gskip rfl rfl rfl rfl rfl rfl ?_
  refine wl_gskip rfl rfl rfl rfl rfl rfl ?_
  refine wl_gval (ov_pick_f rfl rfl) rfl rfl rfl rfl rfl ?_
  refine wl_val (ov_pick_f rfl rfl) rfl rfl rfl ?_
  refine q_nil ?_
  refine k_then ?_
  refine wc_cond_f rfl ?_
  refine q_skip ?_
  refine k_then ?_
  refine wc_seq ?_
  refine wc_regionL ?_
  refine wl_val (ov_move rfl) rfl rfl rfl ?_
  refine wl_val (ov_move rfl) rfl rfl rfl ?_
  refine wl_step (or_call0 cl18 rfl rfl (bput_ok _ w.heap.size gn16 D30 1048576 (List.replicate j 0) j 0 hb30 _ _ _ _ (List.replicate j 0) hr27 (by omega) (fun x e => by have := hDs30 x e; omega) (by omega) (by omega))) rfl rfl rfl ?_
  rintro v w4 ⟨rfl, ⟨D47, hb47, hN47⟩, hC47⟩
  have hDa47 : ∀ x, D30 = some x → (((w.heap.size ≤ x ∧ x < w1.heap.size) ∨ w2.heap.size ≤ x) ∧ x < w3.heap.size) ∧ x < w3.heap.size := fun x e => ⟨hDs30 x e, (hb30.lt.2 x e).2⟩
  have hz_hC47 := hC47.size
  replace hE := hC47.e0 hE (by omega) (fun x e => by have := hDa47 x e; omega)
  replace hr27 := hC47.rd hr27 (by omega) (fun x e => by have := hDa47 x e; omega)
  have hDs47 : ∀ x, D47 = some x → ((((w.heap.size ≤ x ∧ x < w1.heap.size) ∨ w2.heap.size ≤ x) ∧ x < w3.heap.size) ∨ w3.heap.size ≤ x) ∧ x < w4.heap.size := fun x e => ⟨(hN47 x e).imp (fun h => hDs30 x h) id, (hb47.lt.2 x e).2⟩
  have hzb47 := hb47.lt.1
  have hcp47 := hb47.cap
  refine wl_val (ov_move rfl) rfl rfl rfl ?_
  refine wl_val (ov_extract rfl rfl) rfl rfl rfl ?_
  refine wl_val (ov_extract rfl rfl) rfl rfl rfl ?_
  refine wl_val (ov_assign rfl) rfl rfl rfl ?_
  refine wl_val (ov_assign rfl) rfl rfl rfl ?_
  refine q_nil ?_
  refine k_then ?_
  refine wc_seq ?_
  refine wc_seq ?_
  refine wc_regionL ?_
  refine wl_val (ov_move rfl) rfl rfl rfl ?_
  refine wl_val (ov_lss rfl rfl) rfl rfl rfl ?_
  refine q_nil ?_
  refine k_then ?_
  refine wc_cond_F rfl (decide_eq_false (by omega)) ?_
  refine q_skip ?_
  refine k_then ?_
  refine wc_seq ?_
  refine wc_regionL ?_
  refine wl_val (ov_move rfl) rfl rfl rfl ?_
  refine wl_val (ov_move rfl) rfl rfl rfl ?_
  refine wl_val (ov_eql rfl rfl) rfl rfl rfl ?_
  refine wl_spell (d := 68) rfl (bt (by simp; omega)) ?_
  refine wl_val (ov_move rfl) rfl rfl rfl ?_
  refine wl_gval (ov_move rfl) rfl rfl rfl rfl rfl ?_
  refine wl_gval (ov_eql rfl rfl) rfl rfl rfl rfl rfl ?_
  refine wl_val (ov_pick_t rfl rfl) rfl rfl rfl ?_
  refine wl_val (ov_move rfl) rfl rfl rfl ?_
  refine wl_gval (ov_move rfl) rfl rfl rfl rfl rfl ?_
  refine wl_gstep (or_call0 cl20 rfl rfl (blen_ok _ _ _ _ _ _ _ _ hb47)) rfl rfl rfl rfl rfl ?_
  rintro v w5 ⟨rfl, he75⟩
  replace hE := hE.tr he75
  replace hr27 := hr27.ext he75
  replace hb47 := hb47.ext he75
  have hz_he75 := he75.size
  refine wl_gval (ov_eql rfl rfl) rfl rfl rfl rfl rfl ?_
  refine wl_spell (d := 76) rfl (bt (by simp; omega)) ?_
  refine wl_val (ov_pick_t rfl rfl) rfl rfl rfl ?_
  refine wl_val (ov_move rfl) rfl rfl rfl ?_
  refine wl_gstep (or_call0 cl16 rfl rfl (known27_any _)) rfl rfl rfl rfl rfl ?_
  rintro v w6 ⟨rfl, he79⟩
  replace hE := hE.tr he79
  replace hr27 := hr27.ext he79
  replace hb47 := hb47.ext he79
  have hz_he79 := he79.size
  refine wl_val (ov_pick_t rfl rfl) rfl rfl rfl ?_
  refine wl_val (ov_assign rfl) rfl rfl rfl ?_
  refine q_nil ?_
  refine k_then ?_
  refine q_ret ?_
  refine e_ret rfl rfl ?_
  exact ⟨rfl, hE⟩

theorem bufferFull_more (w : World) (n : Int) (h0 : n < 0) (h3 : -3 ≤ n) :
    Fn Try.prog 4 #[(.int .i64 n)] w (fun v w' => v = .bool true ∧ Ext w w') := by
  have hE := ext_refl w
  obtain ⟨j, hj⟩ : ∃ j : Nat, (1048576 : Int) - n = (j : Int) := ⟨(1048576 - n).toNat, by omega⟩
  refine fn_enter (args := [(.int .i64 n)]) Try.func4 rfl rfl rfl ?_
  show WC _ _ _ _ [(0, (.int .i64 n))] _
  refine wc_seq ?_
  refine wc_regionL ?_
  refine wl_val (ov_assign rfl) rfl rfl rfl ?_
  refine q_nil ?_
  refine k_then ?_
  refine wc_seq ?_
  refine wc_seq ?_
  refine wc_regionL ?_
  refine wl_val (ov_move rfl) rfl rfl rfl ?_
  refine wl_val (ov_lss rfl rfl) rfl rfl rfl ?_
  refine wl_spell (d := 9) rfl (bf (by omega)) ?_
  refine wl_val (ov_move rfl) rfl rfl rfl ?_
  refine wl_gval (ov_move rfl) rfl rfl rfl rfl rfl ?_
  refine wl_gval (ov_gtr rfl rfl) rfl rfl rfl rfl rfl ?_
  refine wl_spell (d := 12) rfl (bf (by omega)) ?_
  refine wl_val (ov_pick_f rfl rfl) rfl rfl rfl ?_
  refine q_nil ?_
  refine k_then ?_
  refine wc_cond_f rfl ?_
  refine q_skip ?_
  refine k_then ?_
  refine wc_seq ?_
  refine wc_regionL ?_
  refine wl_step (or_call0 cl13 rfl rfl (bnew_ok _ 1048576 (by omega) (by omega))) rfl rfl rfl ?_
  rintro v w1 ⟨gn16, rfl, hb16, he16, hg116⟩
  replace hE := hE.tr he16
  have hz_he16 := he16.size
  have hDs16 : ∀ x, (none : Option Nat) = some x → w.heap.size ≤ x ∧ x < w1.heap.size := fun x e => by cases e
  have hzb16 := hb16.lt.1
  have hcp16 := hb16.cap
  refine wl_val (ov_move rfl) rfl rfl rfl ?_
  refine wl_val (ov_extract rfl rfl) rfl rfl rfl ?_
  refine wl_val (ov_extract rfl rfl) rfl rfl rfl ?_
  refine wl_val (ov_assign rfl) rfl rfl rfl ?_
  refine wl_val (ov_assign rfl) rfl rfl rfl ?_
  refine q_nil ?_
  refine k_then ?_
  refine wc_seq ?_
  refine wc_seq ?_
  refine wc_regionL ?_
  refine wl_val (ov_move rfl) rfl rfl rfl ?_
  refine wl_val (ov_nilptr Try.underlying22 rfl) rfl rfl rfl ?_
  refine wl_val (ov_move rfl) rfl rfl rfl ?_
  refine wl_gval (ov_move rfl) rfl rfl rfl rfl rfl ?_
  refine wl_gval (ov_neq rfl rfl) rfl rfl rfl rfl rfl ?_
  refine wl_val (ov_pick_f rfl rfl) rfl rfl rfl ?_
  refine q_nil ?_
  refine k_then ?_
  refine wc_cond_f rfl ?_
  refine q_skip ?_
  refine k_then ?_
  refine wc_seq ?_
  refine wc_regionL ?_
  refine wl_val (ov_move rfl) rfl rfl rfl ?_
  refine wl_val (ov_sub rfl rfl (wi64 (by omega) (by omega))) rfl rfl rfl ?_
  refine wl_step (or_makeBytes (n := j) bt26 rfl rfl (by omega) (by omega)) rfl rfl rfl ?_
  rintro v w2 ⟨A27, c27, rfl, ho27, he27⟩
  replace hE := hE.tr he27
  replace hb16 := hb16.ext he27
  have hz_he27 := he27.size
  have hq_ho27 := fun g e => Own.lt ho27 (g := g) e
  have hr27 := OwnB.rd ho27
  refine wl_val (ov_assign rfl) rfl rfl rfl ?_
  refine q_nil ?_
  refine k_then ?_
  refine wc_seq ?_
  refine wc_seq ?_
  refine wc_regionL ?_
  refine wl_val (ov_move rfl) rfl rfl rfl ?_
  refine wl_val (ov_move rfl) rfl rfl rfl ?_
  refine wl_step (or_call0 cl17 rfl rfl (bputall_ok _ w.heap.size gn16 none 1048576 [] 0 0 hb16 _ _ _ _ (List.replicate j 0) hr27 (by omega) (fun x e => by have := hDs16 x e; omega) (by omega) (by omega))) rfl rfl rfl ?_
  rintro v w3 ⟨rfl, ⟨D30, hb30, hN30⟩, hC30⟩
  have hDa30 : ∀ x, none = some x → (w.heap.size ≤ x ∧ x < w1.heap.size) ∧ x < w2.heap.size := fun x e => ⟨hDs16 x e, (hb16.lt.2 x e).2⟩
  have hz_hC30 := hC30.size
  replace hE := hC30.e0 hE (by omega) (fun x e => by have := hDa30 x e; omega)
  replace hr27 := hC30.rd hr27 (by omega) (fun x e => by have := hDa30 x e; omega)
  rw [bal_full (by simp; omega)] at hb30
  replace hb30 : Buf _ w.heap.size gn16 D30 1048576 [] 0 0 := hb30
  have hDs30 : ∀ x, D30 = some x → ((w.heap.size ≤ x ∧ x < w1.heap.size) ∨ w2.heap.size ≤ x) ∧ x < w3.heap.size := fun x e => ⟨(hN30 x e).imp (fun h => hDs16 x h) id, (hb30.lt.2 x e).2⟩
  have hzb30 := hb30.lt.1
  have hcp30 := hb30.cap
  refine wl_spell (d := 30) rfl (v' := .int .i64 7) (by rw [bal_full (by simp; omega)]; rfl) ?_
  refine wl_val (ov_assign rfl) rfl rfl rfl ?_
  refine q_nil ?_
  refine k_then ?_
  refine wc_seq ?_
  refine wc_regionL ?_
  refine wl_val (ov_move rfl) rfl rfl rfl ?_
  refine wl_val (ov_eql rfl rfl) rfl rfl rfl ?_
  refine wl_val (ov_move rfl) rfl rfl rfl ?_
  refine wl_val (ov_geq rfl rfl) rfl rfl rfl ?_
  refine wl_spell (d := 34) rfl (bf (by omega)) ?_
  refine wl_val (ov_neb Try.underlying4 rfl rfl) rfl rfl rfl ?_
  refine wl_spell (d := 35) rfl (v' := (.bool false)) (rfl) ?_
  refine wl_val (ov_move rfl) rfl rfl rfl ?_
  refine wl_gval (ov_move rfl) rfl rfl rfl rfl rfl ?_
  refine wl_gval (ov_neq rfl rfl) rfl rfl rfl rfl rfl ?_
  refine wl_gval (ov_move rfl) rfl rfl rfl rfl rfl ?_
  refine wl_gval (ov_move rfl) rfl rfl rfl rfl rfl ?_
  refine wl_gval (ov_neq rfl rfl) rfl rfl rfl rfl rfl ?_
  refine wl_gval (ov_pick_t rfl rfl) rfl rfl rfl rfl rfl ?_
  refine wl_val (ov_pick_f rfl rfl) rfl rfl rfl ?_
  refine q_nil ?_
  refine k_then ?_
  refine wc_cond_f rfl ?_
  refine q_skip ?_
  refine k_then ?_
  refine wc_seq ?_
  refine wc_regionL ?_
  refine wl_val (ov_move rfl) rfl rfl rfl ?_
  refine wl_val (ov_move rfl) rfl rfl rfl ?_
  refine wl_step (or_call0 cl18 rfl rfl (bput_ok _ w.heap.size gn16 D30 1048576 [] 0 0 hb30 _ _ _ _ (List.replicate j 0) hr27 (by omega) (fun x e => by have := hDs30 x e; omega) (by omega) (by omega))) rfl rfl rfl ?_
  rintro v w4 ⟨rfl, ⟨D47, hb47, hN47⟩, hC47⟩
  have hDa47 : ∀ x, D30 = some x → (((w.heap.size ≤ x ∧ x < w1.heap.size) ∨ w2.heap.size ≤ x) ∧ x < w3.heap.size) ∧ x < w3.heap.size := fun x e => ⟨hDs30 x e, (hb30.lt.2 x e).2⟩
  have hz_hC47 := hC47.size
  replace hE := hC47.e0 hE (by omega) (fun x e => by have := hDa47 x e; omega)
  replace hr27 := hC47.rd hr27 (by omega) (fun x e => by have := hDa47 x e; omega)
  have hDs47 : ∀ x, D47 = some x → ((((w.heap.size ≤ x ∧ x < w1.heap.size) ∨ w2.heap.size ≤ x) ∧ x < w3.heap.size) ∨ w3.heap.size ≤ x) ∧ x < w4.heap.size := fun x e => ⟨(hN47 x e).imp (fun h => hDs30 x h) id, (hb47.lt.2 x e).2⟩
  have hzb47 := hb47.lt.1
  have hcp47 := hb47.cap
  refine wl_val (ov_move rfl) rfl rfl rfl ?_
  refine wl_val (ov_extract rfl rfl) rfl rfl rfl ?_
  refine wl_val (ov_extract rfl rfl) rfl rfl rfl ?_
  refine wl_val (ov_assign rfl) rfl rfl rfl ?_
  refine wl_val (ov_assign rfl) rfl rfl rfl ?_
  refine q_nil ?_
  refine k_then ?_
  refine wc_seq ?_
  refine wc_seq ?_
  refine wc_regionL ?_
  refine wl_val (ov_move rfl) rfl rfl rfl ?_
  refine wl_val (ov_lss rfl rfl) rfl rfl rfl ?_
  refine q_nil ?_
  refine k_then ?_
  refine wc_cond_T rfl (decide_eq_true (h0)) ?_
  refine wc_seq ?_
  refine wc_regionL ?_
  refine wl_val (ov_move rfl) rfl rfl rfl ?_
  refine wl_val (ov_eql rfl rfl) rfl rfl rfl ?_
  refine wl_spell (d := 53) rfl (bt (by simp; omega)) ?_
  refine wl_val (ov_move rfl) rfl rfl rfl ?_
  refine wl_gval (ov_move rfl) rfl rfl rfl rfl rfl ?_
  refine wl_gval (ov_eql rfl rfl) rfl rfl rfl rfl rfl ?_
  refine wl_val (ov_pick_t rfl rfl) rfl rfl rfl ?_
  refine wl_val (ov_move rfl) rfl rfl rfl ?_
  refine wl_gval (ov_move rfl) rfl rfl rfl rfl rfl ?_
  refine wl_gstep (or_call0 cl19 rfl rfl (broom_ok _ _ _ _ _ _ _ _ hb47)) rfl rfl rfl rfl rfl ?_
  rintro v w5 ⟨rfl, he60⟩
  replace hE := hE.tr he60
  replace hr27 := hr27.ext he60
  replace hb47 := hb47.ext he60
  have hz_he60 := he60.size
  refine wl_gval (ov_eql rfl rfl) rfl rfl rfl rfl rfl ?_
  refine wl_spell (d := 61) rfl (bt (by simp; omega)) ?_
  refine wl_val (ov_pick_t rfl rfl) rfl rfl rfl ?_
  refine wl_val (ov_move rfl) rfl rfl rfl ?_
  refine wl_gstep (or_call0 cl16 rfl rfl (known27_any _)) rfl rfl rfl rfl rfl ?_
  rintro v w6 ⟨rfl, he64⟩
  replace hE := hE.tr he64
  replace hr27 := hr27.ext he64
  replace hb47 := hb47.ext he64
  have hz_he64 := he64.size
  refine wl_val (ov_pick_t rfl rfl) rfl rfl rfl ?_
  refine wl_val (ov_assign rfl) rfl rfl rfl ?_
  refine q_nil ?_
  refine k_then ?_
  refine q_ret ?_
  refine k_thenR ?_
  refine e_ret rfl rfl ?_
  exact ⟨rfl, hE⟩

theorem bufferFull_walk (w : World) (n : Int) : Fn Try.prog 4 #[.int .i64 n] w (fun v w' => v = .bool true ∧ Ext w w') := by
  by_cases h : n < -3 ∨ 3 < n
  · exact bufferFull_out w n h
  · by_cases h0 : 0 ≤ n
    · exact bufferFull_fits w n h0 (by omega)
    · exact bufferFull_more w n (by omega) (by omega)

end Go.Proofs.Ytopfjpkjpmdhaaa
