/-
  The contract of a call of a buffer and of its reference.
-/
import Derived.Test.YtopfjpkjpmdhaaaBe
namespace Go.Proofs.Ytopfjpkjpmdhaaa
open Go.RowKit
set_option linter.unusedVariables false
set_option maxRecDepth 4000
theorem cl29 : callable Try.prog 29 = true := by kernel_rfl
theorem cl56 : callable Try.prog 56 = true := by kernel_rfl
theorem cl57 : callable Try.prog 57 = true := by kernel_rfl
theorem fo42_0 : fieldOff Try.prog 42 0 = some 0 := by kernel_rfl
theorem fo42_1 : fieldOff Try.prog 42 1 = some 1 := by kernel_rfl
theorem sz5 : (Try.prog.info? 5).map (·.size) = some 1 := by kernel_rfl

set_option maxHeartbeats 4000000 in
theorem do27_any (w : World) (b0 lo lor hir g : Nat) (D : Option Nat) (m : Nat) (l : List UInt8) (p t : Nat) (A : Option Addr) (c : Nat) (hpl : Play27 b0 w lo lor hir g D m l p t A c) (hp : p ≤ 4000000000) (hb0w : b0 ≤ w.heap.size) (a1 a2 : Int) (h21 : -9223372036854775808 ≤ a2) (h22 : a2 ≤ 9223372036854775807) (Aq : Option Addr) (cq : Nat) (q : List UInt8) (lo2 hi2 : Nat) (hrq : RdB w lo2 hi2 Aq cq q) (hlq : q.length ≤ 100) (hhq : hi2 ≤ b0) :
    Fn Try.prog 26 #[(.pointer (some ⟨g, 0, none⟩)), (.agg #[(.int .i64 (↑m : Int)), (.slice A l.length c), (.int .u64 (↑p : Int))]), (.agg #[(.int .i64 a1), (.int .i64 a2), (.slice Aq q.length cq)])] w (Do27 b0 w lor hir g D m p) := by
  obtain ⟨hbuf, hr, hhir, hlo, hsg, hsD, hpt, hb0, hbD⟩ := hpl
  have hDs : ∀ x, D = some x → b0 ≤ x ∧ (x < lor ∨ hir ≤ x) ∧ x < w.heap.size := fun x e => ⟨hbD x e, hsD x e, (hbuf.lt.2 x e).2⟩
  have hzb := hbuf.lt.1
  have hcp := hbuf.cap
  have hC := Ch.refl g D w
  refine fn_enter (args := [(.pointer (some ⟨g, 0, none⟩)), (.agg #[(.int .i64 (↑m : Int)), (.slice A l.length c), (.int .u64 (↑p : Int))]), (.agg #[(.int .i64 a1), (.int .i64 a2), (.slice Aq q.length cq)])]) Try.func26 rfl rfl rfl ?_
  show WC _ _ _ _ [(0, (.pointer (some ⟨g, 0, none⟩))), (1, (.agg #[(.int .i64 (↑m : Int)), (.slice A l.length c), (.int .u64 (↑p : Int))])), (2, (.agg #[(.int .i64 a1), (.int .i64 a2), (.slice Aq q.length cq)]))] _
  refine wc_seq ?_
  refine wc_regionL ?_
  refine wl_step (or_box (cs := [(.int .i64 (↑m : Int)), (.slice A l.length c), (.int .u64 (↑p : Int))]) rfl rfl) rfl rfl rfl ?_
  rintro v w1 ⟨g4, rfl, hb_g4, he4, hl4, hu4⟩
  replace hbuf := hbuf.ext he4
  replace hr := hr.ext he4
  replace hrq := hrq.ext he4
  replace hC := hC.ext he4
  have hz_he4 := he4.size
  refine wl_step (or_box (cs := [(.int .i64 a1), (.int .i64 a2), (.slice Aq q.length cq)]) rfl rfl) rfl rfl rfl ?_
  rintro v w2 ⟨g5, rfl, hb_g5, he5, hl5, hu5⟩
  replace hbuf := hbuf.ext he5
  replace hr := hr.ext he5
  replace hrq := hrq.ext he5
  replace hC := hC.ext he5
  replace hb_g4 := hb_g4.ext he5
  have hz_he5 := he5.size
  refine wl_val (ov_assign rfl) rfl rfl rfl ?_
  refine wl_step (or_alloc (cs := [(.int .i64 0), (.slice none 0 0), (.int .u64 0)]) ze29 rfl) rfl rfl rfl ?_
  rintro v w3 ⟨g7, rfl, hb_g7, he7, hl7, hu7⟩
  replace hbuf := hbuf.ext he7
  replace hr := hr.ext he7
  replace hrq := hrq.ext he7
  replace hC := hC.ext he7
  replace hb_g4 := hb_g4.ext he7
  replace hb_g5 := hb_g5.ext he7
  have hz_he7 := he7.size
  refine wl_val (ov_assign rfl) rfl rfl rfl ?_
  refine q_nil ?_
  refine k_then ?_
  refine wc_seq ?_
  refine wc_regionL ?_
  refine wl_val (ov_field0 (off := 2) fo42_2 rfl) rfl rfl rfl ?_
  refine wl_val (ov_loadAt oc26 rfl hb_g5 rfl) rfl rfl rfl ?_
  refine wl_step (or_bappend0 bt26 rfl rfl hrq (by omega)) rfl rfl rfl ?_
  rintro v w4 ⟨A31, c31, rfl, ho31, he31⟩
  replace hbuf := hbuf.ext he31
  replace hr := hr.ext he31
  replace hrq := hrq.ext he31
  replace hC := hC.ext he31
  replace hb_g4 := hb_g4.ext he31
  replace hb_g5 := hb_g5.ext he31
  replace hb_g7 := hb_g7.ext he31
  have hz_he31 := he31.size
  have hq_ho31 := fun g e => Own.lt ho31 (g := g) e
  refine wl_val (ov_assign rfl) rfl rfl rfl ?_
  refine q_nil ?_
  refine k_then ?_
  refine wc_seq ?_
  refine wc_regionL ?_
  refine wl_val (ov_assign rfl) rfl rfl rfl ?_
  refine q_nil ?_
  refine k_then ?_
  refine wc_seq ?_
  refine wc_seq ?_
  refine wc_regionL ?_
  refine wl_val (ov_field0 (off := 0) fo42_0 rfl) rfl rfl rfl ?_
  refine wl_val (ov_loadAt oc3 rfl hb_g5 rfl) rfl rfl rfl ?_
  refine q_nil ?_
  refine k_then ?_
  refine wc_block ?_
  refine wc_seq ?_
  refine wc_regionL ?_
  refine wl_val (ov_eql rfl rfl) rfl rfl rfl ?_
  refine wl_val (ov_assign rfl) rfl rfl rfl ?_
  refine q_nil ?_
  refine k_then ?_
  refine wc_cond_d rfl (fun hc1 => ?_) (fun hc1 => ?_)
  · refine wc_seq ?_
    refine wc_regionL ?_
    refine wl_val (ov_move rfl) rfl rfl rfl ?_
    refine wl_val (ov_move rfl) rfl rfl rfl ?_
    refine wl_step (or_call0 cl18 rfl rfl (bput_ok _ lo g D m l p t hbuf _ _ _ _ q (OwnB.rd ho31) (by omega) (fun x e => by have := hDs x e; omega) (by omega) (by omega))) rfl rfl rfl ?_
    rintro v w5 ⟨rfl, ⟨D53, hb53, hN53⟩, hC53⟩
    have hDa53 : ∀ x, D = some x → (b0 ≤ x ∧ (x < lor ∨ hir ≤ x) ∧ x < w.heap.size) ∧ x < w4.heap.size := fun x e => ⟨hDs x e, (hbuf.lt.2 x e).2⟩
    have hz_hC53 := hC53.size
    replace hr := hC53.rd hr (by omega) (fun x e => by have := hDa53 x e; omega)
    replace hrq := hC53.rd hrq (by omega) (fun x e => by have := hDa53 x e; omega)
    replace hC := hC.tr hC53 (fun x e => by first | exact .inl e | (right; have := hDa53 x e; omega))
    replace hb_g4 := hC53.bk hb_g4 (by omega) (fun e2 => by have := hDa53 _ e2; omega)
    replace hb_g5 := hC53.bk hb_g5 (by omega) (fun e2 => by have := hDa53 _ e2; omega)
    replace hb_g7 := hC53.bk hb_g7 (by omega) (fun e2 => by have := hDa53 _ e2; omega)
    replace ho31 := hC53.own ho31 (fun x e => ⟨by have := hq_ho31 x e; omega, fun e2 => by have h1 := hq_ho31 x e; have h2 := hDa53 x e2; omega⟩)
    have hDs53 : ∀ x, D53 = some x → ((b0 ≤ x ∧ (x < lor ∨ hir ≤ x) ∧ x < w.heap.size) ∨ w4.heap.size ≤ x) ∧ x < w5.heap.size := fun x e => ⟨(hN53 x e).imp (fun h => hDs x h) id, (hb53.lt.2 x e).2⟩
    have hzb53 := hb53.lt.1
    have hcp53 := hb53.cap
    refine wl_val (ov_move rfl) rfl rfl rfl ?_
    refine wl_val (ov_extract rfl rfl) rfl rfl rfl ?_
    refine wl_val (ov_extract rfl rfl) rfl rfl rfl ?_
    refine wl_val (ov_assign rfl) rfl rfl rfl ?_
    refine wl_val (ov_assign rfl) rfl rfl rfl ?_
    refine q_nil ?_
    refine k_then ?_
    refine wc_seq ?_
    refine wc_regionL ?_
    refine wl_val (ov_loadBlk (cs := [(.int .i64 (↑m : Int)), (.slice A l.length c), (.int .u64 (↑p : Int))]) ag29_3 rfl hb_g4) rfl rfl rfl ?_
    refine wl_val (ov_field0 (off := 2) fo42_2 rfl) rfl rfl rfl ?_
    refine wl_val (ov_loadAt oc26 rfl hb_g5 rfl) rfl rfl rfl ?_
    refine wl_step (or_call0 cl56 rfl rfl (radd_any _ _ _ (m) _ _ l (p) hr (by omega) (by omega) _ _ _ _ q hrq (by omega))) rfl rfl rfl ?_
    rintro v w6 ⟨A60, c60, rfl, ho60, he60⟩
    replace hr := hr.ext he60
    replace hrq := hrq.ext he60
    replace hC := hC.ext he60
    replace hb_g4 := hb_g4.ext he60
    replace hb_g5 := hb_g5.ext he60
    replace hb_g7 := hb_g7.ext he60
    replace ho31 := Own.ext ho31 he60
    replace hb53 := hb53.ext he60
    have hz_he60 := he60.size
    have hq_ho60 := fun g e => Own.lt ho60 (g := g) e
    refine wl_val (ov_move rfl) rfl rfl rfl ?_
    refine wl_val (ov_extract rfl rfl) rfl rfl rfl ?_
    refine wl_val (ov_extract rfl rfl) rfl rfl rfl ?_
    refine wl_step (or_alloc (cs := [(.int .i64 0), (.slice none 0 0), (.int .u64 0)]) ze29 rfl) rfl rfl rfl ?_
    rintro v w7 ⟨g13, rfl, hb_g13, he13, hl13, hu13⟩
    replace hr := hr.ext he13
    replace hrq := hrq.ext he13
    replace hC := hC.ext he13
    replace hb_g4 := hb_g4.ext he13
    replace hb_g5 := hb_g5.ext he13
    replace hb_g7 := hb_g7.ext he13
    replace ho31 := Own.ext ho31 he13
    replace hb53 := hb53.ext he13
    replace ho60 := Own.ext ho60 he13
    have hz_he13 := he13.size
    refine wl_step0 (or_storeBlk (vs := [(.int .i64 (↑m : Int)), (.slice A60 (l ++ q.take (min q.length ((m) - l.length))).length c60), (.int .u64 (((p) + (min q.length ((m) - l.length)) : Nat) : Int))]) sz29 rfl rfl (by simp [Value.oneCell']) hb_g13 rfl) rfl rfl ?_
    rintro _ w8 ⟨hN8, hg8⟩
    have hz_hg8 := hg8.size
    replace hr := hr.gr hg8 (fun _ e => by cases e; omega)
    replace hrq := hrq.gr hg8 (fun _ e => by cases e; omega)
    replace hC := hC.gr2 hg8 (fun x e => by cases e; first | exact .inl rfl | (right; right; omega))
    replace hb_g4 := hb_g4.gr hg8 (by intro e; cases e; omega)
    replace hb_g5 := hb_g5.gr hg8 (by intro e; cases e; omega)
    replace hb_g7 := hb_g7.gr hg8 (by intro e; cases e; omega)
    replace ho31 := Own.gr ho31 hg8 (by first | exact .inl rfl | (right; intro e; first | (have := hq_ho31 _ e; omega) | (have := Own.lt ho31 e; omega) | exact own_blk_ne ho31 hb_g13 (by decide) e))
    replace hb53 := hb53.gr hg8 (fun x e => by cases e; omega) (fun x e e2 => by cases e; have := hDs53 _ e2; omega)
    replace ho60 := Own.gr ho60 hg8 (by first | exact .inl rfl | (right; intro e; first | (have := hq_ho60 _ e; omega) | (have := Own.lt ho60 e; omega) | exact own_blk_ne ho60 hb_g13 (by decide) e))
    replace hb_g13 := hN8
    refine wl_val (ov_assign rfl) rfl rfl rfl ?_
    refine q_nil ?_
    refine k_then ?_
    refine wc_draw mixed 9 [(63, eqv (.int .i64 ((min q.length (m - l.length) : Nat) : Int))), (64, eqv (.int .i64 (((min q.length ((m) - l.length)) : Nat) : Int))), (65, eqv (.bool true)), (66, eqv (.bool true)), (67, eqv (.int .i64 0)), (68, eqv (.bool true)), (69, eqv (.bool true)), (70, eqv (.agg #[(.int .i64 (↑m : Int)), (.slice A60 (l ++ q.take (min q.length ((m) - l.length))).length c60), (.int .u64 (((p) + (min q.length ((m) - l.length)) : Nat) : Int))])), (10, eqv (.bool true))] [[], [], [0, 1], [2], [3], [3, 4], [3, 5], [], [6]] [(0, (.pointer (some ⟨g, 0, none⟩))), (4, (.pointer (some ⟨g4, 0, none⟩))), (6, (.pointer none)), (7, (.pointer (some ⟨g7, 0, none⟩))), (8, (.bool false)), (9, (.slice A31 q.length c31)), (11, (.int .i64 ((min q.length (m - l.length) : Nat) : Int))), (12, (.int .i64 0)), (13, (.pointer (some ⟨g13, 0, none⟩))), (14, (.int .i64 (((min q.length ((m) - l.length)) : Nat) : Int)))] [] [] (Env.sub_get ⟨rfl, rfl, rfl, rfl, rfl, rfl, rfl, rfl, rfl, rfl, trivial⟩) trivial (by kernel_rfl) rfl ⟨stb_eqv _, stb_eqv _, stb_eqv _, stb_eqv _, stb_eqv _, stb_eqv _, stb_eqv _, stb_eqv _, stb_eqv _, trivial⟩ ⟨?_, ?_, ?_, ?_, ?_, ?_, ?_, ?_, ?_, trivial⟩ ?_
    · intro wd hxE
      replace hr := hr.ext hxE
      replace hrq := hrq.ext hxE
      replace hC := hC.ext hxE
      replace hb_g4 := hb_g4.ext hxE
      replace hb_g5 := hb_g5.ext hxE
      replace hb_g7 := hb_g7.ext hxE
      replace ho31 := Own.ext ho31 hxE
      replace hb53 := hb53.ext hxE
      replace ho60 := Own.ext ho60 hxE
      replace hb_g13 := hb_g13.ext hxE
      have hz_hxE := hxE.size
      show OpG _ _ _ _ _ _
      exact og_plain rfl (ox_val (ov_move rfl))
    · intro wd hxE
      replace hr := hr.ext hxE
      replace hrq := hrq.ext hxE
      replace hC := hC.ext hxE
      replace hb_g4 := hb_g4.ext hxE
      replace hb_g5 := hb_g5.ext hxE
      replace hb_g7 := hb_g7.ext hxE
      replace ho31 := Own.ext ho31 hxE
      replace hb53 := hb53.ext hxE
      replace ho60 := Own.ext ho60 hxE
      replace hb_g13 := hb_g13.ext hxE
      have hz_hxE := hxE.size
      show OpG _ _ _ _ _ _
      exact og_plain rfl (ox_val (ov_move rfl))
    · intro wd hxE
      replace hr := hr.ext hxE
      replace hrq := hrq.ext hxE
      replace hC := hC.ext hxE
      replace hb_g4 := hb_g4.ext hxE
      replace hb_g5 := hb_g5.ext hxE
      replace hb_g7 := hb_g7.ext hxE
      replace ho31 := Own.ext ho31 hxE
      replace hb53 := hb53.ext hxE
      replace ho60 := Own.ext ho60 hxE
      replace hb_g13 := hb_g13.ext hxE
      have hz_hxE := hxE.size
      rintro _ rfl
      rintro _ rfl
      show OpG _ _ _ _ _ _
      exact og_plain rfl (ox_T (rfl) (ov_eql rfl rfl))
    · intro wd hxE
      replace hr := hr.ext hxE
      replace hrq := hrq.ext hxE
      replace hC := hC.ext hxE
      replace hb_g4 := hb_g4.ext hxE
      replace hb_g5 := hb_g5.ext hxE
      replace hb_g7 := hb_g7.ext hxE
      replace ho31 := Own.ext ho31 hxE
      replace hb53 := hb53.ext hxE
      replace ho60 := Own.ext ho60 hxE
      replace hb_g13 := hb_g13.ext hxE
      have hz_hxE := hxE.size
      rintro _ rfl
      show OpG _ _ _ _ _ _
      exact og_plain rfl (ox_val (ov_move rfl))
    · intro wd hxE
      replace hr := hr.ext hxE
      replace hrq := hrq.ext hxE
      replace hC := hC.ext hxE
      replace hb_g4 := hb_g4.ext hxE
      replace hb_g5 := hb_g5.ext hxE
      replace hb_g7 := hb_g7.ext hxE
      replace ho31 := Own.ext ho31 hxE
      replace hb53 := hb53.ext hxE
      replace ho60 := Own.ext ho60 hxE
      replace hb_g13 := hb_g13.ext hxE
      have hz_hxE := hxE.size
      rintro _ rfl
      show OpG _ _ _ _ _ _
      exact og_on rfl rfl rfl (ox_val (ov_move rfl))
    · intro wd hxE
      replace hr := hr.ext hxE
      replace hrq := hrq.ext hxE
      replace hC := hC.ext hxE
      replace hb_g4 := hb_g4.ext hxE
      replace hb_g5 := hb_g5.ext hxE
      replace hb_g7 := hb_g7.ext hxE
      replace ho31 := Own.ext ho31 hxE
      replace hb53 := hb53.ext hxE
      replace ho60 := Own.ext ho60 hxE
      replace hb_g13 := hb_g13.ext hxE
      have hz_hxE := hxE.size
      rintro _ rfl
      rintro _ rfl
      show OpG _ _ _ _ _ _
      exact og_on rfl rfl rfl (ox_T (by decide) (ov_eql rfl rfl))
    · intro wd hxE
      replace hr := hr.ext hxE
      replace hrq := hrq.ext hxE
      replace hC := hC.ext hxE
      replace hb_g4 := hb_g4.ext hxE
      replace hb_g5 := hb_g5.ext hxE
      replace hb_g7 := hb_g7.ext hxE
      replace ho31 := Own.ext ho31 hxE
      replace hb53 := hb53.ext hxE
      replace ho60 := Own.ext ho60 hxE
      replace hb_g13 := hb_g13.ext hxE
      have hz_hxE := hxE.size
      rintro _ rfl
      rintro _ rfl
      show OpG _ _ _ _ _ _
      exact og_plain rfl (ox_val (ov_pick_t rfl rfl))
    · intro wd hxE
      replace hr := hr.ext hxE
      replace hrq := hrq.ext hxE
      replace hC := hC.ext hxE
      replace hb_g4 := hb_g4.ext hxE
      replace hb_g5 := hb_g5.ext hxE
      replace hb_g7 := hb_g7.ext hxE
      replace ho31 := Own.ext ho31 hxE
      replace hb53 := hb53.ext hxE
      replace ho60 := Own.ext ho60 hxE
      replace hb_g13 := hb_g13.ext hxE
      have hz_hxE := hxE.size
      show OpG _ _ _ _ _ _
      exact og_plain rfl (ox_val (ov_loadBlk (cs := [(.int .i64 (↑m : Int)), (.slice A60 (l ++ q.take (min q.length ((m) - l.length))).length c60), (.int .u64 (((p) + (min q.length ((m) - l.length)) : Nat) : Int))]) ag29_3 rfl hb_g13))
    · intro wd hxE
      replace hr := hr.ext hxE
      replace hrq := hrq.ext hxE
      replace hC := hC.ext hxE
      replace hb_g4 := hb_g4.ext hxE
      replace hb_g5 := hb_g5.ext hxE
      replace hb_g7 := hb_g7.ext hxE
      replace ho31 := Own.ext ho31 hxE
      replace hb53 := hb53.ext hxE
      replace ho60 := Own.ext ho60 hxE
      replace hb_g13 := hb_g13.ext hxE
      have hz_hxE := hxE.size
      rintro _ rfl
      show OpG _ _ _ _ _ _
      exact og_plain rfl (ox_val (ov_assign rfl))
    · intro wf13 hf13
      replace hr := hr.ext hf13
      replace hrq := hrq.ext hf13
      replace hC := hC.ext hf13
      replace hb_g4 := hb_g4.ext hf13
      replace hb_g5 := hb_g5.ext hf13
      replace hb_g7 := hb_g7.ext hf13
      replace ho31 := Own.ext ho31 hf13
      replace hb53 := hb53.ext hf13
      replace ho60 := Own.ext ho60 hf13
      replace hb_g13 := hb_g13.ext hf13
      have hz_hf13 := hf13.size
      rintro _ rfl
      rintro _ rfl
      rintro _ rfl
      rintro _ rfl
      rintro _ rfl
      rintro _ rfl
      rintro _ rfl
      rintro _ rfl
      rintro _ rfl
      show WL _ _ _ [_] _ _ _
      refine wl_step0 (or_storeBlk (vs := [(.int .i64 (↑m : Int)), (.slice A60 (l ++ q.take (min q.length ((m) - l.length))).length c60), (.int .u64 (((p) + (min q.length ((m) - l.length)) : Nat) : Int))]) sz29 rfl rfl (by simp [Value.oneCell']) hb_g4 rfl) rfl rfl ?_
      rintro _ w9 ⟨hN9, hg9⟩
      have hz_hg9 := hg9.size
      replace hr := hr.gr hg9 (fun _ e => by cases e; omega)
      replace hrq := hrq.gr hg9 (fun _ e => by cases e; omega)
      replace hC := hC.gr2 hg9 (fun x e => by cases e; first | exact .inl rfl | (right; right; omega))
      replace hb_g5 := hb_g5.gr hg9 (by intro e; cases e; omega)
      replace hb_g7 := hb_g7.gr hg9 (by intro e; cases e; omega)
      replace ho31 := Own.gr ho31 hg9 (by first | exact .inl rfl | (right; intro e; first | (have := hq_ho31 _ e; omega) | (have := Own.lt ho31 e; omega) | exact own_blk_ne ho31 hb_g4 (by decide) e))
      replace hb53 := hb53.gr hg9 (fun x e => by cases e; omega) (fun x e e2 => by cases e; have := hDs53 _ e2; omega)
      replace ho60 := Own.gr ho60 hg9 (by first | exact .inl rfl | (right; intro e; first | (have := hq_ho60 _ e; omega) | (have := Own.lt ho60 e; omega) | exact own_blk_ne ho60 hb_g4 (by decide) e))
      replace hb_g13 := hb_g13.gr hg9 (by intro e; cases e; omega)
      replace hb_g4 := hN9
      refine q_nil ?_
      refine k_block ?_
      refine k_then ?_
      refine wc_seq ?_
      refine wc_seq ?_
      refine wc_regionL ?_
      refine wl_val (ov_assign rfl) rfl rfl rfl ?_
      refine q_nil ?_
      refine k_then ?_
      have hcap_9 := RdB.cap (OwnB.rd ho31)
      refine wc_block ?_
      refine wc_loop (σ := Nat × List UInt8) (fun s => q.length - s.1) (fun s => [(9, .slice A31 q.length c31), (28, .int .i64 (s.1 : Int)), (0, (.pointer (some ⟨g, 0, none⟩))), (4, (.pointer (some ⟨g4, 0, none⟩))), (6, (.pointer none)), (7, (.pointer (some ⟨g7, 0, none⟩))), (8, (.bool false)), (10, (.bool true))]) (fun s w' => OwnB w' w3.heap.size 5 A31 c31 s.2 ∧ Gr w9 w' (blk A31) ∧ s.2.length = q.length ∧ s.1 ≤ q.length) (0, q) (⟨ho31, (ext_refl _).row _, rfl, Nat.zero_le _⟩) (⟨rfl, rfl, rfl, rfl, rfl, rfl, rfl, rfl, trivial⟩) ?_
      rintro ⟨k_9, l_9⟩ w10 ⟨ho_9, hG_9, hL_9, hk_9⟩
      simp only at hL_9 hk_9
      replace ho_9 : OwnB _ _ _ _ _ l_9 := ho_9
      show WC _ _ _ _ [(9, (.slice A31 q.length c31)), (28, (.int .i64 (↑k_9 : Int))), (0, (.pointer (some ⟨g, 0, none⟩))), (4, (.pointer (some ⟨g4, 0, none⟩))), (6, (.pointer none)), (7, (.pointer (some ⟨g7, 0, none⟩))), (8, (.bool false)), (10, (.bool true))] _
      refine wc_seq ?_
      refine wc_seq ?_
      refine wc_regionL ?_
      refine wl_val (ov_move rfl) rfl rfl rfl ?_
      refine wl_val (ov_move rfl) rfl rfl rfl ?_
      refine wl_val (ov_len Try.underlying26 rfl) rfl rfl rfl ?_
      refine wl_val (ov_lss rfl rfl) rfl rfl rfl ?_
      refine q_nil ?_
      refine k_then ?_
      refine wc_cond_d rfl (fun hc11 => ?_) (fun hc11 => ?_)
      · obtain ⟨g_9, hA_9, hg1_9, hgu_9⟩ := Own.addr ho_9 (by omega)
        subst hA_9
        refine q_skip ?_
        refine k_then ?_
        refine wc_seq ?_
        refine wc_block ?_
        refine wc_regionL ?_
        refine wl_val (ov_move rfl) rfl rfl rfl ?_
        refine wl_val (ov_move rfl) rfl rfl rfl ?_
        refine wl_val (ov_oindex bt26.s rfl rfl rfl (by omega)) rfl rfl rfl ?_
        refine wl_val (ov_load oc5 rfl (OwnB.cellAt ho_9 (by omega))) rfl rfl rfl ?_
        refine wl_val (ov_add rfl rfl (wu8_succ _)) rfl rfl rfl ?_
        refine wl_val (ov_oindex bt26.s rfl rfl rfl (by omega)) rfl rfl rfl ?_
        refine wl_step0 (or_storeOwn sz5 rfl rfl ho_9 (by omega)) rfl rfl ?_
        rintro _ w11 ⟨ho2_9, hg2_9⟩
        have hz2_9 := hg2_9.size
        refine q_nil ?_
        refine k_block ?_
        refine k_then ?_
        refine wc_regionL ?_
        refine wl_val (ov_move rfl) rfl rfl rfl ?_
        refine wl_val (ov_add rfl rfl (wi64 (by omega) (by omega))) rfl rfl rfl ?_
        refine wl_val (ov_assign rfl) rfl rfl rfl ?_
        refine q_nil ?_
        refine k_loop ((k_9 + 1, l_9.set k_9 ((l_9.getD k_9 0) + 1))) (by show q.length - (k_9 + 1) < q.length - k_9; omega) (⟨rfl, rfl, rfl, rfl, rfl, rfl, rfl, rfl, trivial⟩) (⟨ho2_9, hG_9.gr hg2_9 (fun g e => .inl e), by show (List.set _ _ _).length = _; rw [List.length_set]; exact hL_9, by show k_9 + 1 ≤ _; omega⟩)
      · refine wc_spell (d := 9) rfl (v' := .slice A31 l_9.length c31) (by rw [hL_9]) ?_
        have hz_hG_9 := hG_9.size
        replace hr := hr.gr hG_9 (fun g e => by have := hq_ho31 g e; omega)
        replace hrq := hrq.gr hG_9 (fun g e => by have := hq_ho31 g e; omega)
        replace hC := hC.gr2 hG_9 (fun x e => .inr (.inr (by have := hq_ho31 x e; omega)))
        replace hb_g4 := hb_g4.gr hG_9 (fun e => by have := hq_ho31 _ e; omega)
        replace hb_g5 := hb_g5.gr hG_9 (fun e => by have := hq_ho31 _ e; omega)
        replace hb_g7 := hb_g7.gr hG_9 (fun e => by have := hq_ho31 _ e; omega)
        replace hb53 := hb53.gr hG_9 (fun x e => by have := hq_ho31 x e; omega) (fun x e e2 => by have h1 := hq_ho31 x e; have h2 := hDs53 x e2; omega)
        replace ho60 := Own.gr ho60 hG_9 (own_apart fun g e g2 e2 => by have := hq_ho60 g e; have := hq_ho31 g2 e2; omega)
        replace hb_g13 := hb_g13.gr hG_9 (fun e => by have := hq_ho31 _ e; omega)
        have hq_ho_9 := fun g e => Own.lt ho_9 (g := g) e
        refine q_exit ?_
        refine k_thenX ?_
        refine k_thenX ?_
        refine k_blockE ?_
        refine k_then ?_
        refine wc_seq ?_
        refine wc_drawA mixed ?_
        intro w211 hx45
        replace hr := hr.ext hx45
        replace hrq := hrq.ext hx45
        replace hC := hC.ext hx45
        replace hb_g4 := hb_g4.ext hx45
        replace hb_g5 := hb_g5.ext hx45
        replace hb_g7 := hb_g7.ext hx45
        replace hb53 := hb53.ext hx45
        replace ho60 := Own.ext ho60 hx45
        replace hb_g13 := hb_g13.ext hx45
        replace ho_9 := Own.ext ho_9 hx45
        have hz_hx45 := hx45.size
        refine wa_main (BelS w211.heap.size [g7]) (bels_ext) (bels_tr) 0 5 [(200, eqv (.pointer (some ⟨g, 0, none⟩))), (201, eqv (.agg #[(.int .i64 (↑m : Int)), (.slice A60 (l ++ q.take (min q.length ((m) - l.length))).length c60), (.int .u64 (((p) + (min q.length ((m) - l.length)) : Nat) : Int))])), (202, eqv (.bool true)), (6, eqv (.pointer (some ⟨g, 0, none⟩))), (207, (fun _ w => Blk w g7 29 [(.int .i64 (↑m : Int)), (.slice A60 (l ++ q.take (min q.length ((m) - l.length))).length c60), (.int .u64 (((p) + (min q.length ((m) - l.length)) : Nat) : Int))]))] [[], [], [], [0], [1]] [false, false, false, false, true] [false, false, false, false, true] [true, true, true, true, true] false [(0, (.pointer (some ⟨g, 0, none⟩))), (4, (.pointer (some ⟨g4, 0, none⟩))), (7, (.pointer (some ⟨g7, 0, none⟩))), (8, (.bool false)), (10, (.bool true))] [] [] (Env.sub_get ⟨rfl, rfl, rfl, rfl, rfl, trivial⟩) trivial (by kernel_rfl) rfl ⟨stb_eqv _, stb_eqv _, stb_eqv _, stb_eqv _, (fun _ w w' hb he => hb.ext he), trivial⟩ ⟨?_, ?_, ?_, ?_, ?_, trivial⟩ ?_
        · intro wd hxE
          have hk_hxE := bels_out hxE
          obtain ⟨cs_g7, hcs_g7, hb_g7⟩ := bels_blk hxE (by simp) hb_g7
          have hz_hk_hxE := hk_hxE.size
          replace hr := hk_hxE.rd hr (by intro g hg; simp at hg; omega)
          replace hrq := hk_hxE.rd hrq (by intro g hg; simp at hg; omega)
          replace hC := hC.kp2 hk_hxE (by intro x hx; simp at hx; omega)
          replace hb_g4 := hk_hxE.bk hb_g4 (by intro hg; simp at hg; omega)
          replace hb_g5 := hk_hxE.bk hb_g5 (by intro hg; simp at hg; omega)
          replace hb53 := hb53.kp hk_hxE (by intro hg; simp at hg; omega) (fun x e hg => by simp at hg; have := hDs53 x e; omega)
          replace ho60 := hk_hxE.own ho60 (by intro g e hg; simp at hg; have := hq_ho60 g e; omega)
          replace hb_g13 := hk_hxE.bk hb_g13 (by intro hg; simp at hg; omega)
          replace ho_9 := hk_hxE.own ho_9 (by intro g e hg; simp at hg; have := hq_ho_9 g e; omega)
          show OpG _ _ _ _ _ _
          exact og_plain rfl (ox_val (ov_move rfl))
        · intro wd hxE
          have hk_hxE := bels_out hxE
          obtain ⟨cs_g7, hcs_g7, hb_g7⟩ := bels_blk hxE (by simp) hb_g7
          have hz_hk_hxE := hk_hxE.size
          replace hr := hk_hxE.rd hr (by intro g hg; simp at hg; omega)
          replace hrq := hk_hxE.rd hrq (by intro g hg; simp at hg; omega)
          replace hC := hC.kp2 hk_hxE (by intro x hx; simp at hx; omega)
          replace hb_g4 := hk_hxE.bk hb_g4 (by intro hg; simp at hg; omega)
          replace hb_g5 := hk_hxE.bk hb_g5 (by intro hg; simp at hg; omega)
          replace hb53 := hb53.kp hk_hxE (by intro hg; simp at hg; omega) (fun x e hg => by simp at hg; have := hDs53 x e; omega)
          replace ho60 := hk_hxE.own ho60 (by intro g e hg; simp at hg; have := hq_ho60 g e; omega)
          replace hb_g13 := hk_hxE.bk hb_g13 (by intro hg; simp at hg; omega)
          replace ho_9 := hk_hxE.own ho_9 (by intro g e hg; simp at hg; have := hq_ho_9 g e; omega)
          show OpG _ _ _ _ _ _
          exact og_plain rfl (ox_val (ov_loadBlk (cs := [(.int .i64 (↑m : Int)), (.slice A60 (l ++ q.take (min q.length ((m) - l.length))).length c60), (.int .u64 (((p) + (min q.length ((m) - l.length)) : Nat) : Int))]) ag29_3 rfl hb_g4))
        · intro wd hxE
          have hk_hxE := bels_out hxE
          obtain ⟨cs_g7, hcs_g7, hb_g7⟩ := bels_blk hxE (by simp) hb_g7
          have hz_hk_hxE := hk_hxE.size
          replace hr := hk_hxE.rd hr (by intro g hg; simp at hg; omega)
          replace hrq := hk_hxE.rd hrq (by intro g hg; simp at hg; omega)
          replace hC := hC.kp2 hk_hxE (by intro x hx; simp at hx; omega)
          replace hb_g4 := hk_hxE.bk hb_g4 (by intro hg; simp at hg; omega)
          replace hb_g5 := hk_hxE.bk hb_g5 (by intro hg; simp at hg; omega)
          replace hb53 := hb53.kp hk_hxE (by intro hg; simp at hg; omega) (fun x e hg => by simp at hg; have := hDs53 x e; omega)
          replace ho60 := hk_hxE.own ho60 (by intro g e hg; simp at hg; have := hq_ho60 g e; omega)
          replace hb_g13 := hk_hxE.bk hb_g13 (by intro hg; simp at hg; omega)
          replace ho_9 := hk_hxE.own ho_9 (by intro g e hg; simp at hg; have := hq_ho_9 g e; omega)
          show OpG _ _ _ _ _ _
          exact og_plain rfl (ox_val (ov_move rfl))
        · intro wd hxE
          have hk_hxE := bels_out hxE
          obtain ⟨cs_g7, hcs_g7, hb_g7⟩ := bels_blk hxE (by simp) hb_g7
          have hz_hk_hxE := hk_hxE.size
          replace hr := hk_hxE.rd hr (by intro g hg; simp at hg; omega)
          replace hrq := hk_hxE.rd hrq (by intro g hg; simp at hg; omega)
          replace hC := hC.kp2 hk_hxE (by intro x hx; simp at hx; omega)
          replace hb_g4 := hk_hxE.bk hb_g4 (by intro hg; simp at hg; omega)
          replace hb_g5 := hk_hxE.bk hb_g5 (by intro hg; simp at hg; omega)
          replace hb53 := hb53.kp hk_hxE (by intro hg; simp at hg; omega) (fun x e hg => by simp at hg; have := hDs53 x e; omega)
          replace ho60 := hk_hxE.own ho60 (by intro g e hg; simp at hg; have := hq_ho60 g e; omega)
          replace hb_g13 := hk_hxE.bk hb_g13 (by intro hg; simp at hg; omega)
          replace ho_9 := hk_hxE.own ho_9 (by intro g e hg; simp at hg; have := hq_ho_9 g e; omega)
          rintro _ rfl
          show OpG _ _ _ _ _ _
          exact og_plain rfl (ox_val (ov_assign rfl))
        · intro wd hxE
          have hk_hxE := bels_out hxE
          obtain ⟨cs_g7, hcs_g7, hb_g7⟩ := bels_blk hxE (by simp) hb_g7
          have hz_hk_hxE := hk_hxE.size
          replace hr := hk_hxE.rd hr (by intro g hg; simp at hg; omega)
          replace hrq := hk_hxE.rd hrq (by intro g hg; simp at hg; omega)
          replace hC := hC.kp2 hk_hxE (by intro x hx; simp at hx; omega)
          replace hb_g4 := hk_hxE.bk hb_g4 (by intro hg; simp at hg; omega)
          replace hb_g5 := hk_hxE.bk hb_g5 (by intro hg; simp at hg; omega)
          replace hb53 := hb53.kp hk_hxE (by intro hg; simp at hg; omega) (fun x e hg => by simp at hg; have := hDs53 x e; omega)
          replace ho60 := hk_hxE.own ho60 (by intro g e hg; simp at hg; have := hq_ho60 g e; omega)
          replace hb_g13 := hk_hxE.bk hb_g13 (by intro hg; simp at hg; omega)
          replace ho_9 := hk_hxE.own ho_9 (by intro g e hg; simp at hg; have := hq_ho_9 g e; omega)
          rintro _ rfl
          show OpG _ _ _ _ _ _
          have hb0 := hb_g7
          refine og_plain rfl (OpRun.mono (or_storeBlk (vs := [(.int .i64 (↑m : Int)), (.slice A60 (l ++ q.take (min q.length ((m) - l.length))).length c60), (.int .u64 (((p) + (min q.length ((m) - l.length)) : Nat) : Int))]) sz29 rfl rfl (by simp [Value.oneCell']) hb_g7 hcs_g7) ?_)
          rintro _ w212 ⟨hN212, hg212⟩
          have hz_hg212 := hg212.size
          replace hr := hr.gr hg212 (fun _ e => by cases e; omega)
          replace hrq := hrq.gr hg212 (fun _ e => by cases e; omega)
          replace hC := hC.gr2 hg212 (fun x e => by cases e; first | exact .inl rfl | (right; right; omega))
          replace hb_g4 := hb_g4.gr hg212 (by intro e; cases e; omega)
          replace hb_g5 := hb_g5.gr hg212 (by intro e; cases e; omega)
          replace hb53 := hb53.gr hg212 (fun x e => by cases e; omega) (fun x e e2 => by cases e; have := hDs53 _ e2; omega)
          replace ho60 := Own.gr ho60 hg212 (by first | exact .inl rfl | (right; intro e; first | (have := hq_ho60 _ e; omega) | (have := Own.lt ho60 e; omega) | exact own_blk_ne ho60 hb_g7 (by decide) e))
          replace hb_g13 := hb_g13.gr hg212 (by intro e; cases e; omega)
          replace ho_9 := Own.gr ho_9 hg212 (by first | exact .inl rfl | (right; intro e; first | (have := hq_ho_9 _ e; omega) | (have := Own.lt ho_9 e; omega) | exact own_blk_ne ho_9 hb_g7 (by decide) e))
          replace hb_g7 := hN212
          exact ⟨hb_g7, bels_store hg212 (by simp) hb0 hb_g7 hcs_g7⟩
        · intro wf45 hf45
          have hk_hf45 := bels_out hf45
          obtain ⟨cs_g7, hcs_g7, hb_g7⟩ := bels_blk hf45 (by simp) hb_g7
          have hz_hk_hf45 := hk_hf45.size
          replace hr := hk_hf45.rd hr (by intro g hg; simp at hg; omega)
          replace hrq := hk_hf45.rd hrq (by intro g hg; simp at hg; omega)
          replace hC := hC.kp2 hk_hf45 (by intro x hx; simp at hx; omega)
          replace hb_g4 := hk_hf45.bk hb_g4 (by intro hg; simp at hg; omega)
          replace hb_g5 := hk_hf45.bk hb_g5 (by intro hg; simp at hg; omega)
          replace hb53 := hb53.kp hk_hf45 (by intro hg; simp at hg; omega) (fun x e hg => by simp at hg; have := hDs53 x e; omega)
          replace ho60 := hk_hf45.own ho60 (by intro g e hg; simp at hg; have := hq_ho60 g e; omega)
          replace hb_g13 := hk_hf45.bk hb_g13 (by intro hg; simp at hg; omega)
          replace ho_9 := hk_hf45.own ho_9 (by intro g e hg; simp at hg; have := hq_ho_9 g e; omega)
          rintro _ rfl
          rintro _ rfl
          rintro _ rfl
          rintro _ rfl
          rintro _ hb_g7
          refine wa_tail (by kernel_rfl) ?_
          show WL _ _ _ [_] _ _ _
          refine wl_val (ov_assign rfl) rfl rfl rfl ?_
          refine q_nil ?_
          refine k_then ?_
          refine q_ret ?_
          refine e_retL (rs := [.tmp 6, .cell 7 29, .tmp 8]) (vs := [(.pointer (some ⟨g, 0, none⟩)), .agg #[(.int .i64 (↑m : Int)), (.slice A60 (l ++ q.take (min q.length ((m) - l.length))).length c60), (.int .u64 (((p) + (min q.length ((m) - l.length)) : Nat) : Int))], (.bool true)]) rfl ⟨rfl, ⟨_, _, [(.int .i64 (↑m : Int)), (.slice A60 (l ++ q.take (min q.length ((m) - l.length))).length c60), (.int .u64 (((p) + (min q.length ((m) - l.length)) : Nat) : Int))], rfl, ag29_3, hb_g7, rfl⟩, rfl, trivial⟩ ?_
          exact ⟨_, _, _, g, _, _, _, _, _, _, rfl, ⟨hb53, (OwnB.rd ho60), Nat.le_refl _, by omega, by omega, fun x e => by have := hDs53 x e; omega, by simp; omega, by omega, fun x e => by have := hDs53 x e; omega⟩, by omega, hC, .inl rfl, hN53.mono (by omega), .inr (by omega)⟩
  · refine wc_seq ?_
    refine wc_regionL ?_
    refine wl_val (ov_eql rfl rfl) rfl rfl rfl ?_
    refine wl_val (ov_assign rfl) rfl rfl rfl ?_
    refine q_nil ?_
    refine k_then ?_
    refine wc_cond_d rfl (fun hc2 => ?_) (fun hc2 => ?_)
    · refine wc_seq ?_
      refine wc_regionL ?_
      refine wl_val (ov_move rfl) rfl rfl rfl ?_
      refine wl_val (ov_move rfl) rfl rfl rfl ?_
      refine wl_step (or_call0 cl17 rfl rfl (bputall_ok _ lo g D m l p t hbuf _ _ _ _ q (OwnB.rd ho31) (by omega) (fun x e => by have := hDs x e; omega) (by omega) (by omega))) rfl rfl rfl ?_
      rintro v w205 ⟨rfl, ⟨D75, hb75, hN75⟩, hC75⟩
      have hDa75 : ∀ x, D = some x → (b0 ≤ x ∧ (x < lor ∨ hir ≤ x) ∧ x < w.heap.size) ∧ x < w4.heap.size := fun x e => ⟨hDs x e, (hbuf.lt.2 x e).2⟩
      have hz_hC75 := hC75.size
      replace hr := hC75.rd hr (by omega) (fun x e => by have := hDa75 x e; omega)
      replace hrq := hC75.rd hrq (by omega) (fun x e => by have := hDa75 x e; omega)
      replace hC := hC.tr hC75 (fun x e => by first | exact .inl e | (right; have := hDa75 x e; omega))
      replace hb_g4 := hC75.bk hb_g4 (by omega) (fun e2 => by have := hDa75 _ e2; omega)
      replace hb_g5 := hC75.bk hb_g5 (by omega) (fun e2 => by have := hDa75 _ e2; omega)
      replace hb_g7 := hC75.bk hb_g7 (by omega) (fun e2 => by have := hDa75 _ e2; omega)
      replace ho31 := hC75.own ho31 (fun x e => ⟨by have := hq_ho31 x e; omega, fun e2 => by have h1 := hq_ho31 x e; have h2 := hDa75 x e2; omega⟩)
      have hDs75 : ∀ x, D75 = some x → ((b0 ≤ x ∧ (x < lor ∨ hir ≤ x) ∧ x < w.heap.size) ∨ w4.heap.size ≤ x) ∧ x < w205.heap.size := fun x e => ⟨(hN75 x e).imp (fun h => hDs x h) id, (hb75.lt.2 x e).2⟩
      have hzb75 := hb75.lt.1
      have hcp75 := hb75.cap
      refine wl_val (ov_assign rfl) rfl rfl rfl ?_
      refine q_nil ?_
      refine k_then ?_
      refine wc_seq ?_
      refine wc_regionL ?_
      refine wl_val (ov_assign rfl) rfl rfl rfl ?_
      refine q_nil ?_
      refine k_then ?_
      refine wc_seq ?_
      refine wc_seq ?_
      refine wc_regionL ?_
      refine wl_val (ov_field0 (off := 2) fo42_2 rfl) rfl rfl rfl ?_
      refine wl_val (ov_loadAt oc26 rfl hb_g5 rfl) rfl rfl rfl ?_
      refine wl_val (ov_len Try.underlying26 rfl) rfl rfl rfl ?_
      refine wl_val (ov_field0 (off := 0) fo29_0 rfl) rfl rfl rfl ?_
      refine wl_val (ov_loadAt oc3 rfl hb_g4 rfl) rfl rfl rfl ?_
      refine wl_val (ov_field0 (off := 1) fo29_1 rfl) rfl rfl rfl ?_
      refine wl_val (ov_loadAt oc26 rfl hb_g4 rfl) rfl rfl rfl ?_
      refine wl_val (ov_len Try.underlying26 rfl) rfl rfl rfl ?_
      refine wl_val (ov_sub rfl rfl (wi64 (by omega) (by omega))) rfl rfl rfl ?_
      refine wl_val (ov_gtr rfl rfl) rfl rfl rfl ?_
      refine q_nil ?_
      refine k_then ?_
      refine wc_cond_d rfl (fun hc3 => ?_) (fun hc3 => ?_)
      · refine wc_regionL ?_
        refine wl_val (ov_assign rfl) rfl rfl rfl ?_
        refine q_nil ?_
        refine k_then ?_
        refine wc_regionL ?_
        refine wl_val (ov_move rfl) rfl rfl rfl ?_
        refine wl_val (ov_move rfl) rfl rfl rfl ?_
        refine wl_val (ov_eql rfl rfl) rfl rfl rfl ?_
        refine wl_spell (d := 95) rfl (bt (by rw [bal_full (by omega)]; rfl)) ?_
        refine wl_val (ov_assign rfl) rfl rfl rfl ?_
        refine q_nil ?_
        refine k_block ?_
        refine k_then ?_
        refine wc_seq ?_
        refine wc_seq ?_
        refine wc_regionL ?_
        refine wl_val (ov_assign rfl) rfl rfl rfl ?_
        refine q_nil ?_
        refine k_then ?_
        have hcap_9 := RdB.cap (OwnB.rd ho31)
        refine wc_block ?_
        refine wc_loop (σ := Nat × List UInt8) (fun s => q.length - s.1) (fun s => [(9, .slice A31 q.length c31), (28, .int .i64 (s.1 : Int)), (0, (.pointer (some ⟨g, 0, none⟩))), (4, (.pointer (some ⟨g4, 0, none⟩))), (6, (.pointer none)), (7, (.pointer (some ⟨g7, 0, none⟩))), (8, (.bool false)), (10, (.bool true))]) (fun s w' => OwnB w' w3.heap.size 5 A31 c31 s.2 ∧ Gr w205 w' (blk A31) ∧ s.2.length = q.length ∧ s.1 ≤ q.length) (0, q) (⟨ho31, (ext_refl _).row _, rfl, Nat.zero_le _⟩) (⟨rfl, rfl, rfl, rfl, rfl, rfl, rfl, rfl, trivial⟩) ?_
        rintro ⟨k_9, l_9⟩ w206 ⟨ho_9, hG_9, hL_9, hk_9⟩
        simp only at hL_9 hk_9
        replace ho_9 : OwnB _ _ _ _ _ l_9 := ho_9
        show WC _ _ _ _ [(9, (.slice A31 q.length c31)), (28, (.int .i64 (↑k_9 : Int))), (0, (.pointer (some ⟨g, 0, none⟩))), (4, (.pointer (some ⟨g4, 0, none⟩))), (6, (.pointer none)), (7, (.pointer (some ⟨g7, 0, none⟩))), (8, (.bool false)), (10, (.bool true))] _
        refine wc_seq ?_
        refine wc_seq ?_
        refine wc_regionL ?_
        refine wl_val (ov_move rfl) rfl rfl rfl ?_
        refine wl_val (ov_move rfl) rfl rfl rfl ?_
        refine wl_val (ov_len Try.underlying26 rfl) rfl rfl rfl ?_
        refine wl_val (ov_lss rfl rfl) rfl rfl rfl ?_
        refine q_nil ?_
        refine k_then ?_
        refine wc_cond_d rfl (fun hc11 => ?_) (fun hc11 => ?_)
        · obtain ⟨g_9, hA_9, hg1_9, hgu_9⟩ := Own.addr ho_9 (by omega)
          subst hA_9
          refine q_skip ?_
          refine k_then ?_
          refine wc_seq ?_
          refine wc_block ?_
          refine wc_regionL ?_
          refine wl_val (ov_move rfl) rfl rfl rfl ?_
          refine wl_val (ov_move rfl) rfl rfl rfl ?_
          refine wl_val (ov_oindex bt26.s rfl rfl rfl (by omega)) rfl rfl rfl ?_
          refine wl_val (ov_load oc5 rfl (OwnB.cellAt ho_9 (by omega))) rfl rfl rfl ?_
          refine wl_val (ov_add rfl rfl (wu8_succ _)) rfl rfl rfl ?_
          refine wl_val (ov_oindex bt26.s rfl rfl rfl (by omega)) rfl rfl rfl ?_
          refine wl_step0 (or_storeOwn sz5 rfl rfl ho_9 (by omega)) rfl rfl ?_
          rintro _ w207 ⟨ho2_9, hg2_9⟩
          have hz2_9 := hg2_9.size
          refine q_nil ?_
          refine k_block ?_
          refine k_then ?_
          refine wc_regionL ?_
          refine wl_val (ov_move rfl) rfl rfl rfl ?_
          refine wl_val (ov_add rfl rfl (wi64 (by omega) (by omega))) rfl rfl rfl ?_
          refine wl_val (ov_assign rfl) rfl rfl rfl ?_
          refine q_nil ?_
          refine k_loop ((k_9 + 1, l_9.set k_9 ((l_9.getD k_9 0) + 1))) (by show q.length - (k_9 + 1) < q.length - k_9; omega) (⟨rfl, rfl, rfl, rfl, rfl, rfl, rfl, rfl, trivial⟩) (⟨ho2_9, hG_9.gr hg2_9 (fun g e => .inl e), by show (List.set _ _ _).length = _; rw [List.length_set]; exact hL_9, by show k_9 + 1 ≤ _; omega⟩)
        · refine wc_spell (d := 9) rfl (v' := .slice A31 l_9.length c31) (by rw [hL_9]) ?_
          have hz_hG_9 := hG_9.size
          replace hr := hr.gr hG_9 (fun g e => by have := hq_ho31 g e; omega)
          replace hrq := hrq.gr hG_9 (fun g e => by have := hq_ho31 g e; omega)
          replace hC := hC.gr2 hG_9 (fun x e => .inr (.inr (by have := hq_ho31 x e; omega)))
          replace hb_g4 := hb_g4.gr hG_9 (fun e => by have := hq_ho31 _ e; omega)
          replace hb_g5 := hb_g5.gr hG_9 (fun e => by have := hq_ho31 _ e; omega)
          replace hb_g7 := hb_g7.gr hG_9 (fun e => by have := hq_ho31 _ e; omega)
          replace hb75 := hb75.gr hG_9 (fun x e => by have := hq_ho31 x e; omega) (fun x e e2 => by have h1 := hq_ho31 x e; have h2 := hDs75 x e2; omega)
          have hq_ho_9 := fun g e => Own.lt ho_9 (g := g) e
          refine q_exit ?_
          refine k_thenX ?_
          refine k_thenX ?_
          refine k_blockE ?_
          refine k_then ?_
          refine wc_seq ?_
          refine wc_drawA mixed ?_
          intro w207 hx45
          replace hr := hr.ext hx45
          replace hrq := hrq.ext hx45
          replace hC := hC.ext hx45
          replace hb_g4 := hb_g4.ext hx45
          replace hb_g5 := hb_g5.ext hx45
          replace hb_g7 := hb_g7.ext hx45
          replace hb75 := hb75.ext hx45
          replace ho_9 := Own.ext ho_9 hx45
          have hz_hx45 := hx45.size
          refine wa_main (BelS w207.heap.size [g7]) (bels_ext) (bels_tr) 0 5 [(200, eqv (.pointer (some ⟨g, 0, none⟩))), (201, eqv (.agg #[(.int .i64 (↑m : Int)), (.slice A l.length c), (.int .u64 (↑p : Int))])), (202, eqv (.bool true)), (6, eqv (.pointer (some ⟨g, 0, none⟩))), (207, (fun _ w => Blk w g7 29 [(.int .i64 (↑m : Int)), (.slice A l.length c), (.int .u64 (↑p : Int))]))] [[], [], [], [0], [1]] [false, false, false, false, true] [false, false, false, false, true] [true, true, true, true, true] false [(0, (.pointer (some ⟨g, 0, none⟩))), (4, (.pointer (some ⟨g4, 0, none⟩))), (7, (.pointer (some ⟨g7, 0, none⟩))), (8, (.bool false)), (10, (.bool true))] [] [] (Env.sub_get ⟨rfl, rfl, rfl, rfl, rfl, trivial⟩) trivial (by kernel_rfl) rfl ⟨stb_eqv _, stb_eqv _, stb_eqv _, stb_eqv _, (fun _ w w' hb he => hb.ext he), trivial⟩ ⟨?_, ?_, ?_, ?_, ?_, trivial⟩ ?_
          · intro wd hxE
            have hk_hxE := bels_out hxE
            obtain ⟨cs_g7, hcs_g7, hb_g7⟩ := bels_blk hxE (by simp) hb_g7
            have hz_hk_hxE := hk_hxE.size
            replace hr := hk_hxE.rd hr (by intro g hg; simp at hg; omega)
            replace hrq := hk_hxE.rd hrq (by intro g hg; simp at hg; omega)
            replace hC := hC.kp2 hk_hxE (by intro x hx; simp at hx; omega)
            replace hb_g4 := hk_hxE.bk hb_g4 (by intro hg; simp at hg; omega)
            replace hb_g5 := hk_hxE.bk hb_g5 (by intro hg; simp at hg; omega)
            replace hb75 := hb75.kp hk_hxE (by intro hg; simp at hg; omega) (fun x e hg => by simp at hg; have := hDs75 x e; omega)
            replace ho_9 := hk_hxE.own ho_9 (by intro g e hg; simp at hg; have := hq_ho_9 g e; omega)
            show OpG _ _ _ _ _ _
            exact og_plain rfl (ox_val (ov_move rfl))
          · intro wd hxE
            have hk_hxE := bels_out hxE
            obtain ⟨cs_g7, hcs_g7, hb_g7⟩ := bels_blk hxE (by simp) hb_g7
            have hz_hk_hxE := hk_hxE.size
            replace hr := hk_hxE.rd hr (by intro g hg; simp at hg; omega)
            replace hrq := hk_hxE.rd hrq (by intro g hg; simp at hg; omega)
            replace hC := hC.kp2 hk_hxE (by intro x hx; simp at hx; omega)
            replace hb_g4 := hk_hxE.bk hb_g4 (by intro hg; simp at hg; omega)
            replace hb_g5 := hk_hxE.bk hb_g5 (by intro hg; simp at hg; omega)
            replace hb75 := hb75.kp hk_hxE (by intro hg; simp at hg; omega) (fun x e hg => by simp at hg; have := hDs75 x e; omega)
            replace ho_9 := hk_hxE.own ho_9 (by intro g e hg; simp at hg; have := hq_ho_9 g e; omega)
            show OpG _ _ _ _ _ _
            exact og_plain rfl (ox_val (ov_loadBlk (cs := [(.int .i64 (↑m : Int)), (.slice A l.length c), (.int .u64 (↑p : Int))]) ag29_3 rfl hb_g4))
          · intro wd hxE
            have hk_hxE := bels_out hxE
            obtain ⟨cs_g7, hcs_g7, hb_g7⟩ := bels_blk hxE (by simp) hb_g7
            have hz_hk_hxE := hk_hxE.size
            replace hr := hk_hxE.rd hr (by intro g hg; simp at hg; omega)
            replace hrq := hk_hxE.rd hrq (by intro g hg; simp at hg; omega)
            replace hC := hC.kp2 hk_hxE (by intro x hx; simp at hx; omega)
            replace hb_g4 := hk_hxE.bk hb_g4 (by intro hg; simp at hg; omega)
            replace hb_g5 := hk_hxE.bk hb_g5 (by intro hg; simp at hg; omega)
            replace hb75 := hb75.kp hk_hxE (by intro hg; simp at hg; omega) (fun x e hg => by simp at hg; have := hDs75 x e; omega)
            replace ho_9 := hk_hxE.own ho_9 (by intro g e hg; simp at hg; have := hq_ho_9 g e; omega)
            show OpG _ _ _ _ _ _
            exact og_plain rfl (ox_val (ov_move rfl))
          · intro wd hxE
            have hk_hxE := bels_out hxE
            obtain ⟨cs_g7, hcs_g7, hb_g7⟩ := bels_blk hxE (by simp) hb_g7
            have hz_hk_hxE := hk_hxE.size
            replace hr := hk_hxE.rd hr (by intro g hg; simp at hg; omega)
            replace hrq := hk_hxE.rd hrq (by intro g hg; simp at hg; omega)
            replace hC := hC.kp2 hk_hxE (by intro x hx; simp at hx; omega)
            replace hb_g4 := hk_hxE.bk hb_g4 (by intro hg; simp at hg; omega)
            replace hb_g5 := hk_hxE.bk hb_g5 (by intro hg; simp at hg; omega)
            replace hb75 := hb75.kp hk_hxE (by intro hg; simp at hg; omega) (fun x e hg => by simp at hg; have := hDs75 x e; omega)
            replace ho_9 := hk_hxE.own ho_9 (by intro g e hg; simp at hg; have := hq_ho_9 g e; omega)
            rintro _ rfl
            show OpG _ _ _ _ _ _
            exact og_plain rfl (ox_val (ov_assign rfl))
          · intro wd hxE
            have hk_hxE := bels_out hxE
            obtain ⟨cs_g7, hcs_g7, hb_g7⟩ := bels_blk hxE (by simp) hb_g7
            have hz_hk_hxE := hk_hxE.size
            replace hr := hk_hxE.rd hr (by intro g hg; simp at hg; omega)
            replace hrq := hk_hxE.rd hrq (by intro g hg; simp at hg; omega)
            replace hC := hC.kp2 hk_hxE (by intro x hx; simp at hx; omega)
            replace hb_g4 := hk_hxE.bk hb_g4 (by intro hg; simp at hg; omega)
            replace hb_g5 := hk_hxE.bk hb_g5 (by intro hg; simp at hg; omega)
            replace hb75 := hb75.kp hk_hxE (by intro hg; simp at hg; omega) (fun x e hg => by simp at hg; have := hDs75 x e; omega)
            replace ho_9 := hk_hxE.own ho_9 (by intro g e hg; simp at hg; have := hq_ho_9 g e; omega)
            rintro _ rfl
            show OpG _ _ _ _ _ _
            have hb0 := hb_g7
            refine og_plain rfl (OpRun.mono (or_storeBlk (vs := [(.int .i64 (↑m : Int)), (.slice A l.length c), (.int .u64 (↑p : Int))]) sz29 rfl rfl (by simp [Value.oneCell']) hb_g7 hcs_g7) ?_)
            rintro _ w208 ⟨hN208, hg208⟩
            have hz_hg208 := hg208.size
            replace hr := hr.gr hg208 (fun _ e => by cases e; omega)
            replace hrq := hrq.gr hg208 (fun _ e => by cases e; omega)
            replace hC := hC.gr2 hg208 (fun x e => by cases e; first | exact .inl rfl | (right; right; omega))
            replace hb_g4 := hb_g4.gr hg208 (by intro e; cases e; omega)
            replace hb_g5 := hb_g5.gr hg208 (by intro e; cases e; omega)
            replace hb75 := hb75.gr hg208 (fun x e => by cases e; omega) (fun x e e2 => by cases e; have := hDs75 _ e2; omega)
            replace ho_9 := Own.gr ho_9 hg208 (by first | exact .inl rfl | (right; intro e; first | (have := hq_ho_9 _ e; omega) | (have := Own.lt ho_9 e; omega) | exact own_blk_ne ho_9 hb_g7 (by decide) e))
            replace hb_g7 := hN208
            exact ⟨hb_g7, bels_store hg208 (by simp) hb0 hb_g7 hcs_g7⟩
          · intro wf45 hf45
            have hk_hf45 := bels_out hf45
            obtain ⟨cs_g7, hcs_g7, hb_g7⟩ := bels_blk hf45 (by simp) hb_g7
            have hz_hk_hf45 := hk_hf45.size
            replace hr := hk_hf45.rd hr (by intro g hg; simp at hg; omega)
            replace hrq := hk_hf45.rd hrq (by intro g hg; simp at hg; omega)
            replace hC := hC.kp2 hk_hf45 (by intro x hx; simp at hx; omega)
            replace hb_g4 := hk_hf45.bk hb_g4 (by intro hg; simp at hg; omega)
            replace hb_g5 := hk_hf45.bk hb_g5 (by intro hg; simp at hg; omega)
            replace hb75 := hb75.kp hk_hf45 (by intro hg; simp at hg; omega) (fun x e hg => by simp at hg; have := hDs75 x e; omega)
            replace ho_9 := hk_hf45.own ho_9 (by intro g e hg; simp at hg; have := hq_ho_9 g e; omega)
            rintro _ rfl
            rintro _ rfl
            rintro _ rfl
            rintro _ rfl
            rintro _ hb_g7
            refine wa_tail (by kernel_rfl) ?_
            show WL _ _ _ [_] _ _ _
            refine wl_val (ov_assign rfl) rfl rfl rfl ?_
            refine q_nil ?_
            refine k_then ?_
            refine q_ret ?_
            refine e_retL (rs := [.tmp 6, .cell 7 29, .tmp 8]) (vs := [(.pointer (some ⟨g, 0, none⟩)), .agg #[(.int .i64 (↑m : Int)), (.slice A l.length c), (.int .u64 (↑p : Int))], (.bool true)]) rfl ⟨rfl, ⟨_, _, [(.int .i64 (↑m : Int)), (.slice A l.length c), (.int .u64 (↑p : Int))], rfl, ag29_3, hb_g7, rfl⟩, rfl, trivial⟩ ?_
            rw [bal_full (by omega)] at hb75
            exact ⟨_, _, _, g, _, _, _, _, _, _, rfl, ⟨hb75, hr, by omega, by omega, by omega, fun x e => by have := hDs75 x e; omega, by omega, by omega, fun x e => by have := hDs75 x e; omega⟩, by omega, hC, .inl rfl, hN75.mono (by omega), .inl ⟨rfl, rfl⟩⟩
      · refine wc_regionL ?_
        refine wl_val (ov_loadBlk (cs := [(.int .i64 (↑m : Int)), (.slice A l.length c), (.int .u64 (↑p : Int))]) ag29_3 rfl hb_g4) rfl rfl rfl ?_
        refine wl_val (ov_field0 (off := 2) fo42_2 rfl) rfl rfl rfl ?_
        refine wl_val (ov_loadAt oc26 rfl hb_g5 rfl) rfl rfl rfl ?_
        refine wl_step (or_call0 cl56 rfl rfl (radd_any _ _ _ (m) _ _ l (p) hr (by omega) (by omega) _ _ _ _ q hrq (by omega))) rfl rfl rfl ?_
        rintro v w206 ⟨A90, c90, rfl, ho90, he90⟩
        replace hr := hr.ext he90
        replace hrq := hrq.ext he90
        replace hC := hC.ext he90
        replace hb_g4 := hb_g4.ext he90
        replace hb_g5 := hb_g5.ext he90
        replace hb_g7 := hb_g7.ext he90
        replace ho31 := Own.ext ho31 he90
        replace hb75 := hb75.ext he90
        have hz_he90 := he90.size
        have hq_ho90 := fun g e => Own.lt ho90 (g := g) e
        refine wl_val (ov_move rfl) rfl rfl rfl ?_
        refine wl_val (ov_extract rfl rfl) rfl rfl rfl ?_
        refine wl_val (ov_extract rfl rfl) rfl rfl rfl ?_
        refine wl_step0 (or_storeBlk (vs := [(.int .i64 (↑m : Int)), (.slice A90 (l ++ q.take (min q.length ((m) - l.length))).length c90), (.int .u64 (((p) + (min q.length ((m) - l.length)) : Nat) : Int))]) sz29 rfl rfl (by simp [Value.oneCell']) hb_g4 rfl) rfl rfl ?_
        rintro _ w207 ⟨hN207, hg207⟩
        have hz_hg207 := hg207.size
        replace hr := hr.gr hg207 (fun _ e => by cases e; omega)
        replace hrq := hrq.gr hg207 (fun _ e => by cases e; omega)
        replace hC := hC.gr2 hg207 (fun x e => by cases e; first | exact .inl rfl | (right; right; omega))
        replace hb_g5 := hb_g5.gr hg207 (by intro e; cases e; omega)
        replace hb_g7 := hb_g7.gr hg207 (by intro e; cases e; omega)
        replace ho31 := Own.gr ho31 hg207 (by first | exact .inl rfl | (right; intro e; first | (have := hq_ho31 _ e; omega) | (have := Own.lt ho31 e; omega) | exact own_blk_ne ho31 hb_g4 (by decide) e))
        replace hb75 := hb75.gr hg207 (fun x e => by cases e; omega) (fun x e e2 => by cases e; have := hDs75 _ e2; omega)
        replace ho90 := Own.gr ho90 hg207 (by first | exact .inl rfl | (right; intro e; first | (have := hq_ho90 _ e; omega) | (have := Own.lt ho90 e; omega) | exact own_blk_ne ho90 hb_g4 (by decide) e))
        replace hb_g4 := hN207
        refine q_nil ?_
        refine k_then ?_
        refine wc_regionL ?_
        refine wl_val (ov_move rfl) rfl rfl rfl ?_
        refine wl_val (ov_move rfl) rfl rfl rfl ?_
        refine wl_val (ov_eql rfl rfl) rfl rfl rfl ?_
        refine wl_spell (d := 95) rfl (bt (by rw [bal_ok (by omega)]; rfl)) ?_
        refine wl_val (ov_assign rfl) rfl rfl rfl ?_
        refine q_nil ?_
        refine k_block ?_
        refine k_then ?_
        refine wc_seq ?_
        refine wc_seq ?_
        refine wc_regionL ?_
        refine wl_val (ov_assign rfl) rfl rfl rfl ?_
        refine q_nil ?_
        refine k_then ?_
        have hcap_9 := RdB.cap (OwnB.rd ho31)
        refine wc_block ?_
        refine wc_loop (σ := Nat × List UInt8) (fun s => q.length - s.1) (fun s => [(9, .slice A31 q.length c31), (28, .int .i64 (s.1 : Int)), (0, (.pointer (some ⟨g, 0, none⟩))), (4, (.pointer (some ⟨g4, 0, none⟩))), (6, (.pointer none)), (7, (.pointer (some ⟨g7, 0, none⟩))), (8, (.bool false)), (10, (.bool true))]) (fun s w' => OwnB w' w3.heap.size 5 A31 c31 s.2 ∧ Gr w207 w' (blk A31) ∧ s.2.length = q.length ∧ s.1 ≤ q.length) (0, q) (⟨ho31, (ext_refl _).row _, rfl, Nat.zero_le _⟩) (⟨rfl, rfl, rfl, rfl, rfl, rfl, rfl, rfl, trivial⟩) ?_
        rintro ⟨k_9, l_9⟩ w208 ⟨ho_9, hG_9, hL_9, hk_9⟩
        simp only at hL_9 hk_9
        replace ho_9 : OwnB _ _ _ _ _ l_9 := ho_9
        show WC _ _ _ _ [(9, (.slice A31 q.length c31)), (28, (.int .i64 (↑k_9 : Int))), (0, (.pointer (some ⟨g, 0, none⟩))), (4, (.pointer (some ⟨g4, 0, none⟩))), (6, (.pointer none)), (7, (.pointer (some ⟨g7, 0, none⟩))), (8, (.bool false)), (10, (.bool true))] _
        refine wc_seq ?_
        refine wc_seq ?_
        refine wc_regionL ?_
        refine wl_val (ov_move rfl) rfl rfl rfl ?_
        refine wl_val (ov_move rfl) rfl rfl rfl ?_
        refine wl_val (ov_len Try.underlying26 rfl) rfl rfl rfl ?_
        refine wl_val (ov_lss rfl rfl) rfl rfl rfl ?_
        refine q_nil ?_
        refine k_then ?_
        refine wc_cond_d rfl (fun hc11 => ?_) (fun hc11 => ?_)
        · obtain ⟨g_9, hA_9, hg1_9, hgu_9⟩ := Own.addr ho_9 (by omega)
          subst hA_9
          refine q_skip ?_
          refine k_then ?_
          refine wc_seq ?_
          refine wc_block ?_
          refine wc_regionL ?_
          refine wl_val (ov_move rfl) rfl rfl rfl ?_
          refine wl_val (ov_move rfl) rfl rfl rfl ?_
          refine wl_val (ov_oindex bt26.s rfl rfl rfl (by omega)) rfl rfl rfl ?_
          refine wl_val (ov_load oc5 rfl (OwnB.cellAt ho_9 (by omega))) rfl rfl rfl ?_
          refine wl_val (ov_add rfl rfl (wu8_succ _)) rfl rfl rfl ?_
          refine wl_val (ov_oindex bt26.s rfl rfl rfl (by omega)) rfl rfl rfl ?_
          refine wl_step0 (or_storeOwn sz5 rfl rfl ho_9 (by omega)) rfl rfl ?_
          rintro _ w209 ⟨ho2_9, hg2_9⟩
          have hz2_9 := hg2_9.size
          refine q_nil ?_
          refine k_block ?_
          refine k_then ?_
          refine wc_regionL ?_
          refine wl_val (ov_move rfl) rfl rfl rfl ?_
          refine wl_val (ov_add rfl rfl (wi64 (by omega) (by omega))) rfl rfl rfl ?_
          refine wl_val (ov_assign rfl) rfl rfl rfl ?_
          refine q_nil ?_
          refine k_loop ((k_9 + 1, l_9.set k_9 ((l_9.getD k_9 0) + 1))) (by show q.length - (k_9 + 1) < q.length - k_9; omega) (⟨rfl, rfl, rfl, rfl, rfl, rfl, rfl, rfl, trivial⟩) (⟨ho2_9, hG_9.gr hg2_9 (fun g e => .inl e), by show (List.set _ _ _).length = _; rw [List.length_set]; exact hL_9, by show k_9 + 1 ≤ _; omega⟩)
        · refine wc_spell (d := 9) rfl (v' := .slice A31 l_9.length c31) (by rw [hL_9]) ?_
          have hz_hG_9 := hG_9.size
          replace hr := hr.gr hG_9 (fun g e => by have := hq_ho31 g e; omega)
          replace hrq := hrq.gr hG_9 (fun g e => by have := hq_ho31 g e; omega)
          replace hC := hC.gr2 hG_9 (fun x e => .inr (.inr (by have := hq_ho31 x e; omega)))
          replace hb_g4 := hb_g4.gr hG_9 (fun e => by have := hq_ho31 _ e; omega)
          replace hb_g5 := hb_g5.gr hG_9 (fun e => by have := hq_ho31 _ e; omega)
          replace hb_g7 := hb_g7.gr hG_9 (fun e => by have := hq_ho31 _ e; omega)
          replace hb75 := hb75.gr hG_9 (fun x e => by have := hq_ho31 x e; omega) (fun x e e2 => by have h1 := hq_ho31 x e; have h2 := hDs75 x e2; omega)
          replace ho90 := Own.gr ho90 hG_9 (own_apart fun g e g2 e2 => by have := hq_ho90 g e; have := hq_ho31 g2 e2; omega)
          have hq_ho_9 := fun g e => Own.lt ho_9 (g := g) e
          refine q_exit ?_
          refine k_thenX ?_
          refine k_thenX ?_
          refine k_blockE ?_
          refine k_then ?_
          refine wc_seq ?_
          refine wc_drawA mixed ?_
          intro w209 hx45
          replace hr := hr.ext hx45
          replace hrq := hrq.ext hx45
          replace hC := hC.ext hx45
          replace hb_g4 := hb_g4.ext hx45
          replace hb_g5 := hb_g5.ext hx45
          replace hb_g7 := hb_g7.ext hx45
          replace hb75 := hb75.ext hx45
          replace ho90 := Own.ext ho90 hx45
          replace ho_9 := Own.ext ho_9 hx45
          have hz_hx45 := hx45.size
          refine wa_main (BelS w209.heap.size [g7]) (bels_ext) (bels_tr) 0 5 [(200, eqv (.pointer (some ⟨g, 0, none⟩))), (201, eqv (.agg #[(.int .i64 (↑m : Int)), (.slice A90 (l ++ q.take (min q.length ((m) - l.length))).length c90), (.int .u64 (((p) + (min q.length ((m) - l.length)) : Nat) : Int))])), (202, eqv (.bool true)), (6, eqv (.pointer (some ⟨g, 0, none⟩))), (207, (fun _ w => Blk w g7 29 [(.int .i64 (↑m : Int)), (.slice A90 (l ++ q.take (min q.length ((m) - l.length))).length c90), (.int .u64 (((p) + (min q.length ((m) - l.length)) : Nat) : Int))]))] [[], [], [], [0], [1]] [false, false, false, false, true] [false, false, false, false, true] [true, true, true, true, true] false [(0, (.pointer (some ⟨g, 0, none⟩))), (4, (.pointer (some ⟨g4, 0, none⟩))), (7, (.pointer (some ⟨g7, 0, none⟩))), (8, (.bool false)), (10, (.bool true))] [] [] (Env.sub_get ⟨rfl, rfl, rfl, rfl, rfl, trivial⟩) trivial (by kernel_rfl) rfl ⟨stb_eqv _, stb_eqv _, stb_eqv _, stb_eqv _, (fun _ w w' hb he => hb.ext he), trivial⟩ ⟨?_, ?_, ?_, ?_, ?_, trivial⟩ ?_
          · intro wd hxE
            have hk_hxE := bels_out hxE
            obtain ⟨cs_g7, hcs_g7, hb_g7⟩ := bels_blk hxE (by simp) hb_g7
            have hz_hk_hxE := hk_hxE.size
            replace hr := hk_hxE.rd hr (by intro g hg; simp at hg; omega)
            replace hrq := hk_hxE.rd hrq (by intro g hg; simp at hg; omega)
            replace hC := hC.kp2 hk_hxE (by intro x hx; simp at hx; omega)
            replace hb_g4 := hk_hxE.bk hb_g4 (by intro hg; simp at hg; omega)
            replace hb_g5 := hk_hxE.bk hb_g5 (by intro hg; simp at hg; omega)
            replace hb75 := hb75.kp hk_hxE (by intro hg; simp at hg; omega) (fun x e hg => by simp at hg; have := hDs75 x e; omega)
            replace ho90 := hk_hxE.own ho90 (by intro g e hg; simp at hg; have := hq_ho90 g e; omega)
            replace ho_9 := hk_hxE.own ho_9 (by intro g e hg; simp at hg; have := hq_ho_9 g e; omega)
            show OpG _ _ _ _ _ _
            exact og_plain rfl (ox_val (ov_move rfl))
          · intro wd hxE
            have hk_hxE := bels_out hxE
            obtain ⟨cs_g7, hcs_g7, hb_g7⟩ := bels_blk hxE (by simp) hb_g7
            have hz_hk_hxE := hk_hxE.size
            replace hr := hk_hxE.rd hr (by intro g hg; simp at hg; omega)
            replace hrq := hk_hxE.rd hrq (by intro g hg; simp at hg; omega)
            replace hC := hC.kp2 hk_hxE (by intro x hx; simp at hx; omega)
            replace hb_g4 := hk_hxE.bk hb_g4 (by intro hg; simp at hg; omega)
            replace hb_g5 := hk_hxE.bk hb_g5 (by intro hg; simp at hg; omega)
            replace hb75 := hb75.kp hk_hxE (by intro hg; simp at hg; omega) (fun x e hg => by simp at hg; have := hDs75 x e; omega)
            replace ho90 := hk_hxE.own ho90 (by intro g e hg; simp at hg; have := hq_ho90 g e; omega)
            replace ho_9 := hk_hxE.own ho_9 (by intro g e hg; simp at hg; have := hq_ho_9 g e; omega)
            show OpG _ _ _ _ _ _
            exact og_plain rfl (ox_val (ov_loadBlk (cs := [(.int .i64 (↑m : Int)), (.slice A90 (l ++ q.take (min q.length ((m) - l.length))).length c90), (.int .u64 (((p) + (min q.length ((m) - l.length)) : Nat) : Int))]) ag29_3 rfl hb_g4))
          · intro wd hxE
            have hk_hxE := bels_out hxE
            obtain ⟨cs_g7, hcs_g7, hb_g7⟩ := bels_blk hxE (by simp) hb_g7
            have hz_hk_hxE := hk_hxE.size
            replace hr := hk_hxE.rd hr (by intro g hg; simp at hg; omega)
            replace hrq := hk_hxE.rd hrq (by intro g hg; simp at hg; omega)
            replace hC := hC.kp2 hk_hxE (by intro x hx; simp at hx; omega)
            replace hb_g4 := hk_hxE.bk hb_g4 (by intro hg; simp at hg; omega)
            replace hb_g5 := hk_hxE.bk hb_g5 (by intro hg; simp at hg; omega)
            replace hb75 := hb75.kp hk_hxE (by intro hg; simp at hg; omega) (fun x e hg => by simp at hg; have := hDs75 x e; omega)
            replace ho90 := hk_hxE.own ho90 (by intro g e hg; simp at hg; have := hq_ho90 g e; omega)
            replace ho_9 := hk_hxE.own ho_9 (by intro g e hg; simp at hg; have := hq_ho_9 g e; omega)
            show OpG _ _ _ _ _ _
            exact og_plain rfl (ox_val (ov_move rfl))
          · intro wd hxE
            have hk_hxE := bels_out hxE
            obtain ⟨cs_g7, hcs_g7, hb_g7⟩ := bels_blk hxE (by simp) hb_g7
            have hz_hk_hxE := hk_hxE.size
            replace hr := hk_hxE.rd hr (by intro g hg; simp at hg; omega)
            replace hrq := hk_hxE.rd hrq (by intro g hg; simp at hg; omega)
            replace hC := hC.kp2 hk_hxE (by intro x hx; simp at hx; omega)
            replace hb_g4 := hk_hxE.bk hb_g4 (by intro hg; simp at hg; omega)
            replace hb_g5 := hk_hxE.bk hb_g5 (by intro hg; simp at hg; omega)
            replace hb75 := hb75.kp hk_hxE (by intro hg; simp at hg; omega) (fun x e hg => by simp at hg; have := hDs75 x e; omega)
            replace ho90 := hk_hxE.own ho90 (by intro g e hg; simp at hg; have := hq_ho90 g e; omega)
            replace ho_9 := hk_hxE.own ho_9 (by intro g e hg; simp at hg; have := hq_ho_9 g e; omega)
            rintro _ rfl
            show OpG _ _ _ _ _ _
            exact og_plain rfl (ox_val (ov_assign rfl))
          · intro wd hxE
            have hk_hxE := bels_out hxE
            obtain ⟨cs_g7, hcs_g7, hb_g7⟩ := bels_blk hxE (by simp) hb_g7
            have hz_hk_hxE := hk_hxE.size
            replace hr := hk_hxE.rd hr (by intro g hg; simp at hg; omega)
            replace hrq := hk_hxE.rd hrq (by intro g hg; simp at hg; omega)
            replace hC := hC.kp2 hk_hxE (by intro x hx; simp at hx; omega)
            replace hb_g4 := hk_hxE.bk hb_g4 (by intro hg; simp at hg; omega)
            replace hb_g5 := hk_hxE.bk hb_g5 (by intro hg; simp at hg; omega)
            replace hb75 := hb75.kp hk_hxE (by intro hg; simp at hg; omega) (fun x e hg => by simp at hg; have := hDs75 x e; omega)
            replace ho90 := hk_hxE.own ho90 (by intro g e hg; simp at hg; have := hq_ho90 g e; omega)
            replace ho_9 := hk_hxE.own ho_9 (by intro g e hg; simp at hg; have := hq_ho_9 g e; omega)
            rintro _ rfl
            show OpG _ _ _ _ _ _
            have hb0 := hb_g7
            refine og_plain rfl (OpRun.mono (or_storeBlk (vs := [(.int .i64 (↑m : Int)), (.slice A90 (l ++ q.take (min q.length ((m) - l.length))).length c90), (.int .u64 (((p) + (min q.length ((m) - l.length)) : Nat) : Int))]) sz29 rfl rfl (by simp [Value.oneCell']) hb_g7 hcs_g7) ?_)
            rintro _ w210 ⟨hN210, hg210⟩
            have hz_hg210 := hg210.size
            replace hr := hr.gr hg210 (fun _ e => by cases e; omega)
            replace hrq := hrq.gr hg210 (fun _ e => by cases e; omega)
            replace hC := hC.gr2 hg210 (fun x e => by cases e; first | exact .inl rfl | (right; right; omega))
            replace hb_g4 := hb_g4.gr hg210 (by intro e; cases e; omega)
            replace hb_g5 := hb_g5.gr hg210 (by intro e; cases e; omega)
            replace hb75 := hb75.gr hg210 (fun x e => by cases e; omega) (fun x e e2 => by cases e; have := hDs75 _ e2; omega)
            replace ho90 := Own.gr ho90 hg210 (by first | exact .inl rfl | (right; intro e; first | (have := hq_ho90 _ e; omega) | (have := Own.lt ho90 e; omega) | exact own_blk_ne ho90 hb_g7 (by decide) e))
            replace ho_9 := Own.gr ho_9 hg210 (by first | exact .inl rfl | (right; intro e; first | (have := hq_ho_9 _ e; omega) | (have := Own.lt ho_9 e; omega) | exact own_blk_ne ho_9 hb_g7 (by decide) e))
            replace hb_g7 := hN210
            exact ⟨hb_g7, bels_store hg210 (by simp) hb0 hb_g7 hcs_g7⟩
          · intro wf45 hf45
            have hk_hf45 := bels_out hf45
            obtain ⟨cs_g7, hcs_g7, hb_g7⟩ := bels_blk hf45 (by simp) hb_g7
            have hz_hk_hf45 := hk_hf45.size
            replace hr := hk_hf45.rd hr (by intro g hg; simp at hg; omega)
            replace hrq := hk_hf45.rd hrq (by intro g hg; simp at hg; omega)
            replace hC := hC.kp2 hk_hf45 (by intro x hx; simp at hx; omega)
            replace hb_g4 := hk_hf45.bk hb_g4 (by intro hg; simp at hg; omega)
            replace hb_g5 := hk_hf45.bk hb_g5 (by intro hg; simp at hg; omega)
            replace hb75 := hb75.kp hk_hf45 (by intro hg; simp at hg; omega) (fun x e hg => by simp at hg; have := hDs75 x e; omega)
            replace ho90 := hk_hf45.own ho90 (by intro g e hg; simp at hg; have := hq_ho90 g e; omega)
            replace ho_9 := hk_hf45.own ho_9 (by intro g e hg; simp at hg; have := hq_ho_9 g e; omega)
            rintro _ rfl
            rintro _ rfl
            rintro _ rfl
            rintro _ rfl
            rintro _ hb_g7
            refine wa_tail (by kernel_rfl) ?_
            show WL _ _ _ [_] _ _ _
            refine wl_val (ov_assign rfl) rfl rfl rfl ?_
            refine q_nil ?_
            refine k_then ?_
            refine q_ret ?_
            refine e_retL (rs := [.tmp 6, .cell 7 29, .tmp 8]) (vs := [(.pointer (some ⟨g, 0, none⟩)), .agg #[(.int .i64 (↑m : Int)), (.slice A90 (l ++ q.take (min q.length ((m) - l.length))).length c90), (.int .u64 (((p) + (min q.length ((m) - l.length)) : Nat) : Int))], (.bool true)]) rfl ⟨rfl, ⟨_, _, [(.int .i64 (↑m : Int)), (.slice A90 (l ++ q.take (min q.length ((m) - l.length))).length c90), (.int .u64 (((p) + (min q.length ((m) - l.length)) : Nat) : Int))], rfl, ag29_3, hb_g7, rfl⟩, rfl, trivial⟩ ?_
            rw [bal_ok (by omega)] at hb75
            have hmin : min q.length (m - l.length) = q.length := by omega
            have htk : q.take q.length = q := List.take_of_length_le (Nat.le_refl _)
            exact ⟨_, _, _, g, _, _, _, _, _, _, rfl, ⟨by rw [hmin, htk]; exact hb75, (OwnB.rd ho90), Nat.le_refl _, by omega, by omega, fun x e => by have := hDs75 x e; omega, by simp; omega, by omega, fun x e => by have := hDs75 x e; omega⟩, by omega, hC, .inl rfl, hN75.mono (by omega), .inr (by omega)⟩
    · refine wc_seq ?_
      refine wc_seq ?_
      refine wc_regionL ?_
      refine wl_val (ov_eql rfl rfl) rfl rfl rfl ?_
      refine wl_val (ov_assign rfl) rfl rfl rfl ?_
      refine q_nil ?_
      refine k_then ?_
      refine wc_cond_d rfl (fun hc4 => ?_) (fun hc4 => ?_)
      · by_cases hn : a2 < 0
        · refine q_skip ?_
          refine k_then ?_
          refine wc_cond_T rfl (decide_eq_true (hc4)) ?_
          refine wc_seq ?_
          refine wc_regionL ?_
          refine wl_val (ov_loadBlk (cs := [(.int .i64 (↑m : Int)), (.slice A l.length c), (.int .u64 (↑p : Int))]) ag29_3 rfl hb_g4) rfl rfl rfl ?_
          refine wl_val (ov_field0 (off := 1) fo42_1 rfl) rfl rfl rfl ?_
          refine wl_val (ov_loadAt oc3 rfl hb_g5 rfl) rfl rfl rfl ?_
          refine wl_step (or_call0 cl57 rfl rfl (rtake_neg _ _ _ (m) _ _ l (p) hr (by omega) (by omega) a2 (by omega))) rfl rfl rfl ?_
          rintro v w205 ⟨rfl, he103⟩
          replace hbuf := hbuf.ext he103
          replace hr := hr.ext he103
          replace hrq := hrq.ext he103
          replace hC := hC.ext he103
          replace hb_g4 := hb_g4.ext he103
          replace hb_g5 := hb_g5.ext he103
          replace hb_g7 := hb_g7.ext he103
          replace ho31 := Own.ext ho31 he103
          have hz_he103 := he103.size
          refine wl_val (ov_move rfl) rfl rfl rfl ?_
          refine wl_val (ov_extract rfl rfl) rfl rfl rfl ?_
          refine wl_val (ov_extract rfl rfl) rfl rfl rfl ?_
          refine wl_val (ov_extract rfl rfl) rfl rfl rfl ?_
          refine wl_step (or_alloc (cs := [(.int .i64 0), (.slice none 0 0), (.int .u64 0)]) ze29 rfl) rfl rfl rfl ?_
          rintro v w206 ⟨g17, rfl, hb_g17, he17, hl17, hu17⟩
          replace hbuf := hbuf.ext he17
          replace hr := hr.ext he17
          replace hrq := hrq.ext he17
          replace hC := hC.ext he17
          replace hb_g4 := hb_g4.ext he17
          replace hb_g5 := hb_g5.ext he17
          replace hb_g7 := hb_g7.ext he17
          replace ho31 := Own.ext ho31 he17
          have hz_he17 := he17.size
          refine wl_step0 (or_storeBlk (vs := [(.int .i64 (↑m : Int)), (.slice A l.length c), (.int .u64 (↑p : Int))]) sz29 rfl rfl (by simp [Value.oneCell']) hb_g17 rfl) rfl rfl ?_
          rintro _ w207 ⟨hN207, hg207⟩
          have hz_hg207 := hg207.size
          replace hbuf := hbuf.gr hg207 (fun x e => by cases e; omega) (fun x e e2 => by cases e; have := hDs _ e2; omega)
          replace hr := hr.gr hg207 (fun _ e => by cases e; omega)
          replace hrq := hrq.gr hg207 (fun _ e => by cases e; omega)
          replace hC := hC.gr2 hg207 (fun x e => by cases e; first | exact .inl rfl | (right; right; omega))
          replace hb_g4 := hb_g4.gr hg207 (by intro e; cases e; omega)
          replace hb_g5 := hb_g5.gr hg207 (by intro e; cases e; omega)
          replace hb_g7 := hb_g7.gr hg207 (by intro e; cases e; omega)
          replace ho31 := Own.gr ho31 hg207 (by first | exact .inl rfl | (right; intro e; first | (have := hq_ho31 _ e; omega) | (have := Own.lt ho31 e; omega) | exact own_blk_ne ho31 hb_g17 (by decide) e))
          replace hb_g17 := hN207
          refine wl_val (ov_assign rfl) rfl rfl rfl ?_
          refine wl_val (ov_assign rfl) rfl rfl rfl ?_
          refine q_nil ?_
          refine k_then ?_
          refine wc_seq ?_
          refine wc_regionL ?_
          refine wl_val (ov_assign rfl) rfl rfl rfl ?_
          refine q_nil ?_
          refine k_then ?_
          refine wc_seq ?_
          refine wc_seq ?_
          refine wc_regionL ?_
          refine wl_val (ov_field0 (off := 0) fo42_0 rfl) rfl rfl rfl ?_
          refine wl_val (ov_loadAt oc3 rfl hb_g5 rfl) rfl rfl rfl ?_
          refine wl_val (ov_eql rfl rfl) rfl rfl rfl ?_
          refine q_nil ?_
          refine k_then ?_
          refine wc_cond_T rfl (decide_eq_true (hc4)) ?_
          refine wc_seq ?_
          refine wc_regionL ?_
          refine wl_val (ov_move rfl) rfl rfl rfl ?_
          refine wl_val (ov_field0 (off := 1) fo42_1 rfl) rfl rfl rfl ?_
          refine wl_val (ov_loadAt oc3 rfl hb_g5 rfl) rfl rfl rfl ?_
          refine wl_step (or_call0 cl22 rfl rfl (btake_ok _ lo g D m l p t hbuf a2 (by omega) (by omega) (by omega) (by omega))) rfl rfl rfl ?_
          rintro v w208 ⟨A114, c114, rfl, ho114, hb114, hC114⟩
          have hDa114 : ∀ x, D = some x → (b0 ≤ x ∧ (x < lor ∨ hir ≤ x) ∧ x < w.heap.size) ∧ x < w207.heap.size := fun x e => ⟨hDs x e, (hbuf.lt.2 x e).2⟩
          have hz_hC114 := hC114.size
          replace hr := hC114.rd hr (by omega) (fun x e => by have := hDa114 x e; omega)
          replace hrq := hC114.rd hrq (by omega) (fun x e => by have := hDa114 x e; omega)
          replace hC := hC.tr hC114 (fun x e => by first | exact .inl e | (right; have := hDa114 x e; omega))
          replace hb_g4 := hC114.bk hb_g4 (by omega) (fun e2 => by have := hDa114 _ e2; omega)
          replace hb_g5 := hC114.bk hb_g5 (by omega) (fun e2 => by have := hDa114 _ e2; omega)
          replace hb_g7 := hC114.bk hb_g7 (by omega) (fun e2 => by have := hDa114 _ e2; omega)
          replace ho31 := hC114.own ho31 (fun x e => ⟨by have := hq_ho31 x e; omega, fun e2 => by have h1 := hq_ho31 x e; have h2 := hDa114 x e2; omega⟩)
          replace hb_g17 := hC114.bk hb_g17 (by omega) (fun e2 => by have := hDa114 _ e2; omega)
          have hzb114 := hb114.lt.1
          have hcp114 := hb114.cap
          have hq_ho114 := fun g e => Own.lt ho114 (g := g) e
          refine wl_val (ov_move rfl) rfl rfl rfl ?_
          refine wl_val (ov_extract rfl rfl) rfl rfl rfl ?_
          refine wl_val (ov_extract rfl rfl) rfl rfl rfl ?_
          refine wl_val (ov_assign rfl) rfl rfl rfl ?_
          refine wl_val (ov_assign rfl) rfl rfl rfl ?_
          refine q_nil ?_
          refine k_then ?_
          refine wc_regionL ?_
          refine wl_val (ov_loadBlk (cs := [(.int .i64 (↑m : Int)), (.slice A l.length c), (.int .u64 (↑p : Int))]) ag29_3 rfl hb_g17) rfl rfl rfl ?_
          refine wl_step0 (or_storeBlk (vs := [(.int .i64 (↑m : Int)), (.slice A l.length c), (.int .u64 (↑p : Int))]) sz29 rfl rfl (by simp [Value.oneCell']) hb_g4 rfl) rfl rfl ?_
          rintro _ w209 ⟨hN209, hg209⟩
          have hz_hg209 := hg209.size
          replace hr := hr.gr hg209 (fun _ e => by cases e; omega)
          replace hrq := hrq.gr hg209 (fun _ e => by cases e; omega)
          replace hC := hC.gr2 hg209 (fun x e => by cases e; first | exact .inl rfl | (right; right; omega))
          replace hb_g5 := hb_g5.gr hg209 (by intro e; cases e; omega)
          replace hb_g7 := hb_g7.gr hg209 (by intro e; cases e; omega)
          replace ho31 := Own.gr ho31 hg209 (by first | exact .inl rfl | (right; intro e; first | (have := hq_ho31 _ e; omega) | (have := Own.lt ho31 e; omega) | exact own_blk_ne ho31 hb_g4 (by decide) e))
          replace hb_g17 := hb_g17.gr hg209 (by intro e; cases e; omega)
          replace hb114 := hb114.gr hg209 (fun x e => by cases e; omega) (fun x e e2 => by cases e; have := hDs _ e2; omega)
          replace ho114 := Own.gr ho114 hg209 (by first | exact .inl rfl | (right; intro e; first | (have := hq_ho114 _ e; omega) | (have := Own.lt ho114 e; omega) | exact own_blk_ne ho114 hb_g4 (by decide) e))
          replace hb_g4 := hN209
          refine q_nil ?_
          refine k_then ?_
          refine wc_regionL ?_
          refine wl_val (ov_move rfl) rfl rfl rfl ?_
          refine wl_val (ov_bstr bt26 Try.underlying9 rfl (OwnB.rd ho114)) rfl rfl rfl ?_
          refine wl_val (ov_move rfl) rfl rfl rfl ?_
          refine wl_val (ov_bstr bt26 Try.underlying9 rfl (RdB.nil _ 0 0)) rfl rfl rfl ?_
          refine wl_val (ov_seq rfl rfl) rfl rfl rfl ?_
          refine wl_spell (d := 129) rfl (bt (by rw [bpk_neg hn])) ?_
          refine wl_val (ov_move rfl) rfl rfl rfl ?_
          refine wl_gval (ov_move rfl) rfl rfl rfl rfl rfl ?_
          refine wl_gval (ov_move rfl) rfl rfl rfl rfl rfl ?_
          refine wl_gval (ov_eql rfl rfl) rfl rfl rfl rfl rfl ?_
          refine wl_spell (d := 133) rfl (bt (by rw [bpk_neg hn]; rfl)) ?_
          refine wl_val (ov_pick_t rfl rfl) rfl rfl rfl ?_
          refine wl_val (ov_assign rfl) rfl rfl rfl ?_
          refine q_nil ?_
          refine k_block ?_
          refine k_then ?_
          refine wc_seq ?_
          refine wc_seq ?_
          refine wc_regionL ?_
          refine wl_val (ov_assign rfl) rfl rfl rfl ?_
          refine q_nil ?_
          refine k_then ?_
          have hcap_9 := RdB.cap (OwnB.rd ho114)
          refine wc_block ?_
          refine wc_loop (σ := Nat × List UInt8) (fun s => (bpeek l a2).1.length - s.1) (fun s => [(9, .slice A114 (bpeek l a2).1.length c114), (28, .int .i64 (s.1 : Int)), (0, (.pointer (some ⟨g, 0, none⟩))), (4, (.pointer (some ⟨g4, 0, none⟩))), (6, (.pointer none)), (7, (.pointer (some ⟨g7, 0, none⟩))), (8, (.bool false)), (10, (.bool true))]) (fun s w' => OwnB w' w207.heap.size 5 A114 c114 s.2 ∧ Gr w209 w' (blk A114) ∧ s.2.length = (bpeek l a2).1.length ∧ s.1 ≤ (bpeek l a2).1.length) (0, (bpeek l a2).1) (⟨ho114, (ext_refl _).row _, rfl, Nat.zero_le _⟩) (⟨rfl, rfl, rfl, rfl, rfl, rfl, rfl, rfl, trivial⟩) ?_
          rintro ⟨k_9, l_9⟩ w210 ⟨ho_9, hG_9, hL_9, hk_9⟩
          simp only at hL_9 hk_9
          replace ho_9 : OwnB _ _ _ _ _ l_9 := ho_9
          show WC _ _ _ _ [(9, (.slice A114 (bpeek l a2).1.length c114)), (28, (.int .i64 (↑k_9 : Int))), (0, (.pointer (some ⟨g, 0, none⟩))), (4, (.pointer (some ⟨g4, 0, none⟩))), (6, (.pointer none)), (7, (.pointer (some ⟨g7, 0, none⟩))), (8, (.bool false)), (10, (.bool true))] _
          refine wc_seq ?_
          refine wc_seq ?_
          refine wc_regionL ?_
          refine wl_val (ov_move rfl) rfl rfl rfl ?_
          refine wl_val (ov_move rfl) rfl rfl rfl ?_
          refine wl_val (ov_len Try.underlying26 rfl) rfl rfl rfl ?_
          refine wl_val (ov_lss rfl rfl) rfl rfl rfl ?_
          refine q_nil ?_
          refine k_then ?_
          refine wc_cond_d rfl (fun hc11 => ?_) (fun hc11 => ?_)
          · obtain ⟨g_9, hA_9, hg1_9, hgu_9⟩ := Own.addr ho_9 (by omega)
            subst hA_9
            refine q_skip ?_
            refine k_then ?_
            refine wc_seq ?_
            refine wc_block ?_
            refine wc_regionL ?_
            refine wl_val (ov_move rfl) rfl rfl rfl ?_
            refine wl_val (ov_move rfl) rfl rfl rfl ?_
            refine wl_val (ov_oindex bt26.s rfl rfl rfl (by omega)) rfl rfl rfl ?_
            refine wl_val (ov_load oc5 rfl (OwnB.cellAt ho_9 (by omega))) rfl rfl rfl ?_
            refine wl_val (ov_add rfl rfl (wu8_succ _)) rfl rfl rfl ?_
            refine wl_val (ov_oindex bt26.s rfl rfl rfl (by omega)) rfl rfl rfl ?_
            refine wl_step0 (or_storeOwn sz5 rfl rfl ho_9 (by omega)) rfl rfl ?_
            rintro _ w211 ⟨ho2_9, hg2_9⟩
            have hz2_9 := hg2_9.size
            refine q_nil ?_
            refine k_block ?_
            refine k_then ?_
            refine wc_regionL ?_
            refine wl_val (ov_move rfl) rfl rfl rfl ?_
            refine wl_val (ov_add rfl rfl (wi64 (by omega) (by omega))) rfl rfl rfl ?_
            refine wl_val (ov_assign rfl) rfl rfl rfl ?_
            refine q_nil ?_
            refine k_loop ((k_9 + 1, l_9.set k_9 ((l_9.getD k_9 0) + 1))) (by show (bpeek l a2).1.length - (k_9 + 1) < (bpeek l a2).1.length - k_9; omega) (⟨rfl, rfl, rfl, rfl, rfl, rfl, rfl, rfl, trivial⟩) (⟨ho2_9, hG_9.gr hg2_9 (fun g e => .inl e), by show (List.set _ _ _).length = _; rw [List.length_set]; exact hL_9, by show k_9 + 1 ≤ _; omega⟩)
          · refine wc_spell (d := 9) rfl (v' := .slice A114 l_9.length c114) (by rw [hL_9]) ?_
            have hz_hG_9 := hG_9.size
            replace hr := hr.gr hG_9 (fun g e => by have := hq_ho114 g e; omega)
            replace hrq := hrq.gr hG_9 (fun g e => by have := hq_ho114 g e; omega)
            replace hC := hC.gr2 hG_9 (fun x e => .inr (.inr (by have := hq_ho114 x e; omega)))
            replace hb_g4 := hb_g4.gr hG_9 (fun e => by have := hq_ho114 _ e; omega)
            replace hb_g5 := hb_g5.gr hG_9 (fun e => by have := hq_ho114 _ e; omega)
            replace hb_g7 := hb_g7.gr hG_9 (fun e => by have := hq_ho114 _ e; omega)
            replace ho31 := Own.gr ho31 hG_9 (own_apart fun g e g2 e2 => by have := hq_ho31 g e; have := hq_ho114 g2 e2; omega)
            replace hb_g17 := hb_g17.gr hG_9 (fun e => by have := hq_ho114 _ e; omega)
            replace hb114 := hb114.gr hG_9 (fun x e => by have := hq_ho114 x e; omega) (fun x e e2 => by have h1 := hq_ho114 x e; have h2 := hDs x e2; omega)
            have hq_ho_9 := fun g e => Own.lt ho_9 (g := g) e
            refine q_exit ?_
            refine k_thenX ?_
            refine k_thenX ?_
            refine k_blockE ?_
            refine k_then ?_
            refine wc_seq ?_
            refine wc_drawA mixed ?_
            intro w211 hx45
            replace hr := hr.ext hx45
            replace hrq := hrq.ext hx45
            replace hC := hC.ext hx45
            replace hb_g4 := hb_g4.ext hx45
            replace hb_g5 := hb_g5.ext hx45
            replace hb_g7 := hb_g7.ext hx45
            replace ho31 := Own.ext ho31 hx45
            replace hb_g17 := hb_g17.ext hx45
            replace hb114 := hb114.ext hx45
            replace ho_9 := Own.ext ho_9 hx45
            have hz_hx45 := hx45.size
            refine wa_main (BelS w211.heap.size [g7]) (bels_ext) (bels_tr) 0 5 [(200, eqv (.pointer (some ⟨g, 0, none⟩))), (201, eqv (.agg #[(.int .i64 (↑m : Int)), (.slice A l.length c), (.int .u64 (↑p : Int))])), (202, eqv (.bool true)), (6, eqv (.pointer (some ⟨g, 0, none⟩))), (207, (fun _ w => Blk w g7 29 [(.int .i64 (↑m : Int)), (.slice A l.length c), (.int .u64 (↑p : Int))]))] [[], [], [], [0], [1]] [false, false, false, false, true] [false, false, false, false, true] [true, true, true, true, true] false [(0, (.pointer (some ⟨g, 0, none⟩))), (4, (.pointer (some ⟨g4, 0, none⟩))), (7, (.pointer (some ⟨g7, 0, none⟩))), (8, (.bool false)), (10, (.bool true))] [] [] (Env.sub_get ⟨rfl, rfl, rfl, rfl, rfl, trivial⟩) trivial (by kernel_rfl) rfl ⟨stb_eqv _, stb_eqv _, stb_eqv _, stb_eqv _, (fun _ w w' hb he => hb.ext he), trivial⟩ ⟨?_, ?_, ?_, ?_, ?_, trivial⟩ ?_
            · intro wd hxE
              have hk_hxE := bels_out hxE
              obtain ⟨cs_g7, hcs_g7, hb_g7⟩ := bels_blk hxE (by simp) hb_g7
              have hz_hk_hxE := hk_hxE.size
              replace hr := hk_hxE.rd hr (by intro g hg; simp at hg; omega)
              replace hrq := hk_hxE.rd hrq (by intro g hg; simp at hg; omega)
              replace hC := hC.kp2 hk_hxE (by intro x hx; simp at hx; omega)
              replace hb_g4 := hk_hxE.bk hb_g4 (by intro hg; simp at hg; omega)
              replace hb_g5 := hk_hxE.bk hb_g5 (by intro hg; simp at hg; omega)
              replace ho31 := hk_hxE.own ho31 (by intro g e hg; simp at hg; have := hq_ho31 g e; omega)
              replace hb_g17 := hk_hxE.bk hb_g17 (by intro hg; simp at hg; omega)
              replace hb114 := hb114.kp hk_hxE (by intro hg; simp at hg; omega) (fun x e hg => by simp at hg; have := hDs x e; omega)
              replace ho_9 := hk_hxE.own ho_9 (by intro g e hg; simp at hg; have := hq_ho_9 g e; omega)
              show OpG _ _ _ _ _ _
              exact og_plain rfl (ox_val (ov_move rfl))
            · intro wd hxE
              have hk_hxE := bels_out hxE
              obtain ⟨cs_g7, hcs_g7, hb_g7⟩ := bels_blk hxE (by simp) hb_g7
              have hz_hk_hxE := hk_hxE.size
              replace hr := hk_hxE.rd hr (by intro g hg; simp at hg; omega)
              replace hrq := hk_hxE.rd hrq (by intro g hg; simp at hg; omega)
              replace hC := hC.kp2 hk_hxE (by intro x hx; simp at hx; omega)
              replace hb_g4 := hk_hxE.bk hb_g4 (by intro hg; simp at hg; omega)
              replace hb_g5 := hk_hxE.bk hb_g5 (by intro hg; simp at hg; omega)
              replace ho31 := hk_hxE.own ho31 (by intro g e hg; simp at hg; have := hq_ho31 g e; omega)
              replace hb_g17 := hk_hxE.bk hb_g17 (by intro hg; simp at hg; omega)
              replace hb114 := hb114.kp hk_hxE (by intro hg; simp at hg; omega) (fun x e hg => by simp at hg; have := hDs x e; omega)
              replace ho_9 := hk_hxE.own ho_9 (by intro g e hg; simp at hg; have := hq_ho_9 g e; omega)
              show OpG _ _ _ _ _ _
              exact og_plain rfl (ox_val (ov_loadBlk (cs := [(.int .i64 (↑m : Int)), (.slice A l.length c), (.int .u64 (↑p : Int))]) ag29_3 rfl hb_g4))
            · intro wd hxE
              have hk_hxE := bels_out hxE
              obtain ⟨cs_g7, hcs_g7, hb_g7⟩ := bels_blk hxE (by simp) hb_g7
              have hz_hk_hxE := hk_hxE.size
              replace hr := hk_hxE.rd hr (by intro g hg; simp at hg; omega)
              replace hrq := hk_hxE.rd hrq (by intro g hg; simp at hg; omega)
              replace hC := hC.kp2 hk_hxE (by intro x hx; simp at hx; omega)
              replace hb_g4 := hk_hxE.bk hb_g4 (by intro hg; simp at hg; omega)
              replace hb_g5 := hk_hxE.bk hb_g5 (by intro hg; simp at hg; omega)
              replace ho31 := hk_hxE.own ho31 (by intro g e hg; simp at hg; have := hq_ho31 g e; omega)
              replace hb_g17 := hk_hxE.bk hb_g17 (by intro hg; simp at hg; omega)
              replace hb114 := hb114.kp hk_hxE (by intro hg; simp at hg; omega) (fun x e hg => by simp at hg; have := hDs x e; omega)
              replace ho_9 := hk_hxE.own ho_9 (by intro g e hg; simp at hg; have := hq_ho_9 g e; omega)
              show OpG _ _ _ _ _ _
              exact og_plain rfl (ox_val (ov_move rfl))
            · intro wd hxE
              have hk_hxE := bels_out hxE
              obtain ⟨cs_g7, hcs_g7, hb_g7⟩ := bels_blk hxE (by simp) hb_g7
              have hz_hk_hxE := hk_hxE.size
              replace hr := hk_hxE.rd hr (by intro g hg; simp at hg; omega)
              replace hrq := hk_hxE.rd hrq (by intro g hg; simp at hg; omega)
              replace hC := hC.kp2 hk_hxE (by intro x hx; simp at hx; omega)
              replace hb_g4 := hk_hxE.bk hb_g4 (by intro hg; simp at hg; omega)
              replace hb_g5 := hk_hxE.bk hb_g5 (by intro hg; simp at hg; omega)
              replace ho31 := hk_hxE.own ho31 (by intro g e hg; simp at hg; have := hq_ho31 g e; omega)
              replace hb_g17 := hk_hxE.bk hb_g17 (by intro hg; simp at hg; omega)
              replace hb114 := hb114.kp hk_hxE (by intro hg; simp at hg; omega) (fun x e hg => by simp at hg; have := hDs x e; omega)
              replace ho_9 := hk_hxE.own ho_9 (by intro g e hg; simp at hg; have := hq_ho_9 g e; omega)
              rintro _ rfl
              show OpG _ _ _ _ _ _
              exact og_plain rfl (ox_val (ov_assign rfl))
            · intro wd hxE
              have hk_hxE := bels_out hxE
              obtain ⟨cs_g7, hcs_g7, hb_g7⟩ := bels_blk hxE (by simp) hb_g7
              have hz_hk_hxE := hk_hxE.size
              replace hr := hk_hxE.rd hr (by intro g hg; simp at hg; omega)
              replace hrq := hk_hxE.rd hrq (by intro g hg; simp at hg; omega)
              replace hC := hC.kp2 hk_hxE (by intro x hx; simp at hx; omega)
              replace hb_g4 := hk_hxE.bk hb_g4 (by intro hg; simp at hg; omega)
              replace hb_g5 := hk_hxE.bk hb_g5 (by intro hg; simp at hg; omega)
              replace ho31 := hk_hxE.own ho31 (by intro g e hg; simp at hg; have := hq_ho31 g e; omega)
              replace hb_g17 := hk_hxE.bk hb_g17 (by intro hg; simp at hg; omega)
              replace hb114 := hb114.kp hk_hxE (by intro hg; simp at hg; omega) (fun x e hg => by simp at hg; have := hDs x e; omega)
              replace ho_9 := hk_hxE.own ho_9 (by intro g e hg; simp at hg; have := hq_ho_9 g e; omega)
              rintro _ rfl
              show OpG _ _ _ _ _ _
              have hb0 := hb_g7
              refine og_plain rfl (OpRun.mono (or_storeBlk (vs := [(.int .i64 (↑m : Int)), (.slice A l.length c), (.int .u64 (↑p : Int))]) sz29 rfl rfl (by simp [Value.oneCell']) hb_g7 hcs_g7) ?_)
              rintro _ w212 ⟨hN212, hg212⟩
              have hz_hg212 := hg212.size
              replace hr := hr.gr hg212 (fun _ e => by cases e; omega)
              replace hrq := hrq.gr hg212 (fun _ e => by cases e; omega)
              replace hC := hC.gr2 hg212 (fun x e => by cases e; first | exact .inl rfl | (right; right; omega))
              replace hb_g4 := hb_g4.gr hg212 (by intro e; cases e; omega)
              replace hb_g5 := hb_g5.gr hg212 (by intro e; cases e; omega)
              replace ho31 := Own.gr ho31 hg212 (by first | exact .inl rfl | (right; intro e; first | (have := hq_ho31 _ e; omega) | (have := Own.lt ho31 e; omega) | exact own_blk_ne ho31 hb_g7 (by decide) e))
              replace hb_g17 := hb_g17.gr hg212 (by intro e; cases e; omega)
              replace hb114 := hb114.gr hg212 (fun x e => by cases e; omega) (fun x e e2 => by cases e; have := hDs _ e2; omega)
              replace ho_9 := Own.gr ho_9 hg212 (by first | exact .inl rfl | (right; intro e; first | (have := hq_ho_9 _ e; omega) | (have := Own.lt ho_9 e; omega) | exact own_blk_ne ho_9 hb_g7 (by decide) e))
              replace hb_g7 := hN212
              exact ⟨hb_g7, bels_store hg212 (by simp) hb0 hb_g7 hcs_g7⟩
            · intro wf45 hf45
              have hk_hf45 := bels_out hf45
              obtain ⟨cs_g7, hcs_g7, hb_g7⟩ := bels_blk hf45 (by simp) hb_g7
              have hz_hk_hf45 := hk_hf45.size
              replace hr := hk_hf45.rd hr (by intro g hg; simp at hg; omega)
              replace hrq := hk_hf45.rd hrq (by intro g hg; simp at hg; omega)
              replace hC := hC.kp2 hk_hf45 (by intro x hx; simp at hx; omega)
              replace hb_g4 := hk_hf45.bk hb_g4 (by intro hg; simp at hg; omega)
              replace hb_g5 := hk_hf45.bk hb_g5 (by intro hg; simp at hg; omega)
              replace ho31 := hk_hf45.own ho31 (by intro g e hg; simp at hg; have := hq_ho31 g e; omega)
              replace hb_g17 := hk_hf45.bk hb_g17 (by intro hg; simp at hg; omega)
              replace hb114 := hb114.kp hk_hf45 (by intro hg; simp at hg; omega) (fun x e hg => by simp at hg; have := hDs x e; omega)
              replace ho_9 := hk_hf45.own ho_9 (by intro g e hg; simp at hg; have := hq_ho_9 g e; omega)
              rintro _ rfl
              rintro _ rfl
              rintro _ rfl
              rintro _ rfl
              rintro _ hb_g7
              refine wa_tail (by kernel_rfl) ?_
              show WL _ _ _ [_] _ _ _
              refine wl_val (ov_assign rfl) rfl rfl rfl ?_
              refine q_nil ?_
              refine k_then ?_
              refine q_ret ?_
              refine e_retL (rs := [.tmp 6, .cell 7 29, .tmp 8]) (vs := [(.pointer (some ⟨g, 0, none⟩)), .agg #[(.int .i64 (↑m : Int)), (.slice A l.length c), (.int .u64 (↑p : Int))], (.bool true)]) rfl ⟨rfl, ⟨_, _, [(.int .i64 (↑m : Int)), (.slice A l.length c), (.int .u64 (↑p : Int))], rfl, ag29_3, hb_g7, rfl⟩, rfl, trivial⟩ ?_
              rw [bpk_neg hn] at hb114
              replace hb114 : Buf _ lo g D m l p t := hb114
              exact ⟨_, _, _, g, _, _, _, _, _, _, rfl, ⟨hb114, hr, by omega, by omega, by omega, fun x e => by have := hDs x e; omega, hpt, by omega, fun x e => by have := hDs x e; omega⟩, by omega, hC, .inl rfl, Nx.refl _ _, .inl ⟨rfl, rfl⟩⟩
        · refine q_skip ?_
          refine k_then ?_
          refine wc_cond_T rfl (decide_eq_true (hc4)) ?_
          refine wc_seq ?_
          refine wc_regionL ?_
          refine wl_val (ov_loadBlk (cs := [(.int .i64 (↑m : Int)), (.slice A l.length c), (.int .u64 (↑p : Int))]) ag29_3 rfl hb_g4) rfl rfl rfl ?_
          refine wl_val (ov_field0 (off := 1) fo42_1 rfl) rfl rfl rfl ?_
          refine wl_val (ov_loadAt oc3 rfl hb_g5 rfl) rfl rfl rfl ?_
          refine wl_step (or_call0 cl57 rfl rfl (rtake_ok _ _ _ (m) _ _ l (p) hr (by omega) (by omega) (by omega) a2 (by omega) (by omega))) rfl rfl rfl ?_
          rintro v w205 ⟨A103, c103, B103, d103, rfl, ho103, hrB103, he103⟩
          replace hbuf := hbuf.ext he103
          replace hr := hr.ext he103
          replace hrq := hrq.ext he103
          replace hC := hC.ext he103
          replace hb_g4 := hb_g4.ext he103
          replace hb_g5 := hb_g5.ext he103
          replace hb_g7 := hb_g7.ext he103
          replace ho31 := Own.ext ho31 he103
          have hz_he103 := he103.size
          have hq_ho103 := fun g e => Own.lt ho103 (g := g) e
          refine wl_val (ov_move rfl) rfl rfl rfl ?_
          refine wl_val (ov_extract rfl rfl) rfl rfl rfl ?_
          refine wl_val (ov_extract rfl rfl) rfl rfl rfl ?_
          refine wl_val (ov_extract rfl rfl) rfl rfl rfl ?_
          refine wl_step (or_alloc (cs := [(.int .i64 0), (.slice none 0 0), (.int .u64 0)]) ze29 rfl) rfl rfl rfl ?_
          rintro v w206 ⟨g17, rfl, hb_g17, he17, hl17, hu17⟩
          replace hbuf := hbuf.ext he17
          replace hr := hr.ext he17
          replace hrq := hrq.ext he17
          replace hC := hC.ext he17
          replace hb_g4 := hb_g4.ext he17
          replace hb_g5 := hb_g5.ext he17
          replace hb_g7 := hb_g7.ext he17
          replace ho31 := Own.ext ho31 he17
          replace ho103 := Own.ext ho103 he17
          replace hrB103 := hrB103.ext he17
          have hz_he17 := he17.size
          refine wl_step0 (or_storeBlk (vs := [(.int .i64 (↑m : Int)), (.slice A103 (l.drop (Int.toNat a2)).length c103), (.int .u64 (↑p : Int))]) sz29 rfl rfl (by simp [Value.oneCell']) hb_g17 rfl) rfl rfl ?_
          rintro _ w207 ⟨hN207, hg207⟩
          have hz_hg207 := hg207.size
          replace hbuf := hbuf.gr hg207 (fun x e => by cases e; omega) (fun x e e2 => by cases e; have := hDs _ e2; omega)
          replace hr := hr.gr hg207 (fun _ e => by cases e; omega)
          replace hrq := hrq.gr hg207 (fun _ e => by cases e; omega)
          replace hC := hC.gr2 hg207 (fun x e => by cases e; first | exact .inl rfl | (right; right; omega))
          replace hb_g4 := hb_g4.gr hg207 (by intro e; cases e; omega)
          replace hb_g5 := hb_g5.gr hg207 (by intro e; cases e; omega)
          replace hb_g7 := hb_g7.gr hg207 (by intro e; cases e; omega)
          replace ho31 := Own.gr ho31 hg207 (by first | exact .inl rfl | (right; intro e; first | (have := hq_ho31 _ e; omega) | (have := Own.lt ho31 e; omega) | exact own_blk_ne ho31 hb_g17 (by decide) e))
          replace ho103 := Own.gr ho103 hg207 (by first | exact .inl rfl | (right; intro e; first | (have := hq_ho103 _ e; omega) | (have := Own.lt ho103 e; omega) | exact own_blk_ne ho103 hb_g17 (by decide) e))
          replace hrB103 := hrB103.gr hg207 (fun _ e => by cases e; omega)
          replace hb_g17 := hN207
          refine wl_val (ov_assign rfl) rfl rfl rfl ?_
          refine wl_val (ov_assign rfl) rfl rfl rfl ?_
          refine q_nil ?_
          refine k_then ?_
          refine wc_seq ?_
          refine wc_regionL ?_
          refine wl_val (ov_assign rfl) rfl rfl rfl ?_
          refine q_nil ?_
          refine k_then ?_
          refine wc_seq ?_
          refine wc_seq ?_
          refine wc_regionL ?_
          refine wl_val (ov_field0 (off := 0) fo42_0 rfl) rfl rfl rfl ?_
          refine wl_val (ov_loadAt oc3 rfl hb_g5 rfl) rfl rfl rfl ?_
          refine wl_val (ov_eql rfl rfl) rfl rfl rfl ?_
          refine q_nil ?_
          refine k_then ?_
          refine wc_cond_T rfl (decide_eq_true (hc4)) ?_
          refine wc_seq ?_
          refine wc_regionL ?_
          refine wl_val (ov_move rfl) rfl rfl rfl ?_
          refine wl_val (ov_field0 (off := 1) fo42_1 rfl) rfl rfl rfl ?_
          refine wl_val (ov_loadAt oc3 rfl hb_g5 rfl) rfl rfl rfl ?_
          refine wl_step (or_call0 cl22 rfl rfl (btake_ok _ lo g D m l p t hbuf a2 (by omega) (by omega) (by omega) (by omega))) rfl rfl rfl ?_
          rintro v w208 ⟨A114, c114, rfl, ho114, hb114, hC114⟩
          have hDa114 : ∀ x, D = some x → (b0 ≤ x ∧ (x < lor ∨ hir ≤ x) ∧ x < w.heap.size) ∧ x < w207.heap.size := fun x e => ⟨hDs x e, (hbuf.lt.2 x e).2⟩
          have hz_hC114 := hC114.size
          replace hr := hC114.rd hr (by omega) (fun x e => by have := hDa114 x e; omega)
          replace hrq := hC114.rd hrq (by omega) (fun x e => by have := hDa114 x e; omega)
          replace hC := hC.tr hC114 (fun x e => by first | exact .inl e | (right; have := hDa114 x e; omega))
          replace hb_g4 := hC114.bk hb_g4 (by omega) (fun e2 => by have := hDa114 _ e2; omega)
          replace hb_g5 := hC114.bk hb_g5 (by omega) (fun e2 => by have := hDa114 _ e2; omega)
          replace hb_g7 := hC114.bk hb_g7 (by omega) (fun e2 => by have := hDa114 _ e2; omega)
          replace ho31 := hC114.own ho31 (fun x e => ⟨by have := hq_ho31 x e; omega, fun e2 => by have h1 := hq_ho31 x e; have h2 := hDa114 x e2; omega⟩)
          replace ho103 := hC114.own ho103 (fun x e => ⟨by have := hq_ho103 x e; omega, fun e2 => by have h1 := hq_ho103 x e; have h2 := hDa114 x e2; omega⟩)
          replace hrB103 := hC114.rd hrB103 (by omega) (fun x e => by have := hDa114 x e; omega)
          replace hb_g17 := hC114.bk hb_g17 (by omega) (fun e2 => by have := hDa114 _ e2; omega)
          have hzb114 := hb114.lt.1
          have hcp114 := hb114.cap
          have hq_ho114 := fun g e => Own.lt ho114 (g := g) e
          refine wl_val (ov_move rfl) rfl rfl rfl ?_
          refine wl_val (ov_extract rfl rfl) rfl rfl rfl ?_
          refine wl_val (ov_extract rfl rfl) rfl rfl rfl ?_
          refine wl_val (ov_assign rfl) rfl rfl rfl ?_
          refine wl_val (ov_assign rfl) rfl rfl rfl ?_
          refine q_nil ?_
          refine k_then ?_
          refine wc_regionL ?_
          refine wl_val (ov_loadBlk (cs := [(.int .i64 (↑m : Int)), (.slice A103 (l.drop (Int.toNat a2)).length c103), (.int .u64 (↑p : Int))]) ag29_3 rfl hb_g17) rfl rfl rfl ?_
          refine wl_step0 (or_storeBlk (vs := [(.int .i64 (↑m : Int)), (.slice A103 (l.drop (Int.toNat a2)).length c103), (.int .u64 (↑p : Int))]) sz29 rfl rfl (by simp [Value.oneCell']) hb_g4 rfl) rfl rfl ?_
          rintro _ w209 ⟨hN209, hg209⟩
          have hz_hg209 := hg209.size
          replace hr := hr.gr hg209 (fun _ e => by cases e; omega)
          replace hrq := hrq.gr hg209 (fun _ e => by cases e; omega)
          replace hC := hC.gr2 hg209 (fun x e => by cases e; first | exact .inl rfl | (right; right; omega))
          replace hb_g5 := hb_g5.gr hg209 (by intro e; cases e; omega)
          replace hb_g7 := hb_g7.gr hg209 (by intro e; cases e; omega)
          replace ho31 := Own.gr ho31 hg209 (by first | exact .inl rfl | (right; intro e; first | (have := hq_ho31 _ e; omega) | (have := Own.lt ho31 e; omega) | exact own_blk_ne ho31 hb_g4 (by decide) e))
          replace ho103 := Own.gr ho103 hg209 (by first | exact .inl rfl | (right; intro e; first | (have := hq_ho103 _ e; omega) | (have := Own.lt ho103 e; omega) | exact own_blk_ne ho103 hb_g4 (by decide) e))
          replace hrB103 := hrB103.gr hg209 (fun _ e => by cases e; omega)
          replace hb_g17 := hb_g17.gr hg209 (by intro e; cases e; omega)
          replace hb114 := hb114.gr hg209 (fun x e => by cases e; omega) (fun x e e2 => by cases e; have := hDs _ e2; omega)
          replace ho114 := Own.gr ho114 hg209 (by first | exact .inl rfl | (right; intro e; first | (have := hq_ho114 _ e; omega) | (have := Own.lt ho114 e; omega) | exact own_blk_ne ho114 hb_g4 (by decide) e))
          replace hb_g4 := hN209
          refine q_nil ?_
          refine k_then ?_
          refine wc_regionL ?_
          refine wl_val (ov_move rfl) rfl rfl rfl ?_
          refine wl_val (ov_bstr bt26 Try.underlying9 rfl (OwnB.rd ho114)) rfl rfl rfl ?_
          refine wl_val (ov_move rfl) rfl rfl rfl ?_
          refine wl_val (ov_bstr bt26 Try.underlying9 rfl hrB103) rfl rfl rfl ?_
          refine wl_val (ov_seq rfl rfl) rfl rfl rfl ?_
          refine wl_spell (d := 129) rfl (bt (by rw [bpk_ok hn])) ?_
          refine wl_val (ov_move rfl) rfl rfl rfl ?_
          refine wl_gval (ov_move rfl) rfl rfl rfl rfl rfl ?_
          refine wl_gval (ov_move rfl) rfl rfl rfl rfl rfl ?_
          refine wl_gval (ov_eql rfl rfl) rfl rfl rfl rfl rfl ?_
          refine wl_spell (d := 133) rfl (bt (by rw [bpk_ok hn]; rfl)) ?_
          refine wl_val (ov_pick_t rfl rfl) rfl rfl rfl ?_
          refine wl_val (ov_assign rfl) rfl rfl rfl ?_
          refine q_nil ?_
          refine k_block ?_
          refine k_then ?_
          refine wc_seq ?_
          refine wc_seq ?_
          refine wc_regionL ?_
          refine wl_val (ov_assign rfl) rfl rfl rfl ?_
          refine q_nil ?_
          refine k_then ?_
          have hcap_9 := RdB.cap (OwnB.rd ho114)
          refine wc_block ?_
          refine wc_loop (σ := Nat × List UInt8) (fun s => (bpeek l a2).1.length - s.1) (fun s => [(9, .slice A114 (bpeek l a2).1.length c114), (28, .int .i64 (s.1 : Int)), (0, (.pointer (some ⟨g, 0, none⟩))), (4, (.pointer (some ⟨g4, 0, none⟩))), (6, (.pointer none)), (7, (.pointer (some ⟨g7, 0, none⟩))), (8, (.bool false)), (10, (.bool true))]) (fun s w' => OwnB w' w207.heap.size 5 A114 c114 s.2 ∧ Gr w209 w' (blk A114) ∧ s.2.length = (bpeek l a2).1.length ∧ s.1 ≤ (bpeek l a2).1.length) (0, (bpeek l a2).1) (⟨ho114, (ext_refl _).row _, rfl, Nat.zero_le _⟩) (⟨rfl, rfl, rfl, rfl, rfl, rfl, rfl, rfl, trivial⟩) ?_
          rintro ⟨k_9, l_9⟩ w210 ⟨ho_9, hG_9, hL_9, hk_9⟩
          simp only at hL_9 hk_9
          replace ho_9 : OwnB _ _ _ _ _ l_9 := ho_9
          show WC _ _ _ _ [(9, (.slice A114 (bpeek l a2).1.length c114)), (28, (.int .i64 (↑k_9 : Int))), (0, (.pointer (some ⟨g, 0, none⟩))), (4, (.pointer (some ⟨g4, 0, none⟩))), (6, (.pointer none)), (7, (.pointer (some ⟨g7, 0, none⟩))), (8, (.bool false)), (10, (.bool true))] _
          refine wc_seq ?_
          refine wc_seq ?_
          refine wc_regionL ?_
          refine wl_val (ov_move rfl) rfl rfl rfl ?_
          refine wl_val (ov_move rfl) rfl rfl rfl ?_
          refine wl_val (ov_len Try.underlying26 rfl) rfl rfl rfl ?_
          refine wl_val (ov_lss rfl rfl) rfl rfl rfl ?_
          refine q_nil ?_
          refine k_then ?_
          refine wc_cond_d rfl (fun hc11 => ?_) (fun hc11 => ?_)
          · obtain ⟨g_9, hA_9, hg1_9, hgu_9⟩ := Own.addr ho_9 (by omega)
            subst hA_9
            refine q_skip ?_
            refine k_then ?_
            refine wc_seq ?_
            refine wc_block ?_
            refine wc_regionL ?_
            refine wl_val (ov_move rfl) rfl rfl rfl ?_
            refine wl_val (ov_move rfl) rfl rfl rfl ?_
            refine wl_val (ov_oindex bt26.s rfl rfl rfl (by omega)) rfl rfl rfl ?_
            refine wl_val (ov_load oc5 rfl (OwnB.cellAt ho_9 (by omega))) rfl rfl rfl ?_
            refine wl_val (ov_add rfl rfl (wu8_succ _)) rfl rfl rfl ?_
            refine wl_val (ov_oindex bt26.s rfl rfl rfl (by omega)) rfl rfl rfl ?_
            refine wl_step0 (or_storeOwn sz5 rfl rfl ho_9 (by omega)) rfl rfl ?_
            rintro _ w211 ⟨ho2_9, hg2_9⟩
            have hz2_9 := hg2_9.size
            refine q_nil ?_
            refine k_block ?_
            refine k_then ?_
            refine wc_regionL ?_
            refine wl_val (ov_move rfl) rfl rfl rfl ?_
            refine wl_val (ov_add rfl rfl (wi64 (by omega) (by omega))) rfl rfl rfl ?_
            refine wl_val (ov_assign rfl) rfl rfl rfl ?_
            refine q_nil ?_
            refine k_loop ((k_9 + 1, l_9.set k_9 ((l_9.getD k_9 0) + 1))) (by show (bpeek l a2).1.length - (k_9 + 1) < (bpeek l a2).1.length - k_9; omega) (⟨rfl, rfl, rfl, rfl, rfl, rfl, rfl, rfl, trivial⟩) (⟨ho2_9, hG_9.gr hg2_9 (fun g e => .inl e), by show (List.set _ _ _).length = _; rw [List.length_set]; exact hL_9, by show k_9 + 1 ≤ _; omega⟩)
          · refine wc_spell (d := 9) rfl (v' := .slice A114 l_9.length c114) (by rw [hL_9]) ?_
            have hz_hG_9 := hG_9.size
            replace hr := hr.gr hG_9 (fun g e => by have := hq_ho114 g e; omega)
            replace hrq := hrq.gr hG_9 (fun g e => by have := hq_ho114 g e; omega)
            replace hC := hC.gr2 hG_9 (fun x e => .inr (.inr (by have := hq_ho114 x e; omega)))
            replace hb_g4 := hb_g4.gr hG_9 (fun e => by have := hq_ho114 _ e; omega)
            replace hb_g5 := hb_g5.gr hG_9 (fun e => by have := hq_ho114 _ e; omega)
            replace hb_g7 := hb_g7.gr hG_9 (fun e => by have := hq_ho114 _ e; omega)
            replace ho31 := Own.gr ho31 hG_9 (own_apart fun g e g2 e2 => by have := hq_ho31 g e; have := hq_ho114 g2 e2; omega)
            replace ho103 := Own.gr ho103 hG_9 (own_apart fun g e g2 e2 => by have := hq_ho103 g e; have := hq_ho114 g2 e2; omega)
            replace hrB103 := hrB103.gr hG_9 (fun g e => by have := hq_ho114 g e; omega)
            replace hb_g17 := hb_g17.gr hG_9 (fun e => by have := hq_ho114 _ e; omega)
            replace hb114 := hb114.gr hG_9 (fun x e => by have := hq_ho114 x e; omega) (fun x e e2 => by have h1 := hq_ho114 x e; have h2 := hDs x e2; omega)
            have hq_ho_9 := fun g e => Own.lt ho_9 (g := g) e
            refine q_exit ?_
            refine k_thenX ?_
            refine k_thenX ?_
            refine k_blockE ?_
            refine k_then ?_
            refine wc_seq ?_
            refine wc_drawA mixed ?_
            intro w211 hx45
            replace hr := hr.ext hx45
            replace hrq := hrq.ext hx45
            replace hC := hC.ext hx45
            replace hb_g4 := hb_g4.ext hx45
            replace hb_g5 := hb_g5.ext hx45
            replace hb_g7 := hb_g7.ext hx45
            replace ho31 := Own.ext ho31 hx45
            replace ho103 := Own.ext ho103 hx45
            replace hrB103 := hrB103.ext hx45
            replace hb_g17 := hb_g17.ext hx45
            replace hb114 := hb114.ext hx45
            replace ho_9 := Own.ext ho_9 hx45
            have hz_hx45 := hx45.size
            refine wa_main (BelS w211.heap.size [g7]) (bels_ext) (bels_tr) 0 5 [(200, eqv (.pointer (some ⟨g, 0, none⟩))), (201, eqv (.agg #[(.int .i64 (↑m : Int)), (.slice A103 (l.drop (Int.toNat a2)).length c103), (.int .u64 (↑p : Int))])), (202, eqv (.bool true)), (6, eqv (.pointer (some ⟨g, 0, none⟩))), (207, (fun _ w => Blk w g7 29 [(.int .i64 (↑m : Int)), (.slice A103 (l.drop (Int.toNat a2)).length c103), (.int .u64 (↑p : Int))]))] [[], [], [], [0], [1]] [false, false, false, false, true] [false, false, false, false, true] [true, true, true, true, true] false [(0, (.pointer (some ⟨g, 0, none⟩))), (4, (.pointer (some ⟨g4, 0, none⟩))), (7, (.pointer (some ⟨g7, 0, none⟩))), (8, (.bool false)), (10, (.bool true))] [] [] (Env.sub_get ⟨rfl, rfl, rfl, rfl, rfl, trivial⟩) trivial (by kernel_rfl) rfl ⟨stb_eqv _, stb_eqv _, stb_eqv _, stb_eqv _, (fun _ w w' hb he => hb.ext he), trivial⟩ ⟨?_, ?_, ?_, ?_, ?_, trivial⟩ ?_
            · intro wd hxE
              have hk_hxE := bels_out hxE
              obtain ⟨cs_g7, hcs_g7, hb_g7⟩ := bels_blk hxE (by simp) hb_g7
              have hz_hk_hxE := hk_hxE.size
              replace hr := hk_hxE.rd hr (by intro g hg; simp at hg; omega)
              replace hrq := hk_hxE.rd hrq (by intro g hg; simp at hg; omega)
              replace hC := hC.kp2 hk_hxE (by intro x hx; simp at hx; omega)
              replace hb_g4 := hk_hxE.bk hb_g4 (by intro hg; simp at hg; omega)
              replace hb_g5 := hk_hxE.bk hb_g5 (by intro hg; simp at hg; omega)
              replace ho31 := hk_hxE.own ho31 (by intro g e hg; simp at hg; have := hq_ho31 g e; omega)
              replace ho103 := hk_hxE.own ho103 (by intro g e hg; simp at hg; have := hq_ho103 g e; omega)
              replace hrB103 := hk_hxE.rd hrB103 (by intro g hg; simp at hg; omega)
              replace hb_g17 := hk_hxE.bk hb_g17 (by intro hg; simp at hg; omega)
              replace hb114 := hb114.kp hk_hxE (by intro hg; simp at hg; omega) (fun x e hg => by simp at hg; have := hDs x e; omega)
              replace ho_9 := hk_hxE.own ho_9 (by intro g e hg; simp at hg; have := hq_ho_9 g e; omega)
              show OpG _ _ _ _ _ _
              exact og_plain rfl (ox_val (ov_move rfl))
            · intro wd hxE
              have hk_hxE := bels_out hxE
              obtain ⟨cs_g7, hcs_g7, hb_g7⟩ := bels_blk hxE (by simp) hb_g7
              have hz_hk_hxE := hk_hxE.size
              replace hr := hk_hxE.rd hr (by intro g hg; simp at hg; omega)
              replace hrq := hk_hxE.rd hrq (by intro g hg; simp at hg; omega)
              replace hC := hC.kp2 hk_hxE (by intro x hx; simp at hx; omega)
              replace hb_g4 := hk_hxE.bk hb_g4 (by intro hg; simp at hg; omega)
              replace hb_g5 := hk_hxE.bk hb_g5 (by intro hg; simp at hg; omega)
              replace ho31 := hk_hxE.own ho31 (by intro g e hg; simp at hg; have := hq_ho31 g e; omega)
              replace ho103 := hk_hxE.own ho103 (by intro g e hg; simp at hg; have := hq_ho103 g e; omega)
              replace hrB103 := hk_hxE.rd hrB103 (by intro g hg; simp at hg; omega)
              replace hb_g17 := hk_hxE.bk hb_g17 (by intro hg; simp at hg; omega)
              replace hb114 := hb114.kp hk_hxE (by intro hg; simp at hg; omega) (fun x e hg => by simp at hg; have := hDs x e; omega)
              replace ho_9 := hk_hxE.own ho_9 (by intro g e hg; simp at hg; have := hq_ho_9 g e; omega)
              show OpG _ _ _ _ _ _
              exact og_plain rfl (ox_val (ov_loadBlk (cs := [(.int .i64 (↑m : Int)), (.slice A103 (l.drop (Int.toNat a2)).length c103), (.int .u64 (↑p : Int))]) ag29_3 rfl hb_g4))
            · intro wd hxE
              have hk_hxE := bels_out hxE
              obtain ⟨cs_g7, hcs_g7, hb_g7⟩ := bels_blk hxE (by simp) hb_g7
              have hz_hk_hxE := hk_hxE.size
              replace hr := hk_hxE.rd hr (by intro g hg; simp at hg; omega)
              replace hrq := hk_hxE.rd hrq (by intro g hg; simp at hg; omega)
              replace hC := hC.kp2 hk_hxE (by intro x hx; simp at hx; omega)
              replace hb_g4 := hk_hxE.bk hb_g4 (by intro hg; simp at hg; omega)
              replace hb_g5 := hk_hxE.bk hb_g5 (by intro hg; simp at hg; omega)
              replace ho31 := hk_hxE.own ho31 (by intro g e hg; simp at hg; have := hq_ho31 g e; omega)
              replace ho103 := hk_hxE.own ho103 (by intro g e hg; simp at hg; have := hq_ho103 g e; omega)
              replace hrB103 := hk_hxE.rd hrB103 (by intro g hg; simp at hg; omega)
              replace hb_g17 := hk_hxE.bk hb_g17 (by intro hg; simp at hg; omega)
              replace hb114 := hb114.kp hk_hxE (by intro hg; simp at hg; omega) (fun x e hg => by simp at hg; have := hDs x e; omega)
              replace ho_9 := hk_hxE.own ho_9 (by intro g e hg; simp at hg; have := hq_ho_9 g e; omega)
              show OpG _ _ _ _ _ _
              exact og_plain rfl (ox_val (ov_move rfl))
            · intro wd hxE
              have hk_hxE := bels_out hxE
              obtain ⟨cs_g7, hcs_g7, hb_g7⟩ := bels_blk hxE (by simp) hb_g7
              have hz_hk_hxE := hk_hxE.size
              replace hr := hk_hxE.rd hr (by intro g hg; simp at hg; omega)
              replace hrq := hk_hxE.rd hrq (by intro g hg; simp at hg; omega)
              replace hC := hC.kp2 hk_hxE (by intro x hx; simp at hx; omega)
              replace hb_g4 := hk_hxE.bk hb_g4 (by intro hg; simp at hg; omega)
              replace hb_g5 := hk_hxE.bk hb_g5 (by intro hg; simp at hg; omega)
              replace ho31 := hk_hxE.own ho31 (by intro g e hg; simp at hg; have := hq_ho31 g e; omega)
              replace ho103 := hk_hxE.own ho103 (by intro g e hg; simp at hg; have := hq_ho103 g e; omega)
              replace hrB103 := hk_hxE.rd hrB103 (by intro g hg; simp at hg; omega)
              replace hb_g17 := hk_hxE.bk hb_g17 (by intro hg; simp at hg; omega)
              replace hb114 := hb114.kp hk_hxE (by intro hg; simp at hg; omega) (fun x e hg => by simp at hg; have := hDs x e; omega)
              replace ho_9 := hk_hxE.own ho_9 (by intro g e hg; simp at hg; have := hq_ho_9 g e; omega)
              rintro _ rfl
              show OpG _ _ _ _ _ _
              exact og_plain rfl (ox_val (ov_assign rfl))
            · intro wd hxE
              have hk_hxE := bels_out hxE
              obtain ⟨cs_g7, hcs_g7, hb_g7⟩ := bels_blk hxE (by simp) hb_g7
              have hz_hk_hxE := hk_hxE.size
              replace hr := hk_hxE.rd hr (by intro g hg; simp at hg; omega)
              replace hrq := hk_hxE.rd hrq (by intro g hg; simp at hg; omega)
              replace hC := hC.kp2 hk_hxE (by intro x hx; simp at hx; omega)
              replace hb_g4 := hk_hxE.bk hb_g4 (by intro hg; simp at hg; omega)
              replace hb_g5 := hk_hxE.bk hb_g5 (by intro hg; simp at hg; omega)
              replace ho31 := hk_hxE.own ho31 (by intro g e hg; simp at hg; have := hq_ho31 g e; omega)
              replace ho103 := hk_hxE.own ho103 (by intro g e hg; simp at hg; have := hq_ho103 g e; omega)
              replace hrB103 := hk_hxE.rd hrB103 (by intro g hg; simp at hg; omega)
              replace hb_g17 := hk_hxE.bk hb_g17 (by intro hg; simp at hg; omega)
              replace hb114 := hb114.kp hk_hxE (by intro hg; simp at hg; omega) (fun x e hg => by simp at hg; have := hDs x e; omega)
              replace ho_9 := hk_hxE.own ho_9 (by intro g e hg; simp at hg; have := hq_ho_9 g e; omega)
              rintro _ rfl
              show OpG _ _ _ _ _ _
              have hb0 := hb_g7
              refine og_plain rfl (OpRun.mono (or_storeBlk (vs := [(.int .i64 (↑m : Int)), (.slice A103 (l.drop (Int.toNat a2)).length c103), (.int .u64 (↑p : Int))]) sz29 rfl rfl (by simp [Value.oneCell']) hb_g7 hcs_g7) ?_)
              rintro _ w212 ⟨hN212, hg212⟩
              have hz_hg212 := hg212.size
              replace hr := hr.gr hg212 (fun _ e => by cases e; omega)
              replace hrq := hrq.gr hg212 (fun _ e => by cases e; omega)
              replace hC := hC.gr2 hg212 (fun x e => by cases e; first | exact .inl rfl | (right; right; omega))
              replace hb_g4 := hb_g4.gr hg212 (by intro e; cases e; omega)
              replace hb_g5 := hb_g5.gr hg212 (by intro e; cases e; omega)
              replace ho31 := Own.gr ho31 hg212 (by first | exact .inl rfl | (right; intro e; first | (have := hq_ho31 _ e; omega) | (have := Own.lt ho31 e; omega) | exact own_blk_ne ho31 hb_g7 (by decide) e))
              replace ho103 := Own.gr ho103 hg212 (by first | exact .inl rfl | (right; intro e; first | (have := hq_ho103 _ e; omega) | (have := Own.lt ho103 e; omega) | exact own_blk_ne ho103 hb_g7 (by decide) e))
              replace hrB103 := hrB103.gr hg212 (fun _ e => by cases e; omega)
              replace hb_g17 := hb_g17.gr hg212 (by intro e; cases e; omega)
              replace hb114 := hb114.gr hg212 (fun x e => by cases e; omega) (fun x e e2 => by cases e; have := hDs _ e2; omega)
              replace ho_9 := Own.gr ho_9 hg212 (by first | exact .inl rfl | (right; intro e; first | (have := hq_ho_9 _ e; omega) | (have := Own.lt ho_9 e; omega) | exact own_blk_ne ho_9 hb_g7 (by decide) e))
              replace hb_g7 := hN212
              exact ⟨hb_g7, bels_store hg212 (by simp) hb0 hb_g7 hcs_g7⟩
            · intro wf45 hf45
              have hk_hf45 := bels_out hf45
              obtain ⟨cs_g7, hcs_g7, hb_g7⟩ := bels_blk hf45 (by simp) hb_g7
              have hz_hk_hf45 := hk_hf45.size
              replace hr := hk_hf45.rd hr (by intro g hg; simp at hg; omega)
              replace hrq := hk_hf45.rd hrq (by intro g hg; simp at hg; omega)
              replace hC := hC.kp2 hk_hf45 (by intro x hx; simp at hx; omega)
              replace hb_g4 := hk_hf45.bk hb_g4 (by intro hg; simp at hg; omega)
              replace hb_g5 := hk_hf45.bk hb_g5 (by intro hg; simp at hg; omega)
              replace ho31 := hk_hf45.own ho31 (by intro g e hg; simp at hg; have := hq_ho31 g e; omega)
              replace ho103 := hk_hf45.own ho103 (by intro g e hg; simp at hg; have := hq_ho103 g e; omega)
              replace hrB103 := hk_hf45.rd hrB103 (by intro g hg; simp at hg; omega)
              replace hb_g17 := hk_hf45.bk hb_g17 (by intro hg; simp at hg; omega)
              replace hb114 := hb114.kp hk_hf45 (by intro hg; simp at hg; omega) (fun x e hg => by simp at hg; have := hDs x e; omega)
              replace ho_9 := hk_hf45.own ho_9 (by intro g e hg; simp at hg; have := hq_ho_9 g e; omega)
              rintro _ rfl
              rintro _ rfl
              rintro _ rfl
              rintro _ rfl
              rintro _ hb_g7
              refine wa_tail (by kernel_rfl) ?_
              show WL _ _ _ [_] _ _ _
              refine wl_val (ov_assign rfl) rfl rfl rfl ?_
              refine q_nil ?_
              refine k_then ?_
              refine q_ret ?_
              refine e_retL (rs := [.tmp 6, .cell 7 29, .tmp 8]) (vs := [(.pointer (some ⟨g, 0, none⟩)), .agg #[(.int .i64 (↑m : Int)), (.slice A103 (l.drop (Int.toNat a2)).length c103), (.int .u64 (↑p : Int))], (.bool true)]) rfl ⟨rfl, ⟨_, _, [(.int .i64 (↑m : Int)), (.slice A103 (l.drop (Int.toNat a2)).length c103), (.int .u64 (↑p : Int))], rfl, ag29_3, hb_g7, rfl⟩, rfl, trivial⟩ ?_
              rw [bpk_ok hn] at hb114
              simp only [drop_take_len] at hb114
              exact ⟨_, _, _, g, _, _, _, _, _, _, rfl, ⟨hb114, (OwnB.rd ho103), Nat.le_refl _, by omega, by omega, fun x e => by have := hDs x e; omega, by simp; omega, by omega, fun x e => by have := hDs x e; omega⟩, by omega, hC, .inl rfl, Nx.refl _ _, .inr (by omega)⟩
      · refine wc_regionL ?_
        refine wl_val (ov_eql rfl rfl) rfl rfl rfl ?_
        refine wl_val (ov_assign rfl) rfl rfl rfl ?_
        refine q_nil ?_
        refine k_then ?_
        refine wc_cond_d rfl (fun hc5 => ?_) (fun hc5 => ?_)
        · by_cases hn : a2 < 0
          · refine wc_seq ?_
            refine wc_regionL ?_
            refine wl_val (ov_loadBlk (cs := [(.int .i64 (↑m : Int)), (.slice A l.length c), (.int .u64 (↑p : Int))]) ag29_3 rfl hb_g4) rfl rfl rfl ?_
            refine wl_val (ov_field0 (off := 1) fo42_1 rfl) rfl rfl rfl ?_
            refine wl_val (ov_loadAt oc3 rfl hb_g5 rfl) rfl rfl rfl ?_
            refine wl_step (or_call0 cl57 rfl rfl (rtake_neg _ _ _ (m) _ _ l (p) hr (by omega) (by omega) a2 (by omega))) rfl rfl rfl ?_
            rintro v w205 ⟨rfl, he103⟩
            replace hbuf := hbuf.ext he103
            replace hr := hr.ext he103
            replace hrq := hrq.ext he103
            replace hC := hC.ext he103
            replace hb_g4 := hb_g4.ext he103
            replace hb_g5 := hb_g5.ext he103
            replace hb_g7 := hb_g7.ext he103
            replace ho31 := Own.ext ho31 he103
            have hz_he103 := he103.size
            refine wl_val (ov_move rfl) rfl rfl rfl ?_
            refine wl_val (ov_extract rfl rfl) rfl rfl rfl ?_
            refine wl_val (ov_extract rfl rfl) rfl rfl rfl ?_
            refine wl_val (ov_extract rfl rfl) rfl rfl rfl ?_
            refine wl_step (or_alloc (cs := [(.int .i64 0), (.slice none 0 0), (.int .u64 0)]) ze29 rfl) rfl rfl rfl ?_
            rintro v w206 ⟨g17, rfl, hb_g17, he17, hl17, hu17⟩
            replace hbuf := hbuf.ext he17
            replace hr := hr.ext he17
            replace hrq := hrq.ext he17
            replace hC := hC.ext he17
            replace hb_g4 := hb_g4.ext he17
            replace hb_g5 := hb_g5.ext he17
            replace hb_g7 := hb_g7.ext he17
            replace ho31 := Own.ext ho31 he17
            have hz_he17 := he17.size
            refine wl_step0 (or_storeBlk (vs := [(.int .i64 (↑m : Int)), (.slice A l.length c), (.int .u64 (↑p : Int))]) sz29 rfl rfl (by simp [Value.oneCell']) hb_g17 rfl) rfl rfl ?_
            rintro _ w207 ⟨hN207, hg207⟩
            have hz_hg207 := hg207.size
            replace hbuf := hbuf.gr hg207 (fun x e => by cases e; omega) (fun x e e2 => by cases e; have := hDs _ e2; omega)
            replace hr := hr.gr hg207 (fun _ e => by cases e; omega)
            replace hrq := hrq.gr hg207 (fun _ e => by cases e; omega)
            replace hC := hC.gr2 hg207 (fun x e => by cases e; first | exact .inl rfl | (right; right; omega))
            replace hb_g4 := hb_g4.gr hg207 (by intro e; cases e; omega)
            replace hb_g5 := hb_g5.gr hg207 (by intro e; cases e; omega)
            replace hb_g7 := hb_g7.gr hg207 (by intro e; cases e; omega)
            replace ho31 := Own.gr ho31 hg207 (by first | exact .inl rfl | (right; intro e; first | (have := hq_ho31 _ e; omega) | (have := Own.lt ho31 e; omega) | exact own_blk_ne ho31 hb_g17 (by decide) e))
            replace hb_g17 := hN207
            refine wl_val (ov_assign rfl) rfl rfl rfl ?_
            refine wl_val (ov_assign rfl) rfl rfl rfl ?_
            refine q_nil ?_
            refine k_then ?_
            refine wc_seq ?_
            refine wc_regionL ?_
            refine wl_val (ov_assign rfl) rfl rfl rfl ?_
            refine q_nil ?_
            refine k_then ?_
            refine wc_seq ?_
            refine wc_seq ?_
            refine wc_regionL ?_
            refine wl_val (ov_field0 (off := 0) fo42_0 rfl) rfl rfl rfl ?_
            refine wl_val (ov_loadAt oc3 rfl hb_g5 rfl) rfl rfl rfl ?_
            refine wl_val (ov_eql rfl rfl) rfl rfl rfl ?_
            refine q_nil ?_
            refine k_then ?_
            refine wc_cond_F rfl (decide_eq_false (by omega)) ?_
            refine wc_regionL ?_
            refine wl_val (ov_move rfl) rfl rfl rfl ?_
            refine wl_val (ov_field0 (off := 1) fo42_1 rfl) rfl rfl rfl ?_
            refine wl_val (ov_loadAt oc3 rfl hb_g5 rfl) rfl rfl rfl ?_
            refine wl_step (or_call0 cl27 rfl rfl (bpeek_ok _ lo g D m l p t hbuf a2 (by omega) (by omega))) rfl rfl rfl ?_
            rintro v w208 ⟨A122, c122, rfl, ho122, he122⟩
            replace hbuf := hbuf.ext he122
            replace hr := hr.ext he122
            replace hrq := hrq.ext he122
            replace hC := hC.ext he122
            replace hb_g4 := hb_g4.ext he122
            replace hb_g5 := hb_g5.ext he122
            replace hb_g7 := hb_g7.ext he122
            replace ho31 := Own.ext ho31 he122
            replace hb_g17 := hb_g17.ext he122
            have hz_he122 := he122.size
            have hq_ho122 := fun g e => Own.lt ho122 (g := g) e
            refine wl_val (ov_move rfl) rfl rfl rfl ?_
            refine wl_val (ov_extract rfl rfl) rfl rfl rfl ?_
            refine wl_val (ov_extract rfl rfl) rfl rfl rfl ?_
            refine wl_val (ov_assign rfl) rfl rfl rfl ?_
            refine wl_val (ov_assign rfl) rfl rfl rfl ?_
            refine q_nil ?_
            refine k_then ?_
            refine wc_regionL ?_
            refine wl_val (ov_move rfl) rfl rfl rfl ?_
            refine wl_val (ov_bstr bt26 Try.underlying9 rfl (OwnB.rd ho122)) rfl rfl rfl ?_
            refine wl_val (ov_move rfl) rfl rfl rfl ?_
            refine wl_val (ov_bstr bt26 Try.underlying9 rfl (RdB.nil _ 0 0)) rfl rfl rfl ?_
            refine wl_val (ov_seq rfl rfl) rfl rfl rfl ?_
            refine wl_spell (d := 129) rfl (bt (by rw [bpk_neg hn])) ?_
            refine wl_val (ov_move rfl) rfl rfl rfl ?_
            refine wl_gval (ov_move rfl) rfl rfl rfl rfl rfl ?_
            refine wl_gval (ov_move rfl) rfl rfl rfl rfl rfl ?_
            refine wl_gval (ov_eql rfl rfl) rfl rfl rfl rfl rfl ?_
            refine wl_spell (d := 133) rfl (bt (by rw [bpk_neg hn]; rfl)) ?_
            refine wl_val (ov_pick_t rfl rfl) rfl rfl rfl ?_
            refine wl_val (ov_assign rfl) rfl rfl rfl ?_
            refine q_nil ?_
            refine k_block ?_
            refine k_then ?_
            refine wc_seq ?_
            refine wc_seq ?_
            refine wc_regionL ?_
            refine wl_val (ov_assign rfl) rfl rfl rfl ?_
            refine q_nil ?_
            refine k_then ?_
            have hcap_9 := RdB.cap (OwnB.rd ho122)
            refine wc_block ?_
            refine wc_loop (σ := Nat × List UInt8) (fun s => (bpeek l a2).1.length - s.1) (fun s => [(9, .slice A122 (bpeek l a2).1.length c122), (28, .int .i64 (s.1 : Int)), (0, (.pointer (some ⟨g, 0, none⟩))), (4, (.pointer (some ⟨g4, 0, none⟩))), (6, (.pointer none)), (7, (.pointer (some ⟨g7, 0, none⟩))), (8, (.bool false)), (10, (.bool true))]) (fun s w' => OwnB w' w207.heap.size 5 A122 c122 s.2 ∧ Gr w208 w' (blk A122) ∧ s.2.length = (bpeek l a2).1.length ∧ s.1 ≤ (bpeek l a2).1.length) (0, (bpeek l a2).1) (⟨ho122, (ext_refl _).row _, rfl, Nat.zero_le _⟩) (⟨rfl, rfl, rfl, rfl, rfl, rfl, rfl, rfl, trivial⟩) ?_
            rintro ⟨k_9, l_9⟩ w209 ⟨ho_9, hG_9, hL_9, hk_9⟩
            simp only at hL_9 hk_9
            replace ho_9 : OwnB _ _ _ _ _ l_9 := ho_9
            show WC _ _ _ _ [(9, (.slice A122 (bpeek l a2).1.length c122)), (28, (.int .i64 (↑k_9 : Int))), (0, (.pointer (some ⟨g, 0, none⟩))), (4, (.pointer (some ⟨g4, 0, none⟩))), (6, (.pointer none)), (7, (.pointer (some ⟨g7, 0, none⟩))), (8, (.bool false)), (10, (.bool true))] _
            refine wc_seq ?_
            refine wc_seq ?_
            refine wc_regionL ?_
            refine wl_val (ov_move rfl) rfl rfl rfl ?_
            refine wl_val (ov_move rfl) rfl rfl rfl ?_
            refine wl_val (ov_len Try.underlying26 rfl) rfl rfl rfl ?_
            refine wl_val (ov_lss rfl rfl) rfl rfl rfl ?_
            refine q_nil ?_
            refine k_then ?_
            refine wc_cond_d rfl (fun hc11 => ?_) (fun hc11 => ?_)
            · obtain ⟨g_9, hA_9, hg1_9, hgu_9⟩ := Own.addr ho_9 (by omega)
              subst hA_9
              refine q_skip ?_
              refine k_then ?_
              refine wc_seq ?_
              refine wc_block ?_
              refine wc_regionL ?_
              refine wl_val (ov_move rfl) rfl rfl rfl ?_
              refine wl_val (ov_move rfl) rfl rfl rfl ?_
              refine wl_val (ov_oindex bt26.s rfl rfl rfl (by omega)) rfl rfl rfl ?_
              refine wl_val (ov_load oc5 rfl (OwnB.cellAt ho_9 (by omega))) rfl rfl rfl ?_
              refine wl_val (ov_add rfl rfl (wu8_succ _)) rfl rfl rfl ?_
              refine wl_val (ov_oindex bt26.s rfl rfl rfl (by omega)) rfl rfl rfl ?_
              refine wl_step0 (or_storeOwn sz5 rfl rfl ho_9 (by omega)) rfl rfl ?_
              rintro _ w210 ⟨ho2_9, hg2_9⟩
              have hz2_9 := hg2_9.size
              refine q_nil ?_
              refine k_block ?_
              refine k_then ?_
              refine wc_regionL ?_
              refine wl_val (ov_move rfl) rfl rfl rfl ?_
              refine wl_val (ov_add rfl rfl (wi64 (by omega) (by omega))) rfl rfl rfl ?_
              refine wl_val (ov_assign rfl) rfl rfl rfl ?_
              refine q_nil ?_
              refine k_loop ((k_9 + 1, l_9.set k_9 ((l_9.getD k_9 0) + 1))) (by show (bpeek l a2).1.length - (k_9 + 1) < (bpeek l a2).1.length - k_9; omega) (⟨rfl, rfl, rfl, rfl, rfl, rfl, rfl, rfl, trivial⟩) (⟨ho2_9, hG_9.gr hg2_9 (fun g e => .inl e), by show (List.set _ _ _).length = _; rw [List.length_set]; exact hL_9, by show k_9 + 1 ≤ _; omega⟩)
            · refine wc_spell (d := 9) rfl (v' := .slice A122 l_9.length c122) (by rw [hL_9]) ?_
              have hz_hG_9 := hG_9.size
              replace hbuf := hbuf.gr hG_9 (fun x e => by have := hq_ho122 x e; omega) (fun x e e2 => by have h1 := hq_ho122 x e; have h2 := hDs x e2; omega)
              replace hr := hr.gr hG_9 (fun g e => by have := hq_ho122 g e; omega)
              replace hrq := hrq.gr hG_9 (fun g e => by have := hq_ho122 g e; omega)
              replace hC := hC.gr2 hG_9 (fun x e => .inr (.inr (by have := hq_ho122 x e; omega)))
              replace hb_g4 := hb_g4.gr hG_9 (fun e => by have := hq_ho122 _ e; omega)
              replace hb_g5 := hb_g5.gr hG_9 (fun e => by have := hq_ho122 _ e; omega)
              replace hb_g7 := hb_g7.gr hG_9 (fun e => by have := hq_ho122 _ e; omega)
              replace ho31 := Own.gr ho31 hG_9 (own_apart fun g e g2 e2 => by have := hq_ho31 g e; have := hq_ho122 g2 e2; omega)
              replace hb_g17 := hb_g17.gr hG_9 (fun e => by have := hq_ho122 _ e; omega)
              have hq_ho_9 := fun g e => Own.lt ho_9 (g := g) e
              refine q_exit ?_
              refine k_thenX ?_
              refine k_thenX ?_
              refine k_blockE ?_
              refine k_then ?_
              refine wc_seq ?_
              refine wc_drawA mixed ?_
              intro w210 hx45
              replace hbuf := hbuf.ext hx45
              replace hr := hr.ext hx45
              replace hrq := hrq.ext hx45
              replace hC := hC.ext hx45
              replace hb_g4 := hb_g4.ext hx45
              replace hb_g5 := hb_g5.ext hx45
              replace hb_g7 := hb_g7.ext hx45
              replace ho31 := Own.ext ho31 hx45
              replace hb_g17 := hb_g17.ext hx45
              replace ho_9 := Own.ext ho_9 hx45
              have hz_hx45 := hx45.size
              refine wa_main (BelS w210.heap.size [g7]) (bels_ext) (bels_tr) 0 5 [(200, eqv (.pointer (some ⟨g, 0, none⟩))), (201, eqv (.agg #[(.int .i64 (↑m : Int)), (.slice A l.length c), (.int .u64 (↑p : Int))])), (202, eqv (.bool true)), (6, eqv (.pointer (some ⟨g, 0, none⟩))), (207, (fun _ w => Blk w g7 29 [(.int .i64 (↑m : Int)), (.slice A l.length c), (.int .u64 (↑p : Int))]))] [[], [], [], [0], [1]] [false, false, false, false, true] [false, false, false, false, true] [true, true, true, true, true] false [(0, (.pointer (some ⟨g, 0, none⟩))), (4, (.pointer (some ⟨g4, 0, none⟩))), (7, (.pointer (some ⟨g7, 0, none⟩))), (8, (.bool false)), (10, (.bool true))] [] [] (Env.sub_get ⟨rfl, rfl, rfl, rfl, rfl, trivial⟩) trivial (by kernel_rfl) rfl ⟨stb_eqv _, stb_eqv _, stb_eqv _, stb_eqv _, (fun _ w w' hb he => hb.ext he), trivial⟩ ⟨?_, ?_, ?_, ?_, ?_, trivial⟩ ?_
              · intro wd hxE
                have hk_hxE := bels_out hxE
                obtain ⟨cs_g7, hcs_g7, hb_g7⟩ := bels_blk hxE (by simp) hb_g7
                have hz_hk_hxE := hk_hxE.size
                replace hbuf := hbuf.kp hk_hxE (by intro hg; simp at hg; omega) (fun x e hg => by simp at hg; have := hDs x e; omega)
                replace hr := hk_hxE.rd hr (by intro g hg; simp at hg; omega)
                replace hrq := hk_hxE.rd hrq (by intro g hg; simp at hg; omega)
                replace hC := hC.kp2 hk_hxE (by intro x hx; simp at hx; omega)
                replace hb_g4 := hk_hxE.bk hb_g4 (by intro hg; simp at hg; omega)
                replace hb_g5 := hk_hxE.bk hb_g5 (by intro hg; simp at hg; omega)
                replace ho31 := hk_hxE.own ho31 (by intro g e hg; simp at hg; have := hq_ho31 g e; omega)
                replace hb_g17 := hk_hxE.bk hb_g17 (by intro hg; simp at hg; omega)
                replace ho_9 := hk_hxE.own ho_9 (by intro g e hg; simp at hg; have := hq_ho_9 g e; omega)
                show OpG _ _ _ _ _ _
                exact og_plain rfl (ox_val (ov_move rfl))
              · intro wd hxE
                have hk_hxE := bels_out hxE
                obtain ⟨cs_g7, hcs_g7, hb_g7⟩ := bels_blk hxE (by simp) hb_g7
                have hz_hk_hxE := hk_hxE.size
                replace hbuf := hbuf.kp hk_hxE (by intro hg; simp at hg; omega) (fun x e hg => by simp at hg; have := hDs x e; omega)
                replace hr := hk_hxE.rd hr (by intro g hg; simp at hg; omega)
                replace hrq := hk_hxE.rd hrq (by intro g hg; simp at hg; omega)
                replace hC := hC.kp2 hk_hxE (by intro x hx; simp at hx; omega)
                replace hb_g4 := hk_hxE.bk hb_g4 (by intro hg; simp at hg; omega)
                replace hb_g5 := hk_hxE.bk hb_g5 (by intro hg; simp at hg; omega)
                replace ho31 := hk_hxE.own ho31 (by intro g e hg; simp at hg; have := hq_ho31 g e; omega)
                replace hb_g17 := hk_hxE.bk hb_g17 (by intro hg; simp at hg; omega)
                replace ho_9 := hk_hxE.own ho_9 (by intro g e hg; simp at hg; have := hq_ho_9 g e; omega)
                show OpG _ _ _ _ _ _
                exact og_plain rfl (ox_val (ov_loadBlk (cs := [(.int .i64 (↑m : Int)), (.slice A l.length c), (.int .u64 (↑p : Int))]) ag29_3 rfl hb_g4))
              · intro wd hxE
                have hk_hxE := bels_out hxE
                obtain ⟨cs_g7, hcs_g7, hb_g7⟩ := bels_blk hxE (by simp) hb_g7
                have hz_hk_hxE := hk_hxE.size
                replace hbuf := hbuf.kp hk_hxE (by intro hg; simp at hg; omega) (fun x e hg => by simp at hg; have := hDs x e; omega)
                replace hr := hk_hxE.rd hr (by intro g hg; simp at hg; omega)
                replace hrq := hk_hxE.rd hrq (by intro g hg; simp at hg; omega)
                replace hC := hC.kp2 hk_hxE (by intro x hx; simp at hx; omega)
                replace hb_g4 := hk_hxE.bk hb_g4 (by intro hg; simp at hg; omega)
                replace hb_g5 := hk_hxE.bk hb_g5 (by intro hg; simp at hg; omega)
                replace ho31 := hk_hxE.own ho31 (by intro g e hg; simp at hg; have := hq_ho31 g e; omega)
                replace hb_g17 := hk_hxE.bk hb_g17 (by intro hg; simp at hg; omega)
                replace ho_9 := hk_hxE.own ho_9 (by intro g e hg; simp at hg; have := hq_ho_9 g e; omega)
                show OpG _ _ _ _ _ _
                exact og_plain rfl (ox_val (ov_move rfl))
              · intro wd hxE
                have hk_hxE := bels_out hxE
                obtain ⟨cs_g7, hcs_g7, hb_g7⟩ := bels_blk hxE (by simp) hb_g7
                have hz_hk_hxE := hk_hxE.size
                replace hbuf := hbuf.kp hk_hxE (by intro hg; simp at hg; omega) (fun x e hg => by simp at hg; have := hDs x e; omega)
                replace hr := hk_hxE.rd hr (by intro g hg; simp at hg; omega)
                replace hrq := hk_hxE.rd hrq (by intro g hg; simp at hg; omega)
                replace hC := hC.kp2 hk_hxE (by intro x hx; simp at hx; omega)
                replace hb_g4 := hk_hxE.bk hb_g4 (by intro hg; simp at hg; omega)
                replace hb_g5 := hk_hxE.bk hb_g5 (by intro hg; simp at hg; omega)
                replace ho31 := hk_hxE.own ho31 (by intro g e hg; simp at hg; have := hq_ho31 g e; omega)
                replace hb_g17 := hk_hxE.bk hb_g17 (by intro hg; simp at hg; omega)
                replace ho_9 := hk_hxE.own ho_9 (by intro g e hg; simp at hg; have := hq_ho_9 g e; omega)
                rintro _ rfl
                show OpG _ _ _ _ _ _
                exact og_plain rfl (ox_val (ov_assign rfl))
              · intro wd hxE
                have hk_hxE := bels_out hxE
                obtain ⟨cs_g7, hcs_g7, hb_g7⟩ := bels_blk hxE (by simp) hb_g7
                have hz_hk_hxE := hk_hxE.size
                replace hbuf := hbuf.kp hk_hxE (by intro hg; simp at hg; omega) (fun x e hg => by simp at hg; have := hDs x e; omega)
                replace hr := hk_hxE.rd hr (by intro g hg; simp at hg; omega)
                replace hrq := hk_hxE.rd hrq (by intro g hg; simp at hg; omega)
                replace hC := hC.kp2 hk_hxE (by intro x hx; simp at hx; omega)
                replace hb_g4 := hk_hxE.bk hb_g4 (by intro hg; simp at hg; omega)
                replace hb_g5 := hk_hxE.bk hb_g5 (by intro hg; simp at hg; omega)
                replace ho31 := hk_hxE.own ho31 (by intro g e hg; simp at hg; have := hq_ho31 g e; omega)
                replace hb_g17 := hk_hxE.bk hb_g17 (by intro hg; simp at hg; omega)
                replace ho_9 := hk_hxE.own ho_9 (by intro g e hg; simp at hg; have := hq_ho_9 g e; omega)
                rintro _ rfl
                show OpG _ _ _ _ _ _
                have hb0 := hb_g7
                refine og_plain rfl (OpRun.mono (or_storeBlk (vs := [(.int .i64 (↑m : Int)), (.slice A l.length c), (.int .u64 (↑p : Int))]) sz29 rfl rfl (by simp [Value.oneCell']) hb_g7 hcs_g7) ?_)
                rintro _ w211 ⟨hN211, hg211⟩
                have hz_hg211 := hg211.size
                replace hbuf := hbuf.gr hg211 (fun x e => by cases e; omega) (fun x e e2 => by cases e; have := hDs _ e2; omega)
                replace hr := hr.gr hg211 (fun _ e => by cases e; omega)
                replace hrq := hrq.gr hg211 (fun _ e => by cases e; omega)
                replace hC := hC.gr2 hg211 (fun x e => by cases e; first | exact .inl rfl | (right; right; omega))
                replace hb_g4 := hb_g4.gr hg211 (by intro e; cases e; omega)
                replace hb_g5 := hb_g5.gr hg211 (by intro e; cases e; omega)
                replace ho31 := Own.gr ho31 hg211 (by first | exact .inl rfl | (right; intro e; first | (have := hq_ho31 _ e; omega) | (have := Own.lt ho31 e; omega) | exact own_blk_ne ho31 hb_g7 (by decide) e))
                replace hb_g17 := hb_g17.gr hg211 (by intro e; cases e; omega)
                replace ho_9 := Own.gr ho_9 hg211 (by first | exact .inl rfl | (right; intro e; first | (have := hq_ho_9 _ e; omega) | (have := Own.lt ho_9 e; omega) | exact own_blk_ne ho_9 hb_g7 (by decide) e))
                replace hb_g7 := hN211
                exact ⟨hb_g7, bels_store hg211 (by simp) hb0 hb_g7 hcs_g7⟩
              · intro wf45 hf45
                have hk_hf45 := bels_out hf45
                obtain ⟨cs_g7, hcs_g7, hb_g7⟩ := bels_blk hf45 (by simp) hb_g7
                have hz_hk_hf45 := hk_hf45.size
                replace hbuf := hbuf.kp hk_hf45 (by intro hg; simp at hg; omega) (fun x e hg => by simp at hg; have := hDs x e; omega)
                replace hr := hk_hf45.rd hr (by intro g hg; simp at hg; omega)
                replace hrq := hk_hf45.rd hrq (by intro g hg; simp at hg; omega)
                replace hC := hC.kp2 hk_hf45 (by intro x hx; simp at hx; omega)
                replace hb_g4 := hk_hf45.bk hb_g4 (by intro hg; simp at hg; omega)
                replace hb_g5 := hk_hf45.bk hb_g5 (by intro hg; simp at hg; omega)
                replace ho31 := hk_hf45.own ho31 (by intro g e hg; simp at hg; have := hq_ho31 g e; omega)
                replace hb_g17 := hk_hf45.bk hb_g17 (by intro hg; simp at hg; omega)
                replace ho_9 := hk_hf45.own ho_9 (by intro g e hg; simp at hg; have := hq_ho_9 g e; omega)
                rintro _ rfl
                rintro _ rfl
                rintro _ rfl
                rintro _ rfl
                rintro _ hb_g7
                refine wa_tail (by kernel_rfl) ?_
                show WL _ _ _ [_] _ _ _
                refine wl_val (ov_assign rfl) rfl rfl rfl ?_
                refine q_nil ?_
                refine k_then ?_
                refine q_ret ?_
                refine e_retL (rs := [.tmp 6, .cell 7 29, .tmp 8]) (vs := [(.pointer (some ⟨g, 0, none⟩)), .agg #[(.int .i64 (↑m : Int)), (.slice A l.length c), (.int .u64 (↑p : Int))], (.bool true)]) rfl ⟨rfl, ⟨_, _, [(.int .i64 (↑m : Int)), (.slice A l.length c), (.int .u64 (↑p : Int))], rfl, ag29_3, hb_g7, rfl⟩, rfl, trivial⟩ ?_
                exact ⟨_, _, _, g, _, _, _, _, _, _, rfl, ⟨hbuf, hr, by omega, by omega, by omega, fun x e => by have := hDs x e; omega, hpt, by omega, fun x e => by have := hDs x e; omega⟩, by omega, hC, .inl rfl, Nx.refl _ _, .inl ⟨rfl, rfl⟩⟩
          · refine wc_seq ?_
            refine wc_regionL ?_
            refine wl_val (ov_loadBlk (cs := [(.int .i64 (↑m : Int)), (.slice A l.length c), (.int .u64 (↑p : Int))]) ag29_3 rfl hb_g4) rfl rfl rfl ?_
            refine wl_val (ov_field0 (off := 1) fo42_1 rfl) rfl rfl rfl ?_
            refine wl_val (ov_loadAt oc3 rfl hb_g5 rfl) rfl rfl rfl ?_
            refine wl_step (or_call0 cl57 rfl rfl (rtake_ok _ _ _ (m) _ _ l (p) hr (by omega) (by omega) (by omega) a2 (by omega) (by omega))) rfl rfl rfl ?_
            rintro v w205 ⟨A103, c103, B103, d103, rfl, ho103, hrB103, he103⟩
            replace hbuf := hbuf.ext he103
            replace hr := hr.ext he103
            replace hrq := hrq.ext he103
            replace hC := hC.ext he103
            replace hb_g4 := hb_g4.ext he103
            replace hb_g5 := hb_g5.ext he103
            replace hb_g7 := hb_g7.ext he103
            replace ho31 := Own.ext ho31 he103
            have hz_he103 := he103.size
            have hq_ho103 := fun g e => Own.lt ho103 (g := g) e
            refine wl_val (ov_move rfl) rfl rfl rfl ?_
            refine wl_val (ov_extract rfl rfl) rfl rfl rfl ?_
            refine wl_val (ov_extract rfl rfl) rfl rfl rfl ?_
            refine wl_val (ov_extract rfl rfl) rfl rfl rfl ?_
            refine wl_step (or_alloc (cs := [(.int .i64 0), (.slice none 0 0), (.int .u64 0)]) ze29 rfl) rfl rfl rfl ?_
            rintro v w206 ⟨g17, rfl, hb_g17, he17, hl17, hu17⟩
            replace hbuf := hbuf.ext he17
            replace hr := hr.ext he17
            replace hrq := hrq.ext he17
            replace hC := hC.ext he17
            replace hb_g4 := hb_g4.ext he17
            replace hb_g5 := hb_g5.ext he17
            replace hb_g7 := hb_g7.ext he17
            replace ho31 := Own.ext ho31 he17
            replace ho103 := Own.ext ho103 he17
            replace hrB103 := hrB103.ext he17
            have hz_he17 := he17.size
            refine wl_step0 (or_storeBlk (vs := [(.int .i64 (↑m : Int)), (.slice A103 (l.drop (Int.toNat a2)).length c103), (.int .u64 (↑p : Int))]) sz29 rfl rfl (by simp [Value.oneCell']) hb_g17 rfl) rfl rfl ?_
            rintro _ w207 ⟨hN207, hg207⟩
            have hz_hg207 := hg207.size
            replace hbuf := hbuf.gr hg207 (fun x e => by cases e; omega) (fun x e e2 => by cases e; have := hDs _ e2; omega)
            replace hr := hr.gr hg207 (fun _ e => by cases e; omega)
            replace hrq := hrq.gr hg207 (fun _ e => by cases e; omega)
            replace hC := hC.gr2 hg207 (fun x e => by cases e; first | exact .inl rfl | (right; right; omega))
            replace hb_g4 := hb_g4.gr hg207 (by intro e; cases e; omega)
            replace hb_g5 := hb_g5.gr hg207 (by intro e; cases e; omega)
            replace hb_g7 := hb_g7.gr hg207 (by intro e; cases e; omega)
            replace ho31 := Own.gr ho31 hg207 (by first | exact .inl rfl | (right; intro e; first | (have := hq_ho31 _ e; omega) | (have := Own.lt ho31 e; omega) | exact own_blk_ne ho31 hb_g17 (by decide) e))
            replace ho103 := Own.gr ho103 hg207 (by first | exact .inl rfl | (right; intro e; first | (have := hq_ho103 _ e; omega) | (have := Own.lt ho103 e; omega) | exact own_blk_ne ho103 hb_g17 (by decide) e))
            replace hrB103 := hrB103.gr hg207 (fun _ e => by cases e; omega)
            replace hb_g17 := hN207
            refine wl_val (ov_assign rfl) rfl rfl rfl ?_
            refine wl_val (ov_assign rfl) rfl rfl rfl ?_
            refine q_nil ?_
            refine k_then ?_
            refine wc_seq ?_
            refine wc_regionL ?_
            refine wl_val (ov_assign rfl) rfl rfl rfl ?_
            refine q_nil ?_
            refine k_then ?_
            refine wc_seq ?_
            refine wc_seq ?_
            refine wc_regionL ?_
            refine wl_val (ov_field0 (off := 0) fo42_0 rfl) rfl rfl rfl ?_
            refine wl_val (ov_loadAt oc3 rfl hb_g5 rfl) rfl rfl rfl ?_
            refine wl_val (ov_eql rfl rfl) rfl rfl rfl ?_
            refine q_nil ?_
            refine k_then ?_
            refine wc_cond_F rfl (decide_eq_false (by omega)) ?_
            refine wc_regionL ?_
            refine wl_val (ov_move rfl) rfl rfl rfl ?_
            refine wl_val (ov_field0 (off := 1) fo42_1 rfl) rfl rfl rfl ?_
            refine wl_val (ov_loadAt oc3 rfl hb_g5 rfl) rfl rfl rfl ?_
            refine wl_step (or_call0 cl27 rfl rfl (bpeek_ok _ lo g D m l p t hbuf a2 (by omega) (by omega))) rfl rfl rfl ?_
            rintro v w208 ⟨A122, c122, rfl, ho122, he122⟩
            replace hbuf := hbuf.ext he122
            replace hr := hr.ext he122
            replace hrq := hrq.ext he122
            replace hC := hC.ext he122
            replace hb_g4 := hb_g4.ext he122
            replace hb_g5 := hb_g5.ext he122
            replace hb_g7 := hb_g7.ext he122
            replace ho31 := Own.ext ho31 he122
            replace ho103 := Own.ext ho103 he122
            replace hrB103 := hrB103.ext he122
            replace hb_g17 := hb_g17.ext he122
            have hz_he122 := he122.size
            have hq_ho122 := fun g e => Own.lt ho122 (g := g) e
            refine wl_val (ov_move rfl) rfl rfl rfl ?_
            refine wl_val (ov_extract rfl rfl) rfl rfl rfl ?_
            refine wl_val (ov_extract rfl rfl) rfl rfl rfl ?_
            refine wl_val (ov_assign rfl) rfl rfl rfl ?_
            refine wl_val (ov_assign rfl) rfl rfl rfl ?_
            refine q_nil ?_
            refine k_then ?_
            refine wc_regionL ?_
            refine wl_val (ov_move rfl) rfl rfl rfl ?_
            refine wl_val (ov_bstr bt26 Try.underlying9 rfl (OwnB.rd ho122)) rfl rfl rfl ?_
            refine wl_val (ov_move rfl) rfl rfl rfl ?_
            refine wl_val (ov_bstr bt26 Try.underlying9 rfl hrB103) rfl rfl rfl ?_
            refine wl_val (ov_seq rfl rfl) rfl rfl rfl ?_
            refine wl_spell (d := 129) rfl (bt (by rw [bpk_ok hn])) ?_
            refine wl_val (ov_move rfl) rfl rfl rfl ?_
            refine wl_gval (ov_move rfl) rfl rfl rfl rfl rfl ?_
            refine wl_gval (ov_move rfl) rfl rfl rfl rfl rfl ?_
            refine wl_gval (ov_eql rfl rfl) rfl rfl rfl rfl rfl ?_
            refine wl_spell (d := 133) rfl (bt (by rw [bpk_ok hn]; rfl)) ?_
            refine wl_val (ov_pick_t rfl rfl) rfl rfl rfl ?_
            refine wl_val (ov_assign rfl) rfl rfl rfl ?_
            refine q_nil ?_
            refine k_block ?_
            refine k_then ?_
            refine wc_seq ?_
            refine wc_seq ?_
            refine wc_regionL ?_
            refine wl_val (ov_assign rfl) rfl rfl rfl ?_
            refine q_nil ?_
            refine k_then ?_
            have hcap_9 := RdB.cap (OwnB.rd ho122)
            refine wc_block ?_
            refine wc_loop (σ := Nat × List UInt8) (fun s => (bpeek l a2).1.length - s.1) (fun s => [(9, .slice A122 (bpeek l a2).1.length c122), (28, .int .i64 (s.1 : Int)), (0, (.pointer (some ⟨g, 0, none⟩))), (4, (.pointer (some ⟨g4, 0, none⟩))), (6, (.pointer none)), (7, (.pointer (some ⟨g7, 0, none⟩))), (8, (.bool false)), (10, (.bool true))]) (fun s w' => OwnB w' w207.heap.size 5 A122 c122 s.2 ∧ Gr w208 w' (blk A122) ∧ s.2.length = (bpeek l a2).1.length ∧ s.1 ≤ (bpeek l a2).1.length) (0, (bpeek l a2).1) (⟨ho122, (ext_refl _).row _, rfl, Nat.zero_le _⟩) (⟨rfl, rfl, rfl, rfl, rfl, rfl, rfl, rfl, trivial⟩) ?_
            rintro ⟨k_9, l_9⟩ w209 ⟨ho_9, hG_9, hL_9, hk_9⟩
            simp only at hL_9 hk_9
            replace ho_9 : OwnB _ _ _ _ _ l_9 := ho_9
            show WC _ _ _ _ [(9, (.slice A122 (bpeek l a2).1.length c122)), (28, (.int .i64 (↑k_9 : Int))), (0, (.pointer (some ⟨g, 0, none⟩))), (4, (.pointer (some ⟨g4, 0, none⟩))), (6, (.pointer none)), (7, (.pointer (some ⟨g7, 0, none⟩))), (8, (.bool false)), (10, (.bool true))] _
            refine wc_seq ?_
            refine wc_seq ?_
            refine wc_regionL ?_
            refine wl_val (ov_move rfl) rfl rfl rfl ?_
            refine wl_val (ov_move rfl) rfl rfl rfl ?_
            refine wl_val (ov_len Try.underlying26 rfl) rfl rfl rfl ?_
            refine wl_val (ov_lss rfl rfl) rfl rfl rfl ?_
            refine q_nil ?_
            refine k_then ?_
            refine wc_cond_d rfl (fun hc11 => ?_) (fun hc11 => ?_)
            · obtain ⟨g_9, hA_9, hg1_9, hgu_9⟩ := Own.addr ho_9 (by omega)
              subst hA_9
              refine q_skip ?_
              refine k_then ?_
              refine wc_seq ?_
              refine wc_block ?_
              refine wc_regionL ?_
              refine wl_val (ov_move rfl) rfl rfl rfl ?_
              refine wl_val (ov_move rfl) rfl rfl rfl ?_
              refine wl_val (ov_oindex bt26.s rfl rfl rfl (by omega)) rfl rfl rfl ?_
              refine wl_val (ov_load oc5 rfl (OwnB.cellAt ho_9 (by omega))) rfl rfl rfl ?_
              refine wl_val (ov_add rfl rfl (wu8_succ _)) rfl rfl rfl ?_
              refine wl_val (ov_oindex bt26.s rfl rfl rfl (by omega)) rfl rfl rfl ?_
              refine wl_step0 (or_storeOwn sz5 rfl rfl ho_9 (by omega)) rfl rfl ?_
              rintro _ w210 ⟨ho2_9, hg2_9⟩
              have hz2_9 := hg2_9.size
              refine q_nil ?_
              refine k_block ?_
              refine k_then ?_
              refine wc_regionL ?_
              refine wl_val (ov_move rfl) rfl rfl rfl ?_
              refine wl_val (ov_add rfl rfl (wi64 (by omega) (by omega))) rfl rfl rfl ?_
              refine wl_val (ov_assign rfl) rfl rfl rfl ?_
              refine q_nil ?_
              refine k_loop ((k_9 + 1, l_9.set k_9 ((l_9.getD k_9 0) + 1))) (by show (bpeek l a2).1.length - (k_9 + 1) < (bpeek l a2).1.length - k_9; omega) (⟨rfl, rfl, rfl, rfl, rfl, rfl, rfl, rfl, trivial⟩) (⟨ho2_9, hG_9.gr hg2_9 (fun g e => .inl e), by show (List.set _ _ _).length = _; rw [List.length_set]; exact hL_9, by show k_9 + 1 ≤ _; omega⟩)
            · refine wc_spell (d := 9) rfl (v' := .slice A122 l_9.length c122) (by rw [hL_9]) ?_
              have hz_hG_9 := hG_9.size
              replace hbuf := hbuf.gr hG_9 (fun x e => by have := hq_ho122 x e; omega) (fun x e e2 => by have h1 := hq_ho122 x e; have h2 := hDs x e2; omega)
              replace hr := hr.gr hG_9 (fun g e => by have := hq_ho122 g e; omega)
              replace hrq := hrq.gr hG_9 (fun g e => by have := hq_ho122 g e; omega)
              replace hC := hC.gr2 hG_9 (fun x e => .inr (.inr (by have := hq_ho122 x e; omega)))
              replace hb_g4 := hb_g4.gr hG_9 (fun e => by have := hq_ho122 _ e; omega)
              replace hb_g5 := hb_g5.gr hG_9 (fun e => by have := hq_ho122 _ e; omega)
              replace hb_g7 := hb_g7.gr hG_9 (fun e => by have := hq_ho122 _ e; omega)
              replace ho31 := Own.gr ho31 hG_9 (own_apart fun g e g2 e2 => by have := hq_ho31 g e; have := hq_ho122 g2 e2; omega)
              replace ho103 := Own.gr ho103 hG_9 (own_apart fun g e g2 e2 => by have := hq_ho103 g e; have := hq_ho122 g2 e2; omega)
              replace hrB103 := hrB103.gr hG_9 (fun g e => by have := hq_ho122 g e; omega)
              replace hb_g17 := hb_g17.gr hG_9 (fun e => by have := hq_ho122 _ e; omega)
              have hq_ho_9 := fun g e => Own.lt ho_9 (g := g) e
              refine q_exit ?_
              refine k_thenX ?_
              refine k_thenX ?_
              refine k_blockE ?_
              refine k_then ?_
              refine wc_seq ?_
              refine wc_drawA mixed ?_
              intro w210 hx45
              replace hbuf := hbuf.ext hx45
              replace hr := hr.ext hx45
              replace hrq := hrq.ext hx45
              replace hC := hC.ext hx45
              replace hb_g4 := hb_g4.ext hx45
              replace hb_g5 := hb_g5.ext hx45
              replace hb_g7 := hb_g7.ext hx45
              replace ho31 := Own.ext ho31 hx45
              replace ho103 := Own.ext ho103 hx45
              replace hrB103 := hrB103.ext hx45
              replace hb_g17 := hb_g17.ext hx45
              replace ho_9 := Own.ext ho_9 hx45
              have hz_hx45 := hx45.size
              refine wa_main (BelS w210.heap.size [g7]) (bels_ext) (bels_tr) 0 5 [(200, eqv (.pointer (some ⟨g, 0, none⟩))), (201, eqv (.agg #[(.int .i64 (↑m : Int)), (.slice A l.length c), (.int .u64 (↑p : Int))])), (202, eqv (.bool true)), (6, eqv (.pointer (some ⟨g, 0, none⟩))), (207, (fun _ w => Blk w g7 29 [(.int .i64 (↑m : Int)), (.slice A l.length c), (.int .u64 (↑p : Int))]))] [[], [], [], [0], [1]] [false, false, false, false, true] [false, false, false, false, true] [true, true, true, true, true] false [(0, (.pointer (some ⟨g, 0, none⟩))), (4, (.pointer (some ⟨g4, 0, none⟩))), (7, (.pointer (some ⟨g7, 0, none⟩))), (8, (.bool false)), (10, (.bool true))] [] [] (Env.sub_get ⟨rfl, rfl, rfl, rfl, rfl, trivial⟩) trivial (by kernel_rfl) rfl ⟨stb_eqv _, stb_eqv _, stb_eqv _, stb_eqv _, (fun _ w w' hb he => hb.ext he), trivial⟩ ⟨?_, ?_, ?_, ?_, ?_, trivial⟩ ?_
              · intro wd hxE
                have hk_hxE := bels_out hxE
                obtain ⟨cs_g7, hcs_g7, hb_g7⟩ := bels_blk hxE (by simp) hb_g7
                have hz_hk_hxE := hk_hxE.size
                replace hbuf := hbuf.kp hk_hxE (by intro hg; simp at hg; omega) (fun x e hg => by simp at hg; have := hDs x e; omega)
                replace hr := hk_hxE.rd hr (by intro g hg; simp at hg; omega)
                replace hrq := hk_hxE.rd hrq (by intro g hg; simp at hg; omega)
                replace hC := hC.kp2 hk_hxE (by intro x hx; simp at hx; omega)
                replace hb_g4 := hk_hxE.bk hb_g4 (by intro hg; simp at hg; omega)
                replace hb_g5 := hk_hxE.bk hb_g5 (by intro hg; simp at hg; omega)
                replace ho31 := hk_hxE.own ho31 (by intro g e hg; simp at hg; have := hq_ho31 g e; omega)
                replace ho103 := hk_hxE.own ho103 (by intro g e hg; simp at hg; have := hq_ho103 g e; omega)
                replace hrB103 := hk_hxE.rd hrB103 (by intro g hg; simp at hg; omega)
                replace hb_g17 := hk_hxE.bk hb_g17 (by intro hg; simp at hg; omega)
                replace ho_9 := hk_hxE.own ho_9 (by intro g e hg; simp at hg; have := hq_ho_9 g e; omega)
                show OpG _ _ _ _ _ _
                exact og_plain rfl (ox_val (ov_move rfl))
              · intro wd hxE
                have hk_hxE := bels_out hxE
                obtain ⟨cs_g7, hcs_g7, hb_g7⟩ := bels_blk hxE (by simp) hb_g7
                have hz_hk_hxE := hk_hxE.size
                replace hbuf := hbuf.kp hk_hxE (by intro hg; simp at hg; omega) (fun x e hg => by simp at hg; have := hDs x e; omega)
                replace hr := hk_hxE.rd hr (by intro g hg; simp at hg; omega)
                replace hrq := hk_hxE.rd hrq (by intro g hg; simp at hg; omega)
                replace hC := hC.kp2 hk_hxE (by intro x hx; simp at hx; omega)
                replace hb_g4 := hk_hxE.bk hb_g4 (by intro hg; simp at hg; omega)
                replace hb_g5 := hk_hxE.bk hb_g5 (by intro hg; simp at hg; omega)
                replace ho31 := hk_hxE.own ho31 (by intro g e hg; simp at hg; have := hq_ho31 g e; omega)
                replace ho103 := hk_hxE.own ho103 (by intro g e hg; simp at hg; have := hq_ho103 g e; omega)
                replace hrB103 := hk_hxE.rd hrB103 (by intro g hg; simp at hg; omega)
                replace hb_g17 := hk_hxE.bk hb_g17 (by intro hg; simp at hg; omega)
                replace ho_9 := hk_hxE.own ho_9 (by intro g e hg; simp at hg; have := hq_ho_9 g e; omega)
                show OpG _ _ _ _ _ _
                exact og_plain rfl (ox_val (ov_loadBlk (cs := [(.int .i64 (↑m : Int)), (.slice A l.length c), (.int .u64 (↑p : Int))]) ag29_3 rfl hb_g4))
              · intro wd hxE
                have hk_hxE := bels_out hxE
                obtain ⟨cs_g7, hcs_g7, hb_g7⟩ := bels_blk hxE (by simp) hb_g7
                have hz_hk_hxE := hk_hxE.size
                replace hbuf := hbuf.kp hk_hxE (by intro hg; simp at hg; omega) (fun x e hg => by simp at hg; have := hDs x e; omega)
                replace hr := hk_hxE.rd hr (by intro g hg; simp at hg; omega)
                replace hrq := hk_hxE.rd hrq (by intro g hg; simp at hg; omega)
                replace hC := hC.kp2 hk_hxE (by intro x hx; simp at hx; omega)
                replace hb_g4 := hk_hxE.bk hb_g4 (by intro hg; simp at hg; omega)
                replace hb_g5 := hk_hxE.bk hb_g5 (by intro hg; simp at hg; omega)
                replace ho31 := hk_hxE.own ho31 (by intro g e hg; simp at hg; have := hq_ho31 g e; omega)
                replace ho103 := hk_hxE.own ho103 (by intro g e hg; simp at hg; have := hq_ho103 g e; omega)
                replace hrB103 := hk_hxE.rd hrB103 (by intro g hg; simp at hg; omega)
                replace hb_g17 := hk_hxE.bk hb_g17 (by intro hg; simp at hg; omega)
                replace ho_9 := hk_hxE.own ho_9 (by intro g e hg; simp at hg; have := hq_ho_9 g e; omega)
                show OpG _ _ _ _ _ _
                exact og_plain rfl (ox_val (ov_move rfl))
              · intro wd hxE
                have hk_hxE := bels_out hxE
                obtain ⟨cs_g7, hcs_g7, hb_g7⟩ := bels_blk hxE (by simp) hb_g7
                have hz_hk_hxE := hk_hxE.size
                replace hbuf := hbuf.kp hk_hxE (by intro hg; simp at hg; omega) (fun x e hg => by simp at hg; have := hDs x e; omega)
                replace hr := hk_hxE.rd hr (by intro g hg; simp at hg; omega)
                replace hrq := hk_hxE.rd hrq (by intro g hg; simp at hg; omega)
                replace hC := hC.kp2 hk_hxE (by intro x hx; simp at hx; omega)
                replace hb_g4 := hk_hxE.bk hb_g4 (by intro hg; simp at hg; omega)
                replace hb_g5 := hk_hxE.bk hb_g5 (by intro hg; simp at hg; omega)
                replace ho31 := hk_hxE.own ho31 (by intro g e hg; simp at hg; have := hq_ho31 g e; omega)
                replace ho103 := hk_hxE.own ho103 (by intro g e hg; simp at hg; have := hq_ho103 g e; omega)
                replace hrB103 := hk_hxE.rd hrB103 (by intro g hg; simp at hg; omega)
                replace hb_g17 := hk_hxE.bk hb_g17 (by intro hg; simp at hg; omega)
                replace ho_9 := hk_hxE.own ho_9 (by intro g e hg; simp at hg; have := hq_ho_9 g e; omega)
                rintro _ rfl
                show OpG _ _ _ _ _ _
                exact og_plain rfl (ox_val (ov_assign rfl))
              · intro wd hxE
                have hk_hxE := bels_out hxE
                obtain ⟨cs_g7, hcs_g7, hb_g7⟩ := bels_blk hxE (by simp) hb_g7
                have hz_hk_hxE := hk_hxE.size
                replace hbuf := hbuf.kp hk_hxE (by intro hg; simp at hg; omega) (fun x e hg => by simp at hg; have := hDs x e; omega)
                replace hr := hk_hxE.rd hr (by intro g hg; simp at hg; omega)
                replace hrq := hk_hxE.rd hrq (by intro g hg; simp at hg; omega)
                replace hC := hC.kp2 hk_hxE (by intro x hx; simp at hx; omega)
                replace hb_g4 := hk_hxE.bk hb_g4 (by intro hg; simp at hg; omega)
                replace hb_g5 := hk_hxE.bk hb_g5 (by intro hg; simp at hg; omega)
                replace ho31 := hk_hxE.own ho31 (by intro g e hg; simp at hg; have := hq_ho31 g e; omega)
                replace ho103 := hk_hxE.own ho103 (by intro g e hg; simp at hg; have := hq_ho103 g e; omega)
                replace hrB103 := hk_hxE.rd hrB103 (by intro g hg; simp at hg; omega)
                replace hb_g17 := hk_hxE.bk hb_g17 (by intro hg; simp at hg; omega)
                replace ho_9 := hk_hxE.own ho_9 (by intro g e hg; simp at hg; have := hq_ho_9 g e; omega)
                rintro _ rfl
                show OpG _ _ _ _ _ _
                have hb0 := hb_g7
                refine og_plain rfl (OpRun.mono (or_storeBlk (vs := [(.int .i64 (↑m : Int)), (.slice A l.length c), (.int .u64 (↑p : Int))]) sz29 rfl rfl (by simp [Value.oneCell']) hb_g7 hcs_g7) ?_)
                rintro _ w211 ⟨hN211, hg211⟩
                have hz_hg211 := hg211.size
                replace hbuf := hbuf.gr hg211 (fun x e => by cases e; omega) (fun x e e2 => by cases e; have := hDs _ e2; omega)
                replace hr := hr.gr hg211 (fun _ e => by cases e; omega)
                replace hrq := hrq.gr hg211 (fun _ e => by cases e; omega)
                replace hC := hC.gr2 hg211 (fun x e => by cases e; first | exact .inl rfl | (right; right; omega))
                replace hb_g4 := hb_g4.gr hg211 (by intro e; cases e; omega)
                replace hb_g5 := hb_g5.gr hg211 (by intro e; cases e; omega)
                replace ho31 := Own.gr ho31 hg211 (by first | exact .inl rfl | (right; intro e; first | (have := hq_ho31 _ e; omega) | (have := Own.lt ho31 e; omega) | exact own_blk_ne ho31 hb_g7 (by decide) e))
                replace ho103 := Own.gr ho103 hg211 (by first | exact .inl rfl | (right; intro e; first | (have := hq_ho103 _ e; omega) | (have := Own.lt ho103 e; omega) | exact own_blk_ne ho103 hb_g7 (by decide) e))
                replace hrB103 := hrB103.gr hg211 (fun _ e => by cases e; omega)
                replace hb_g17 := hb_g17.gr hg211 (by intro e; cases e; omega)
                replace ho_9 := Own.gr ho_9 hg211 (by first | exact .inl rfl | (right; intro e; first | (have := hq_ho_9 _ e; omega) | (have := Own.lt ho_9 e; omega) | exact own_blk_ne ho_9 hb_g7 (by decide) e))
                replace hb_g7 := hN211
                exact ⟨hb_g7, bels_store hg211 (by simp) hb0 hb_g7 hcs_g7⟩
              · intro wf45 hf45
                have hk_hf45 := bels_out hf45
                obtain ⟨cs_g7, hcs_g7, hb_g7⟩ := bels_blk hf45 (by simp) hb_g7
                have hz_hk_hf45 := hk_hf45.size
                replace hbuf := hbuf.kp hk_hf45 (by intro hg; simp at hg; omega) (fun x e hg => by simp at hg; have := hDs x e; omega)
                replace hr := hk_hf45.rd hr (by intro g hg; simp at hg; omega)
                replace hrq := hk_hf45.rd hrq (by intro g hg; simp at hg; omega)
                replace hC := hC.kp2 hk_hf45 (by intro x hx; simp at hx; omega)
                replace hb_g4 := hk_hf45.bk hb_g4 (by intro hg; simp at hg; omega)
                replace hb_g5 := hk_hf45.bk hb_g5 (by intro hg; simp at hg; omega)
                replace ho31 := hk_hf45.own ho31 (by intro g e hg; simp at hg; have := hq_ho31 g e; omega)
                replace ho103 := hk_hf45.own ho103 (by intro g e hg; simp at hg; have := hq_ho103 g e; omega)
                replace hrB103 := hk_hf45.rd hrB103 (by intro g hg; simp at hg; omega)
                replace hb_g17 := hk_hf45.bk hb_g17 (by intro hg; simp at hg; omega)
                replace ho_9 := hk_hf45.own ho_9 (by intro g e hg; simp at hg; have := hq_ho_9 g e; omega)
                rintro _ rfl
                rintro _ rfl
                rintro _ rfl
                rintro _ rfl
                rintro _ hb_g7
                refine wa_tail (by kernel_rfl) ?_
                show WL _ _ _ [_] _ _ _
                refine wl_val (ov_assign rfl) rfl rfl rfl ?_
                refine q_nil ?_
                refine k_then ?_
                refine q_ret ?_
                refine e_retL (rs := [.tmp 6, .cell 7 29, .tmp 8]) (vs := [(.pointer (some ⟨g, 0, none⟩)), .agg #[(.int .i64 (↑m : Int)), (.slice A l.length c), (.int .u64 (↑p : Int))], (.bool true)]) rfl ⟨rfl, ⟨_, _, [(.int .i64 (↑m : Int)), (.slice A l.length c), (.int .u64 (↑p : Int))], rfl, ag29_3, hb_g7, rfl⟩, rfl, trivial⟩ ?_
                exact ⟨_, _, _, g, _, _, _, _, _, _, rfl, ⟨hbuf, hr, by omega, by omega, by omega, fun x e => by have := hDs x e; omega, hpt, by omega, fun x e => by have := hDs x e; omega⟩, by omega, hC, .inl rfl, Nx.refl _ _, .inl ⟨rfl, rfl⟩⟩
        · refine wc_seq ?_
          refine wc_regionL ?_
          refine wl_val (ov_eql rfl rfl) rfl rfl rfl ?_
          refine wl_val (ov_assign rfl) rfl rfl rfl ?_
          refine q_nil ?_
          refine k_then ?_
          refine wc_cond_d rfl (fun hc7 => ?_) (fun hc7 => ?_)
          · by_cases hn : a2 < 0
            · refine wc_seq ?_
              refine wc_regionL ?_
              refine wl_val (ov_move rfl) rfl rfl rfl ?_
              refine wl_val (ov_field0 (off := 1) fo42_1 rfl) rfl rfl rfl ?_
              refine wl_val (ov_loadAt oc3 rfl hb_g5 rfl) rfl rfl rfl ?_
              refine wl_step (or_call0 cl23 rfl rfl (bskipm_ok _ lo g D m l p t hbuf a2 (by omega) (by omega) (by omega) (by omega))) rfl rfl rfl ?_
              rintro v w205 ⟨rfl, hb140, hC140⟩
              have hDa140 : ∀ x, D = some x → (b0 ≤ x ∧ (x < lor ∨ hir ≤ x) ∧ x < w.heap.size) ∧ x < w4.heap.size := fun x e => ⟨hDs x e, (hbuf.lt.2 x e).2⟩
              have hz_hC140 := hC140.size
              replace hr := hC140.rd hr (by omega) (fun x e => by have := hDa140 x e; omega)
              replace hrq := hC140.rd hrq (by omega) (fun x e => by have := hDa140 x e; omega)
              replace hC := hC.tr hC140 (fun x e => by first | exact .inl e | (right; have := hDa140 x e; omega))
              replace hb_g4 := hC140.bk hb_g4 (by omega) (fun e2 => by have := hDa140 _ e2; omega)
              replace hb_g5 := hC140.bk hb_g5 (by omega) (fun e2 => by have := hDa140 _ e2; omega)
              replace hb_g7 := hC140.bk hb_g7 (by omega) (fun e2 => by have := hDa140 _ e2; omega)
              replace ho31 := hC140.own ho31 (fun x e => ⟨by have := hq_ho31 x e; omega, fun e2 => by have h1 := hq_ho31 x e; have h2 := hDa140 x e2; omega⟩)
              have hzb140 := hb140.lt.1
              have hcp140 := hb140.cap
              refine wl_val (ov_assign rfl) rfl rfl rfl ?_
              refine q_nil ?_
              refine k_then ?_
              refine wc_seq ?_
              refine wc_regionL ?_
              refine wl_val (ov_loadBlk (cs := [(.int .i64 (↑m : Int)), (.slice A l.length c), (.int .u64 (↑p : Int))]) ag29_3 rfl hb_g4) rfl rfl rfl ?_
              refine wl_val (ov_field0 (off := 1) fo42_1 rfl) rfl rfl rfl ?_
              refine wl_val (ov_loadAt oc3 rfl hb_g5 rfl) rfl rfl rfl ?_
              refine wl_step (or_call0 cl57 rfl rfl (rtake_neg _ _ _ (m) _ _ l (p) hr (by omega) (by omega) a2 (by omega))) rfl rfl rfl ?_
              rintro v w206 ⟨rfl, he145⟩
              replace hr := hr.ext he145
              replace hrq := hrq.ext he145
              replace hC := hC.ext he145
              replace hb_g4 := hb_g4.ext he145
              replace hb_g5 := hb_g5.ext he145
              replace hb_g7 := hb_g7.ext he145
              replace ho31 := Own.ext ho31 he145
              replace hb140 := hb140.ext he145
              have hz_he145 := he145.size
              refine wl_val (ov_move rfl) rfl rfl rfl ?_
              refine wl_val (ov_extract rfl rfl) rfl rfl rfl ?_
              refine wl_val (ov_extract rfl rfl) rfl rfl rfl ?_
              refine wl_val (ov_extract rfl rfl) rfl rfl rfl ?_
              refine wl_step (or_alloc (cs := [(.int .i64 0), (.slice none 0 0), (.int .u64 0)]) ze29 rfl) rfl rfl rfl ?_
              rintro v w207 ⟨g22, rfl, hb_g22, he22, hl22, hu22⟩
              replace hr := hr.ext he22
              replace hrq := hrq.ext he22
              replace hC := hC.ext he22
              replace hb_g4 := hb_g4.ext he22
              replace hb_g5 := hb_g5.ext he22
              replace hb_g7 := hb_g7.ext he22
              replace ho31 := Own.ext ho31 he22
              replace hb140 := hb140.ext he22
              have hz_he22 := he22.size
              refine wl_step0 (or_storeBlk (vs := [(.int .i64 (↑m : Int)), (.slice A l.length c), (.int .u64 (↑p : Int))]) sz29 rfl rfl (by simp [Value.oneCell']) hb_g22 rfl) rfl rfl ?_
              rintro _ w208 ⟨hN208, hg208⟩
              have hz_hg208 := hg208.size
              replace hr := hr.gr hg208 (fun _ e => by cases e; omega)
              replace hrq := hrq.gr hg208 (fun _ e => by cases e; omega)
              replace hC := hC.gr2 hg208 (fun x e => by cases e; first | exact .inl rfl | (right; right; omega))
              replace hb_g4 := hb_g4.gr hg208 (by intro e; cases e; omega)
              replace hb_g5 := hb_g5.gr hg208 (by intro e; cases e; omega)
              replace hb_g7 := hb_g7.gr hg208 (by intro e; cases e; omega)
              replace ho31 := Own.gr ho31 hg208 (by first | exact .inl rfl | (right; intro e; first | (have := hq_ho31 _ e; omega) | (have := Own.lt ho31 e; omega) | exact own_blk_ne ho31 hb_g22 (by decide) e))
              replace hb140 := hb140.gr hg208 (fun x e => by cases e; omega) (fun x e e2 => by cases e; have := hDs _ e2; omega)
              replace hb_g22 := hN208
              refine wl_val (ov_assign rfl) rfl rfl rfl ?_
              refine wl_val (ov_assign rfl) rfl rfl rfl ?_
              refine q_nil ?_
              refine k_then ?_
              refine wc_seq ?_
              refine wc_seq ?_
              refine wc_regionL ?_
              refine wl_val (ov_move rfl) rfl rfl rfl ?_
              refine wl_val (ov_eql rfl rfl) rfl rfl rfl ?_
              refine wl_val (ov_move rfl) rfl rfl rfl ?_
              refine wl_gskip rfl rfl rfl rfl rfl rfl ?_
              refine wl_gskip rfl rfl rfl rfl rfl rfl ?_
              refine wl_gskip rfl rfl rfl rfl rfl rfl ?_
              refine wl_gskip rfl rfl rfl rfl rfl rfl ?_
              refine wl_gskip rfl rfl rfl rfl rfl rfl ?_
              refine wl_gskip rfl rfl rfl rfl rfl rfl ?_
              refine wl_val (ov_pick_f rfl rfl) rfl rfl rfl ?_
              refine q_nil ?_
              refine k_then ?_
              refine wc_cond_f rfl ?_
              refine wc_regionL ?_
              refine wl_val (ov_loadBlk (cs := [(.int .i64 (↑m : Int)), (.slice A l.length c), (.int .u64 (↑p : Int))]) ag29_3 rfl hb_g22) rfl rfl rfl ?_
              refine wl_step0 (or_storeBlk (vs := [(.int .i64 (↑m : Int)), (.slice A l.length c), (.int .u64 (↑p : Int))]) sz29 rfl rfl (by simp [Value.oneCell']) hb_g4 rfl) rfl rfl ?_
              rintro _ w209 ⟨hN209, hg209⟩
              have hz_hg209 := hg209.size
              replace hr := hr.gr hg209 (fun _ e => by cases e; omega)
              replace hrq := hrq.gr hg209 (fun _ e => by cases e; omega)
              replace hC := hC.gr2 hg209 (fun x e => by cases e; first | exact .inl rfl | (right; right; omega))
              replace hb_g5 := hb_g5.gr hg209 (by intro e; cases e; omega)
              replace hb_g7 := hb_g7.gr hg209 (by intro e; cases e; omega)
              replace ho31 := Own.gr ho31 hg209 (by first | exact .inl rfl | (right; intro e; first | (have := hq_ho31 _ e; omega) | (have := Own.lt ho31 e; omega) | exact own_blk_ne ho31 hb_g4 (by decide) e))
              replace hb140 := hb140.gr hg209 (fun x e => by cases e; omega) (fun x e e2 => by cases e; have := hDs _ e2; omega)
              replace hb_g22 := hb_g22.gr hg209 (by intro e; cases e; omega)
              replace hb_g4 := hN209
              refine q_nil ?_
              refine k_then ?_
              refine wc_regionL ?_
              refine wl_val (ov_move rfl) rfl rfl rfl ?_
              refine wl_val (ov_move rfl) rfl rfl rfl ?_
              refine wl_val (ov_eql rfl rfl) rfl rfl rfl ?_
              refine wl_spell (d := 162) rfl (bt (by rw [bsk_neg hn]; rfl)) ?_
              refine wl_val (ov_assign rfl) rfl rfl rfl ?_
              refine q_nil ?_
              refine k_block ?_
              refine k_then ?_
              refine wc_seq ?_
              refine wc_seq ?_
              refine wc_regionL ?_
              refine wl_val (ov_assign rfl) rfl rfl rfl ?_
              refine q_nil ?_
              refine k_then ?_
              have hcap_9 := RdB.cap (OwnB.rd ho31)
              refine wc_block ?_
              refine wc_loop (σ := Nat × List UInt8) (fun s => q.length - s.1) (fun s => [(9, .slice A31 q.length c31), (28, .int .i64 (s.1 : Int)), (0, (.pointer (some ⟨g, 0, none⟩))), (4, (.pointer (some ⟨g4, 0, none⟩))), (6, (.pointer none)), (7, (.pointer (some ⟨g7, 0, none⟩))), (8, (.bool false)), (10, (.bool true))]) (fun s w' => OwnB w' w3.heap.size 5 A31 c31 s.2 ∧ Gr w209 w' (blk A31) ∧ s.2.length = q.length ∧ s.1 ≤ q.length) (0, q) (⟨ho31, (ext_refl _).row _, rfl, Nat.zero_le _⟩) (⟨rfl, rfl, rfl, rfl, rfl, rfl, rfl, rfl, trivial⟩) ?_
              rintro ⟨k_9, l_9⟩ w210 ⟨ho_9, hG_9, hL_9, hk_9⟩
              simp only at hL_9 hk_9
              replace ho_9 : OwnB _ _ _ _ _ l_9 := ho_9
              show WC _ _ _ _ [(9, (.slice A31 q.length c31)), (28, (.int .i64 (↑k_9 : Int))), (0, (.pointer (some ⟨g, 0, none⟩))), (4, (.pointer (some ⟨g4, 0, none⟩))), (6, (.pointer none)), (7, (.pointer (some ⟨g7, 0, none⟩))), (8, (.bool false)), (10, (.bool true))] _
              refine wc_seq ?_
              refine wc_seq ?_
              refine wc_regionL ?_
              refine wl_val (ov_move rfl) rfl rfl rfl ?_
              refine wl_val (ov_move rfl) rfl rfl rfl ?_
              refine wl_val (ov_len Try.underlying26 rfl) rfl rfl rfl ?_
              refine wl_val (ov_lss rfl rfl) rfl rfl rfl ?_
              refine q_nil ?_
              refine k_then ?_
              refine wc_cond_d rfl (fun hc11 => ?_) (fun hc11 => ?_)
              · obtain ⟨g_9, hA_9, hg1_9, hgu_9⟩ := Own.addr ho_9 (by omega)
                subst hA_9
                refine q_skip ?_
                refine k_then ?_
                refine wc_seq ?_
                refine wc_block ?_
                refine wc_regionL ?_
                refine wl_val (ov_move rfl) rfl rfl rfl ?_
                refine wl_val (ov_move rfl) rfl rfl rfl ?_
                refine wl_val (ov_oindex bt26.s rfl rfl rfl (by omega)) rfl rfl rfl ?_
                refine wl_val (ov_load oc5 rfl (OwnB.cellAt ho_9 (by omega))) rfl rfl rfl ?_
                refine wl_val (ov_add rfl rfl (wu8_succ _)) rfl rfl rfl ?_
                refine wl_val (ov_oindex bt26.s rfl rfl rfl (by omega)) rfl rfl rfl ?_
                refine wl_step0 (or_storeOwn sz5 rfl rfl ho_9 (by omega)) rfl rfl ?_
                rintro _ w211 ⟨ho2_9, hg2_9⟩
                have hz2_9 := hg2_9.size
                refine q_nil ?_
                refine k_block ?_
                refine k_then ?_
                refine wc_regionL ?_
                refine wl_val (ov_move rfl) rfl rfl rfl ?_
                refine wl_val (ov_add rfl rfl (wi64 (by omega) (by omega))) rfl rfl rfl ?_
                refine wl_val (ov_assign rfl) rfl rfl rfl ?_
                refine q_nil ?_
                refine k_loop ((k_9 + 1, l_9.set k_9 ((l_9.getD k_9 0) + 1))) (by show q.length - (k_9 + 1) < q.length - k_9; omega) (⟨rfl, rfl, rfl, rfl, rfl, rfl, rfl, rfl, trivial⟩) (⟨ho2_9, hG_9.gr hg2_9 (fun g e => .inl e), by show (List.set _ _ _).length = _; rw [List.length_set]; exact hL_9, by show k_9 + 1 ≤ _; omega⟩)
              · refine wc_spell (d := 9) rfl (v' := .slice A31 l_9.length c31) (by rw [hL_9]) ?_
                have hz_hG_9 := hG_9.size
                replace hr := hr.gr hG_9 (fun g e => by have := hq_ho31 g e; omega)
                replace hrq := hrq.gr hG_9 (fun g e => by have := hq_ho31 g e; omega)
                replace hC := hC.gr2 hG_9 (fun x e => .inr (.inr (by have := hq_ho31 x e; omega)))
                replace hb_g4 := hb_g4.gr hG_9 (fun e => by have := hq_ho31 _ e; omega)
                replace hb_g5 := hb_g5.gr hG_9 (fun e => by have := hq_ho31 _ e; omega)
                replace hb_g7 := hb_g7.gr hG_9 (fun e => by have := hq_ho31 _ e; omega)
                replace hb140 := hb140.gr hG_9 (fun x e => by have := hq_ho31 x e; omega) (fun x e e2 => by have h1 := hq_ho31 x e; have h2 := hDs x e2; omega)
                replace hb_g22 := hb_g22.gr hG_9 (fun e => by have := hq_ho31 _ e; omega)
                have hq_ho_9 := fun g e => Own.lt ho_9 (g := g) e
                refine q_exit ?_
                refine k_thenX ?_
                refine k_thenX ?_
                refine k_blockE ?_
                refine k_then ?_
                refine wc_seq ?_
                refine wc_drawA mixed ?_
                intro w211 hx45
                replace hr := hr.ext hx45
                replace hrq := hrq.ext hx45
                replace hC := hC.ext hx45
                replace hb_g4 := hb_g4.ext hx45
                replace hb_g5 := hb_g5.ext hx45
                replace hb_g7 := hb_g7.ext hx45
                replace hb140 := hb140.ext hx45
                replace hb_g22 := hb_g22.ext hx45
                replace ho_9 := Own.ext ho_9 hx45
                have hz_hx45 := hx45.size
                refine wa_main (BelS w211.heap.size [g7]) (bels_ext) (bels_tr) 0 5 [(200, eqv (.pointer (some ⟨g, 0, none⟩))), (201, eqv (.agg #[(.int .i64 (↑m : Int)), (.slice A l.length c), (.int .u64 (↑p : Int))])), (202, eqv (.bool true)), (6, eqv (.pointer (some ⟨g, 0, none⟩))), (207, (fun _ w => Blk w g7 29 [(.int .i64 (↑m : Int)), (.slice A l.length c), (.int .u64 (↑p : Int))]))] [[], [], [], [0], [1]] [false, false, false, false, true] [false, false, false, false, true] [true, true, true, true, true] false [(0, (.pointer (some ⟨g, 0, none⟩))), (4, (.pointer (some ⟨g4, 0, none⟩))), (7, (.pointer (some ⟨g7, 0, none⟩))), (8, (.bool false)), (10, (.bool true))] [] [] (Env.sub_get ⟨rfl, rfl, rfl, rfl, rfl, trivial⟩) trivial (by kernel_rfl) rfl ⟨stb_eqv _, stb_eqv _, stb_eqv _, stb_eqv _, (fun _ w w' hb he => hb.ext he), trivial⟩ ⟨?_, ?_, ?_, ?_, ?_, trivial⟩ ?_
                · intro wd hxE
                  have hk_hxE := bels_out hxE
                  obtain ⟨cs_g7, hcs_g7, hb_g7⟩ := bels_blk hxE (by simp) hb_g7
                  have hz_hk_hxE := hk_hxE.size
                  replace hr := hk_hxE.rd hr (by intro g hg; simp at hg; omega)
                  replace hrq := hk_hxE.rd hrq (by intro g hg; simp at hg; omega)
                  replace hC := hC.kp2 hk_hxE (by intro x hx; simp at hx; omega)
                  replace hb_g4 := hk_hxE.bk hb_g4 (by intro hg; simp at hg; omega)
                  replace hb_g5 := hk_hxE.bk hb_g5 (by intro hg; simp at hg; omega)
                  replace hb140 := hb140.kp hk_hxE (by intro hg; simp at hg; omega) (fun x e hg => by simp at hg; have := hDs x e; omega)
                  replace hb_g22 := hk_hxE.bk hb_g22 (by intro hg; simp at hg; omega)
                  replace ho_9 := hk_hxE.own ho_9 (by intro g e hg; simp at hg; have := hq_ho_9 g e; omega)
                  show OpG _ _ _ _ _ _
                  exact og_plain rfl (ox_val (ov_move rfl))
                · intro wd hxE
                  have hk_hxE := bels_out hxE
                  obtain ⟨cs_g7, hcs_g7, hb_g7⟩ := bels_blk hxE (by simp) hb_g7
                  have hz_hk_hxE := hk_hxE.size
                  replace hr := hk_hxE.rd hr (by intro g hg; simp at hg; omega)
                  replace hrq := hk_hxE.rd hrq (by intro g hg; simp at hg; omega)
                  replace hC := hC.kp2 hk_hxE (by intro x hx; simp at hx; omega)
                  replace hb_g4 := hk_hxE.bk hb_g4 (by intro hg; simp at hg; omega)
                  replace hb_g5 := hk_hxE.bk hb_g5 (by intro hg; simp at hg; omega)
                  replace hb140 := hb140.kp hk_hxE (by intro hg; simp at hg; omega) (fun x e hg => by simp at hg; have := hDs x e; omega)
                  replace hb_g22 := hk_hxE.bk hb_g22 (by intro hg; simp at hg; omega)
                  replace ho_9 := hk_hxE.own ho_9 (by intro g e hg; simp at hg; have := hq_ho_9 g e; omega)
                  show OpG _ _ _ _ _ _
                  exact og_plain rfl (ox_val (ov_loadBlk (cs := [(.int .i64 (↑m : Int)), (.slice A l.length c), (.int .u64 (↑p : Int))]) ag29_3 rfl hb_g4))
                · intro wd hxE
                  have hk_hxE := bels_out hxE
                  obtain ⟨cs_g7, hcs_g7, hb_g7⟩ := bels_blk hxE (by simp) hb_g7
                  have hz_hk_hxE := hk_hxE.size
                  replace hr := hk_hxE.rd hr (by intro g hg; simp at hg; omega)
                  replace hrq := hk_hxE.rd hrq (by intro g hg; simp at hg; omega)
                  replace hC := hC.kp2 hk_hxE (by intro x hx; simp at hx; omega)
                  replace hb_g4 := hk_hxE.bk hb_g4 (by intro hg; simp at hg; omega)
                  replace hb_g5 := hk_hxE.bk hb_g5 (by intro hg; simp at hg; omega)
                  replace hb140 := hb140.kp hk_hxE (by intro hg; simp at hg; omega) (fun x e hg => by simp at hg; have := hDs x e; omega)
                  replace hb_g22 := hk_hxE.bk hb_g22 (by intro hg; simp at hg; omega)
                  replace ho_9 := hk_hxE.own ho_9 (by intro g e hg; simp at hg; have := hq_ho_9 g e; omega)
                  show OpG _ _ _ _ _ _
                  exact og_plain rfl (ox_val (ov_move rfl))
                · intro wd hxE
                  have hk_hxE := bels_out hxE
                  obtain ⟨cs_g7, hcs_g7, hb_g7⟩ := bels_blk hxE (by simp) hb_g7
                  have hz_hk_hxE := hk_hxE.size
                  replace hr := hk_hxE.rd hr (by intro g hg; simp at hg; omega)
                  replace hrq := hk_hxE.rd hrq (by intro g hg; simp at hg; omega)
                  replace hC := hC.kp2 hk_hxE (by intro x hx; simp at hx; omega)
                  replace hb_g4 := hk_hxE.bk hb_g4 (by intro hg; simp at hg; omega)
                  replace hb_g5 := hk_hxE.bk hb_g5 (by intro hg; simp at hg; omega)
                  replace hb140 := hb140.kp hk_hxE (by intro hg; simp at hg; omega) (fun x e hg => by simp at hg; have := hDs x e; omega)
                  replace hb_g22 := hk_hxE.bk hb_g22 (by intro hg; simp at hg; omega)
                  replace ho_9 := hk_hxE.own ho_9 (by intro g e hg; simp at hg; have := hq_ho_9 g e; omega)
                  rintro _ rfl
                  show OpG _ _ _ _ _ _
                  exact og_plain rfl (ox_val (ov_assign rfl))
                · intro wd hxE
                  have hk_hxE := bels_out hxE
                  obtain ⟨cs_g7, hcs_g7, hb_g7⟩ := bels_blk hxE (by simp) hb_g7
                  have hz_hk_hxE := hk_hxE.size
                  replace hr := hk_hxE.rd hr (by intro g hg; simp at hg; omega)
                  replace hrq := hk_hxE.rd hrq (by intro g hg; simp at hg; omega)
                  replace hC := hC.kp2 hk_hxE (by intro x hx; simp at hx; omega)
                  replace hb_g4 := hk_hxE.bk hb_g4 (by intro hg; simp at hg; omega)
                  replace hb_g5 := hk_hxE.bk hb_g5 (by intro hg; simp at hg; omega)
                  replace hb140 := hb140.kp hk_hxE (by intro hg; simp at hg; omega) (fun x e hg => by simp at hg; have := hDs x e; omega)
                  replace hb_g22 := hk_hxE.bk hb_g22 (by intro hg; simp at hg; omega)
                  replace ho_9 := hk_hxE.own ho_9 (by intro g e hg; simp at hg; have := hq_ho_9 g e; omega)
                  rintro _ rfl
                  show OpG _ _ _ _ _ _
                  have hb0 := hb_g7
                  refine og_plain rfl (OpRun.mono (or_storeBlk (vs := [(.int .i64 (↑m : Int)), (.slice A l.length c), (.int .u64 (↑p : Int))]) sz29 rfl rfl (by simp [Value.oneCell']) hb_g7 hcs_g7) ?_)
                  rintro _ w212 ⟨hN212, hg212⟩
                  have hz_hg212 := hg212.size
                  replace hr := hr.gr hg212 (fun _ e => by cases e; omega)
                  replace hrq := hrq.gr hg212 (fun _ e => by cases e; omega)
                  replace hC := hC.gr2 hg212 (fun x e => by cases e; first | exact .inl rfl | (right; right; omega))
                  replace hb_g4 := hb_g4.gr hg212 (by intro e; cases e; omega)
                  replace hb_g5 := hb_g5.gr hg212 (by intro e; cases e; omega)
                  replace hb140 := hb140.gr hg212 (fun x e => by cases e; omega) (fun x e e2 => by cases e; have := hDs _ e2; omega)
                  replace hb_g22 := hb_g22.gr hg212 (by intro e; cases e; omega)
                  replace ho_9 := Own.gr ho_9 hg212 (by first | exact .inl rfl | (right; intro e; first | (have := hq_ho_9 _ e; omega) | (have := Own.lt ho_9 e; omega) | exact own_blk_ne ho_9 hb_g7 (by decide) e))
                  replace hb_g7 := hN212
                  exact ⟨hb_g7, bels_store hg212 (by simp) hb0 hb_g7 hcs_g7⟩
                · intro wf45 hf45
                  have hk_hf45 := bels_out hf45
                  obtain ⟨cs_g7, hcs_g7, hb_g7⟩ := bels_blk hf45 (by simp) hb_g7
                  have hz_hk_hf45 := hk_hf45.size
                  replace hr := hk_hf45.rd hr (by intro g hg; simp at hg; omega)
                  replace hrq := hk_hf45.rd hrq (by intro g hg; simp at hg; omega)
                  replace hC := hC.kp2 hk_hf45 (by intro x hx; simp at hx; omega)
                  replace hb_g4 := hk_hf45.bk hb_g4 (by intro hg; simp at hg; omega)
                  replace hb_g5 := hk_hf45.bk hb_g5 (by intro hg; simp at hg; omega)
                  replace hb140 := hb140.kp hk_hf45 (by intro hg; simp at hg; omega) (fun x e hg => by simp at hg; have := hDs x e; omega)
                  replace hb_g22 := hk_hf45.bk hb_g22 (by intro hg; simp at hg; omega)
                  replace ho_9 := hk_hf45.own ho_9 (by intro g e hg; simp at hg; have := hq_ho_9 g e; omega)
                  rintro _ rfl
                  rintro _ rfl
                  rintro _ rfl
                  rintro _ rfl
                  rintro _ hb_g7
                  refine wa_tail (by kernel_rfl) ?_
                  show WL _ _ _ [_] _ _ _
                  refine wl_val (ov_assign rfl) rfl rfl rfl ?_
                  refine q_nil ?_
                  refine k_then ?_
                  refine q_ret ?_
                  refine e_retL (rs := [.tmp 6, .cell 7 29, .tmp 8]) (vs := [(.pointer (some ⟨g, 0, none⟩)), .agg #[(.int .i64 (↑m : Int)), (.slice A l.length c), (.int .u64 (↑p : Int))], (.bool true)]) rfl ⟨rfl, ⟨_, _, [(.int .i64 (↑m : Int)), (.slice A l.length c), (.int .u64 (↑p : Int))], rfl, ag29_3, hb_g7, rfl⟩, rfl, trivial⟩ ?_
                  rw [bsk_neg hn] at hb140
                  replace hb140 : Buf _ lo g D m l p t := hb140
                  exact ⟨_, _, _, g, _, _, _, _, _, _, rfl, ⟨hb140, hr, by omega, by omega, by omega, fun x e => by have := hDs x e; omega, hpt, by omega, fun x e => by have := hDs x e; omega⟩, by omega, hC, .inl rfl, Nx.refl _ _, .inl ⟨rfl, rfl⟩⟩
            · refine wc_seq ?_
              refine wc_regionL ?_
              refine wl_val (ov_move rfl) rfl rfl rfl ?_
              refine wl_val (ov_field0 (off := 1) fo42_1 rfl) rfl rfl rfl ?_
              refine wl_val (ov_loadAt oc3 rfl hb_g5 rfl) rfl rfl rfl ?_
              refine wl_step (or_call0 cl23 rfl rfl (bskipm_ok _ lo g D m l p t hbuf a2 (by omega) (by omega) (by omega) (by omega))) rfl rfl rfl ?_
              rintro v w205 ⟨rfl, hb140, hC140⟩
              have hDa140 : ∀ x, D = some x → (b0 ≤ x ∧ (x < lor ∨ hir ≤ x) ∧ x < w.heap.size) ∧ x < w4.heap.size := fun x e => ⟨hDs x e, (hbuf.lt.2 x e).2⟩
              have hz_hC140 := hC140.size
              replace hr := hC140.rd hr (by omega) (fun x e => by have := hDa140 x e; omega)
              replace hrq := hC140.rd hrq (by omega) (fun x e => by have := hDa140 x e; omega)
              replace hC := hC.tr hC140 (fun x e => by first | exact .inl e | (right; have := hDa140 x e; omega))
              replace hb_g4 := hC140.bk hb_g4 (by omega) (fun e2 => by have := hDa140 _ e2; omega)
              replace hb_g5 := hC140.bk hb_g5 (by omega) (fun e2 => by have := hDa140 _ e2; omega)
              replace hb_g7 := hC140.bk hb_g7 (by omega) (fun e2 => by have := hDa140 _ e2; omega)
              replace ho31 := hC140.own ho31 (fun x e => ⟨by have := hq_ho31 x e; omega, fun e2 => by have h1 := hq_ho31 x e; have h2 := hDa140 x e2; omega⟩)
              have hzb140 := hb140.lt.1
              have hcp140 := hb140.cap
              refine wl_val (ov_assign rfl) rfl rfl rfl ?_
              refine q_nil ?_
              refine k_then ?_
              refine wc_seq ?_
              refine wc_regionL ?_
              refine wl_val (ov_loadBlk (cs := [(.int .i64 (↑m : Int)), (.slice A l.length c), (.int .u64 (↑p : Int))]) ag29_3 rfl hb_g4) rfl rfl rfl ?_
              refine wl_val (ov_field0 (off := 1) fo42_1 rfl) rfl rfl rfl ?_
              refine wl_val (ov_loadAt oc3 rfl hb_g5 rfl) rfl rfl rfl ?_
              refine wl_step (or_call0 cl57 rfl rfl (rtake_ok _ _ _ (m) _ _ l (p) hr (by omega) (by omega) (by omega) a2 (by omega) (by omega))) rfl rfl rfl ?_
              rintro v w206 ⟨A145, c145, B145, d145, rfl, ho145, hrB145, he145⟩
              replace hr := hr.ext he145
              replace hrq := hrq.ext he145
              replace hC := hC.ext he145
              replace hb_g4 := hb_g4.ext he145
              replace hb_g5 := hb_g5.ext he145
              replace hb_g7 := hb_g7.ext he145
              replace ho31 := Own.ext ho31 he145
              replace hb140 := hb140.ext he145
              have hz_he145 := he145.size
              have hq_ho145 := fun g e => Own.lt ho145 (g := g) e
              refine wl_val (ov_move rfl) rfl rfl rfl ?_
              refine wl_val (ov_extract rfl rfl) rfl rfl rfl ?_
              refine wl_val (ov_extract rfl rfl) rfl rfl rfl ?_
              refine wl_val (ov_extract rfl rfl) rfl rfl rfl ?_
              refine wl_step (or_alloc (cs := [(.int .i64 0), (.slice none 0 0), (.int .u64 0)]) ze29 rfl) rfl rfl rfl ?_
              rintro v w207 ⟨g22, rfl, hb_g22, he22, hl22, hu22⟩
              replace hr := hr.ext he22
              replace hrq := hrq.ext he22
              replace hC := hC.ext he22
              replace hb_g4 := hb_g4.ext he22
              replace hb_g5 := hb_g5.ext he22
              replace hb_g7 := hb_g7.ext he22
              replace ho31 := Own.ext ho31 he22
              replace hb140 := hb140.ext he22
              replace ho145 := Own.ext ho145 he22
              replace hrB145 := hrB145.ext he22
              have hz_he22 := he22.size
              refine wl_step0 (or_storeBlk (vs := [(.int .i64 (↑m : Int)), (.slice A145 (l.drop (Int.toNat a2)).length c145), (.int .u64 (↑p : Int))]) sz29 rfl rfl (by simp [Value.oneCell']) hb_g22 rfl) rfl rfl ?_
              rintro _ w208 ⟨hN208, hg208⟩
              have hz_hg208 := hg208.size
              replace hr := hr.gr hg208 (fun _ e => by cases e; omega)
              replace hrq := hrq.gr hg208 (fun _ e => by cases e; omega)
              replace hC := hC.gr2 hg208 (fun x e => by cases e; first | exact .inl rfl | (right; right; omega))
              replace hb_g4 := hb_g4.gr hg208 (by intro e; cases e; omega)
              replace hb_g5 := hb_g5.gr hg208 (by intro e; cases e; omega)
              replace hb_g7 := hb_g7.gr hg208 (by intro e; cases e; omega)
              replace ho31 := Own.gr ho31 hg208 (by first | exact .inl rfl | (right; intro e; first | (have := hq_ho31 _ e; omega) | (have := Own.lt ho31 e; omega) | exact own_blk_ne ho31 hb_g22 (by decide) e))
              replace hb140 := hb140.gr hg208 (fun x e => by cases e; omega) (fun x e e2 => by cases e; have := hDs _ e2; omega)
              replace ho145 := Own.gr ho145 hg208 (by first | exact .inl rfl | (right; intro e; first | (have := hq_ho145 _ e; omega) | (have := Own.lt ho145 e; omega) | exact own_blk_ne ho145 hb_g22 (by decide) e))
              replace hrB145 := hrB145.gr hg208 (fun _ e => by cases e; omega)
              replace hb_g22 := hN208
              refine wl_val (ov_assign rfl) rfl rfl rfl ?_
              refine wl_val (ov_assign rfl) rfl rfl rfl ?_
              refine q_nil ?_
              refine k_then ?_
              refine wc_seq ?_
              refine wc_seq ?_
              refine wc_regionL ?_
              refine wl_val (ov_move rfl) rfl rfl rfl ?_
              refine wl_val (ov_eql rfl rfl) rfl rfl rfl ?_
              refine wl_val (ov_move rfl) rfl rfl rfl ?_
              refine wl_gval (ov_field0 (off := 1) fo42_1 rfl) rfl rfl rfl rfl rfl ?_
              refine wl_gval (ov_loadAt oc3 rfl hb_g5 rfl) rfl rfl rfl rfl rfl ?_
              refine wl_gval (ov_field0 (off := 1) fo29_1 rfl) rfl rfl rfl rfl rfl ?_
              refine wl_gval (ov_loadAt oc26 rfl hb_g4 rfl) rfl rfl rfl rfl rfl ?_
              refine wl_gval (ov_len Try.underlying26 rfl) rfl rfl rfl rfl rfl ?_
              refine wl_gval (ov_gtr rfl rfl) rfl rfl rfl rfl rfl ?_
              refine wl_val (ov_pick_t rfl rfl) rfl rfl rfl ?_
              refine q_nil ?_
              refine k_then ?_
              refine wc_cond_d rfl (fun hc8 => ?_) (fun hc8 => ?_)
              · refine wc_regionL ?_
                refine wl_val (ov_assign rfl) rfl rfl rfl ?_
                refine q_nil ?_
                refine k_then ?_
                refine wc_regionL ?_
                refine wl_val (ov_move rfl) rfl rfl rfl ?_
                refine wl_val (ov_move rfl) rfl rfl rfl ?_
                refine wl_val (ov_eql rfl rfl) rfl rfl rfl ?_
                refine wl_spell (d := 162) rfl (bt (by rw [bsk_far hn (by omega)]; rfl)) ?_
                refine wl_val (ov_assign rfl) rfl rfl rfl ?_
                refine q_nil ?_
                refine k_block ?_
                refine k_then ?_
                refine wc_seq ?_
                refine wc_seq ?_
                refine wc_regionL ?_
                refine wl_val (ov_assign rfl) rfl rfl rfl ?_
                refine q_nil ?_
                refine k_then ?_
                have hcap_9 := RdB.cap (OwnB.rd ho31)
                refine wc_block ?_
                refine wc_loop (σ := Nat × List UInt8) (fun s => q.length - s.1) (fun s => [(9, .slice A31 q.length c31), (28, .int .i64 (s.1 : Int)), (0, (.pointer (some ⟨g, 0, none⟩))), (4, (.pointer (some ⟨g4, 0, none⟩))), (6, (.pointer none)), (7, (.pointer (some ⟨g7, 0, none⟩))), (8, (.bool false)), (10, (.bool true))]) (fun s w' => OwnB w' w3.heap.size 5 A31 c31 s.2 ∧ Gr w208 w' (blk A31) ∧ s.2.length = q.length ∧ s.1 ≤ q.length) (0, q) (⟨ho31, (ext_refl _).row _, rfl, Nat.zero_le _⟩) (⟨rfl, rfl, rfl, rfl, rfl, rfl, rfl, rfl, trivial⟩) ?_
                rintro ⟨k_9, l_9⟩ w209 ⟨ho_9, hG_9, hL_9, hk_9⟩
                simp only at hL_9 hk_9
                replace ho_9 : OwnB _ _ _ _ _ l_9 := ho_9
                show WC _ _ _ _ [(9, (.slice A31 q.length c31)), (28, (.int .i64 (↑k_9 : Int))), (0, (.pointer (some ⟨g, 0, none⟩))), (4, (.pointer (some ⟨g4, 0, none⟩))), (6, (.pointer none)), (7, (.pointer (some ⟨g7, 0, none⟩))), (8, (.bool false)), (10, (.bool true))] _
                refine wc_seq ?_
                refine wc_seq ?_
                refine wc_regionL ?_
                refine wl_val (ov_move rfl) rfl rfl rfl ?_
                refine wl_val (ov_move rfl) rfl rfl rfl ?_
                refine wl_val (ov_len Try.underlying26 rfl) rfl rfl rfl ?_
                refine wl_val (ov_lss rfl rfl) rfl rfl rfl ?_
                refine q_nil ?_
                refine k_then ?_
                refine wc_cond_d rfl (fun hc11 => ?_) (fun hc11 => ?_)
                · obtain ⟨g_9, hA_9, hg1_9, hgu_9⟩ := Own.addr ho_9 (by omega)
                  subst hA_9
                  refine q_skip ?_
                  refine k_then ?_
                  refine wc_seq ?_
                  refine wc_block ?_
                  refine wc_regionL ?_
                  refine wl_val (ov_move rfl) rfl rfl rfl ?_
                  refine wl_val (ov_move rfl) rfl rfl rfl ?_
                  refine wl_val (ov_oindex bt26.s rfl rfl rfl (by omega)) rfl rfl rfl ?_
                  refine wl_val (ov_load oc5 rfl (OwnB.cellAt ho_9 (by omega))) rfl rfl rfl ?_
                  refine wl_val (ov_add rfl rfl (wu8_succ _)) rfl rfl rfl ?_
                  refine wl_val (ov_oindex bt26.s rfl rfl rfl (by omega)) rfl rfl rfl ?_
                  refine wl_step0 (or_storeOwn sz5 rfl rfl ho_9 (by omega)) rfl rfl ?_
                  rintro _ w210 ⟨ho2_9, hg2_9⟩
                  have hz2_9 := hg2_9.size
                  refine q_nil ?_
                  refine k_block ?_
                  refine k_then ?_
                  refine wc_regionL ?_
                  refine wl_val (ov_move rfl) rfl rfl rfl ?_
                  refine wl_val (ov_add rfl rfl (wi64 (by omega) (by omega))) rfl rfl rfl ?_
                  refine wl_val (ov_assign rfl) rfl rfl rfl ?_
                  refine q_nil ?_
                  refine k_loop ((k_9 + 1, l_9.set k_9 ((l_9.getD k_9 0) + 1))) (by show q.length - (k_9 + 1) < q.length - k_9; omega) (⟨rfl, rfl, rfl, rfl, rfl, rfl, rfl, rfl, trivial⟩) (⟨ho2_9, hG_9.gr hg2_9 (fun g e => .inl e), by show (List.set _ _ _).length = _; rw [List.length_set]; exact hL_9, by show k_9 + 1 ≤ _; omega⟩)
                · refine wc_spell (d := 9) rfl (v' := .slice A31 l_9.length c31) (by rw [hL_9]) ?_
                  have hz_hG_9 := hG_9.size
                  replace hr := hr.gr hG_9 (fun g e => by have := hq_ho31 g e; omega)
                  replace hrq := hrq.gr hG_9 (fun g e => by have := hq_ho31 g e; omega)
                  replace hC := hC.gr2 hG_9 (fun x e => .inr (.inr (by have := hq_ho31 x e; omega)))
                  replace hb_g4 := hb_g4.gr hG_9 (fun e => by have := hq_ho31 _ e; omega)
                  replace hb_g5 := hb_g5.gr hG_9 (fun e => by have := hq_ho31 _ e; omega)
                  replace hb_g7 := hb_g7.gr hG_9 (fun e => by have := hq_ho31 _ e; omega)
                  replace hb140 := hb140.gr hG_9 (fun x e => by have := hq_ho31 x e; omega) (fun x e e2 => by have h1 := hq_ho31 x e; have h2 := hDs x e2; omega)
                  replace ho145 := Own.gr ho145 hG_9 (own_apart fun g e g2 e2 => by have := hq_ho145 g e; have := hq_ho31 g2 e2; omega)
                  replace hrB145 := hrB145.gr hG_9 (fun g e => by have := hq_ho31 g e; omega)
                  replace hb_g22 := hb_g22.gr hG_9 (fun e => by have := hq_ho31 _ e; omega)
                  have hq_ho_9 := fun g e => Own.lt ho_9 (g := g) e
                  refine q_exit ?_
                  refine k_thenX ?_
                  refine k_thenX ?_
                  refine k_blockE ?_
                  refine k_then ?_
                  refine wc_seq ?_
                  refine wc_drawA mixed ?_
                  intro w210 hx45
                  replace hr := hr.ext hx45
                  replace hrq := hrq.ext hx45
                  replace hC := hC.ext hx45
                  replace hb_g4 := hb_g4.ext hx45
                  replace hb_g5 := hb_g5.ext hx45
                  replace hb_g7 := hb_g7.ext hx45
                  replace hb140 := hb140.ext hx45
                  replace ho145 := Own.ext ho145 hx45
                  replace hrB145 := hrB145.ext hx45
                  replace hb_g22 := hb_g22.ext hx45
                  replace ho_9 := Own.ext ho_9 hx45
                  have hz_hx45 := hx45.size
                  refine wa_main (BelS w210.heap.size [g7]) (bels_ext) (bels_tr) 0 5 [(200, eqv (.pointer (some ⟨g, 0, none⟩))), (201, eqv (.agg #[(.int .i64 (↑m : Int)), (.slice A l.length c), (.int .u64 (↑p : Int))])), (202, eqv (.bool true)), (6, eqv (.pointer (some ⟨g, 0, none⟩))), (207, (fun _ w => Blk w g7 29 [(.int .i64 (↑m : Int)), (.slice A l.length c), (.int .u64 (↑p : Int))]))] [[], [], [], [0], [1]] [false, false, false, false, true] [false, false, false, false, true] [true, true, true, true, true] false [(0, (.pointer (some ⟨g, 0, none⟩))), (4, (.pointer (some ⟨g4, 0, none⟩))), (7, (.pointer (some ⟨g7, 0, none⟩))), (8, (.bool false)), (10, (.bool true))] [] [] (Env.sub_get ⟨rfl, rfl, rfl, rfl, rfl, trivial⟩) trivial (by kernel_rfl) rfl ⟨stb_eqv _, stb_eqv _, stb_eqv _, stb_eqv _, (fun _ w w' hb he => hb.ext he), trivial⟩ ⟨?_, ?_, ?_, ?_, ?_, trivial⟩ ?_
                  · intro wd hxE
                    have hk_hxE := bels_out hxE
                    obtain ⟨cs_g7, hcs_g7, hb_g7⟩ := bels_blk hxE (by simp) hb_g7
                    have hz_hk_hxE := hk_hxE.size
                    replace hr := hk_hxE.rd hr (by intro g hg; simp at hg; omega)
                    replace hrq := hk_hxE.rd hrq (by intro g hg; simp at hg; omega)
                    replace hC := hC.kp2 hk_hxE (by intro x hx; simp at hx; omega)
                    replace hb_g4 := hk_hxE.bk hb_g4 (by intro hg; simp at hg; omega)
                    replace hb_g5 := hk_hxE.bk hb_g5 (by intro hg; simp at hg; omega)
                    replace hb140 := hb140.kp hk_hxE (by intro hg; simp at hg; omega) (fun x e hg => by simp at hg; have := hDs x e; omega)
                    replace ho145 := hk_hxE.own ho145 (by intro g e hg; simp at hg; have := hq_ho145 g e; omega)
                    replace hrB145 := hk_hxE.rd hrB145 (by intro g hg; simp at hg; omega)
                    replace hb_g22 := hk_hxE.bk hb_g22 (by intro hg; simp at hg; omega)
                    replace ho_9 := hk_hxE.own ho_9 (by intro g e hg; simp at hg; have := hq_ho_9 g e; omega)
                    show OpG _ _ _ _ _ _
                    exact og_plain rfl (ox_val (ov_move rfl))
                  · intro wd hxE
                    have hk_hxE := bels_out hxE
                    obtain ⟨cs_g7, hcs_g7, hb_g7⟩ := bels_blk hxE (by simp) hb_g7
                    have hz_hk_hxE := hk_hxE.size
                    replace hr := hk_hxE.rd hr (by intro g hg; simp at hg; omega)
                    replace hrq := hk_hxE.rd hrq (by intro g hg; simp at hg; omega)
                    replace hC := hC.kp2 hk_hxE (by intro x hx; simp at hx; omega)
                    replace hb_g4 := hk_hxE.bk hb_g4 (by intro hg; simp at hg; omega)
                    replace hb_g5 := hk_hxE.bk hb_g5 (by intro hg; simp at hg; omega)
                    replace hb140 := hb140.kp hk_hxE (by intro hg; simp at hg; omega) (fun x e hg => by simp at hg; have := hDs x e; omega)
                    replace ho145 := hk_hxE.own ho145 (by intro g e hg; simp at hg; have := hq_ho145 g e; omega)
                    replace hrB145 := hk_hxE.rd hrB145 (by intro g hg; simp at hg; omega)
                    replace hb_g22 := hk_hxE.bk hb_g22 (by intro hg; simp at hg; omega)
                    replace ho_9 := hk_hxE.own ho_9 (by intro g e hg; simp at hg; have := hq_ho_9 g e; omega)
                    show OpG _ _ _ _ _ _
                    exact og_plain rfl (ox_val (ov_loadBlk (cs := [(.int .i64 (↑m : Int)), (.slice A l.length c), (.int .u64 (↑p : Int))]) ag29_3 rfl hb_g4))
                  · intro wd hxE
                    have hk_hxE := bels_out hxE
                    obtain ⟨cs_g7, hcs_g7, hb_g7⟩ := bels_blk hxE (by simp) hb_g7
                    have hz_hk_hxE := hk_hxE.size
                    replace hr := hk_hxE.rd hr (by intro g hg; simp at hg; omega)
                    replace hrq := hk_hxE.rd hrq (by intro g hg; simp at hg; omega)
                    replace hC := hC.kp2 hk_hxE (by intro x hx; simp at hx; omega)
                    replace hb_g4 := hk_hxE.bk hb_g4 (by intro hg; simp at hg; omega)
                    replace hb_g5 := hk_hxE.bk hb_g5 (by intro hg; simp at hg; omega)
                    replace hb140 := hb140.kp hk_hxE (by intro hg; simp at hg; omega) (fun x e hg => by simp at hg; have := hDs x e; omega)
                    replace ho145 := hk_hxE.own ho145 (by intro g e hg; simp at hg; have := hq_ho145 g e; omega)
                    replace hrB145 := hk_hxE.rd hrB145 (by intro g hg; simp at hg; omega)
                    replace hb_g22 := hk_hxE.bk hb_g22 (by intro hg; simp at hg; omega)
                    replace ho_9 := hk_hxE.own ho_9 (by intro g e hg; simp at hg; have := hq_ho_9 g e; omega)
                    show OpG _ _ _ _ _ _
                    exact og_plain rfl (ox_val (ov_move rfl))
                  · intro wd hxE
                    have hk_hxE := bels_out hxE
                    obtain ⟨cs_g7, hcs_g7, hb_g7⟩ := bels_blk hxE (by simp) hb_g7
                    have hz_hk_hxE := hk_hxE.size
                    replace hr := hk_hxE.rd hr (by intro g hg; simp at hg; omega)
                    replace hrq := hk_hxE.rd hrq (by intro g hg; simp at hg; omega)
                    replace hC := hC.kp2 hk_hxE (by intro x hx; simp at hx; omega)
                    replace hb_g4 := hk_hxE.bk hb_g4 (by intro hg; simp at hg; omega)
                    replace hb_g5 := hk_hxE.bk hb_g5 (by intro hg; simp at hg; omega)
                    replace hb140 := hb140.kp hk_hxE (by intro hg; simp at hg; omega) (fun x e hg => by simp at hg; have := hDs x e; omega)
                    replace ho145 := hk_hxE.own ho145 (by intro g e hg; simp at hg; have := hq_ho145 g e; omega)
                    replace hrB145 := hk_hxE.rd hrB145 (by intro g hg; simp at hg; omega)
                    replace hb_g22 := hk_hxE.bk hb_g22 (by intro hg; simp at hg; omega)
                    replace ho_9 := hk_hxE.own ho_9 (by intro g e hg; simp at hg; have := hq_ho_9 g e; omega)
                    rintro _ rfl
                    show OpG _ _ _ _ _ _
                    exact og_plain rfl (ox_val (ov_assign rfl))
                  · intro wd hxE
                    have hk_hxE := bels_out hxE
                    obtain ⟨cs_g7, hcs_g7, hb_g7⟩ := bels_blk hxE (by simp) hb_g7
                    have hz_hk_hxE := hk_hxE.size
                    replace hr := hk_hxE.rd hr (by intro g hg; simp at hg; omega)
                    replace hrq := hk_hxE.rd hrq (by intro g hg; simp at hg; omega)
                    replace hC := hC.kp2 hk_hxE (by intro x hx; simp at hx; omega)
                    replace hb_g4 := hk_hxE.bk hb_g4 (by intro hg; simp at hg; omega)
                    replace hb_g5 := hk_hxE.bk hb_g5 (by intro hg; simp at hg; omega)
                    replace hb140 := hb140.kp hk_hxE (by intro hg; simp at hg; omega) (fun x e hg => by simp at hg; have := hDs x e; omega)
                    replace ho145 := hk_hxE.own ho145 (by intro g e hg; simp at hg; have := hq_ho145 g e; omega)
                    replace hrB145 := hk_hxE.rd hrB145 (by intro g hg; simp at hg; omega)
                    replace hb_g22 := hk_hxE.bk hb_g22 (by intro hg; simp at hg; omega)
                    replace ho_9 := hk_hxE.own ho_9 (by intro g e hg; simp at hg; have := hq_ho_9 g e; omega)
                    rintro _ rfl
                    show OpG _ _ _ _ _ _
                    have hb0 := hb_g7
                    refine og_plain rfl (OpRun.mono (or_storeBlk (vs := [(.int .i64 (↑m : Int)), (.slice A l.length c), (.int .u64 (↑p : Int))]) sz29 rfl rfl (by simp [Value.oneCell']) hb_g7 hcs_g7) ?_)
                    rintro _ w211 ⟨hN211, hg211⟩
                    have hz_hg211 := hg211.size
                    replace hr := hr.gr hg211 (fun _ e => by cases e; omega)
                    replace hrq := hrq.gr hg211 (fun _ e => by cases e; omega)
                    replace hC := hC.gr2 hg211 (fun x e => by cases e; first | exact .inl rfl | (right; right; omega))
                    replace hb_g4 := hb_g4.gr hg211 (by intro e; cases e; omega)
                    replace hb_g5 := hb_g5.gr hg211 (by intro e; cases e; omega)
                    replace hb140 := hb140.gr hg211 (fun x e => by cases e; omega) (fun x e e2 => by cases e; have := hDs _ e2; omega)
                    replace ho145 := Own.gr ho145 hg211 (by first | exact .inl rfl | (right; intro e; first | (have := hq_ho145 _ e; omega) | (have := Own.lt ho145 e; omega) | exact own_blk_ne ho145 hb_g7 (by decide) e))
                    replace hrB145 := hrB145.gr hg211 (fun _ e => by cases e; omega)
                    replace hb_g22 := hb_g22.gr hg211 (by intro e; cases e; omega)
                    replace ho_9 := Own.gr ho_9 hg211 (by first | exact .inl rfl | (right; intro e; first | (have := hq_ho_9 _ e; omega) | (have := Own.lt ho_9 e; omega) | exact own_blk_ne ho_9 hb_g7 (by decide) e))
                    replace hb_g7 := hN211
                    exact ⟨hb_g7, bels_store hg211 (by simp) hb0 hb_g7 hcs_g7⟩
                  · intro wf45 hf45
                    have hk_hf45 := bels_out hf45
                    obtain ⟨cs_g7, hcs_g7, hb_g7⟩ := bels_blk hf45 (by simp) hb_g7
                    have hz_hk_hf45 := hk_hf45.size
                    replace hr := hk_hf45.rd hr (by intro g hg; simp at hg; omega)
                    replace hrq := hk_hf45.rd hrq (by intro g hg; simp at hg; omega)
                    replace hC := hC.kp2 hk_hf45 (by intro x hx; simp at hx; omega)
                    replace hb_g4 := hk_hf45.bk hb_g4 (by intro hg; simp at hg; omega)
                    replace hb_g5 := hk_hf45.bk hb_g5 (by intro hg; simp at hg; omega)
                    replace hb140 := hb140.kp hk_hf45 (by intro hg; simp at hg; omega) (fun x e hg => by simp at hg; have := hDs x e; omega)
                    replace ho145 := hk_hf45.own ho145 (by intro g e hg; simp at hg; have := hq_ho145 g e; omega)
                    replace hrB145 := hk_hf45.rd hrB145 (by intro g hg; simp at hg; omega)
                    replace hb_g22 := hk_hf45.bk hb_g22 (by intro hg; simp at hg; omega)
                    replace ho_9 := hk_hf45.own ho_9 (by intro g e hg; simp at hg; have := hq_ho_9 g e; omega)
                    rintro _ rfl
                    rintro _ rfl
                    rintro _ rfl
                    rintro _ rfl
                    rintro _ hb_g7
                    refine wa_tail (by kernel_rfl) ?_
                    show WL _ _ _ [_] _ _ _
                    refine wl_val (ov_assign rfl) rfl rfl rfl ?_
                    refine q_nil ?_
                    refine k_then ?_
                    refine q_ret ?_
                    refine e_retL (rs := [.tmp 6, .cell 7 29, .tmp 8]) (vs := [(.pointer (some ⟨g, 0, none⟩)), .agg #[(.int .i64 (↑m : Int)), (.slice A l.length c), (.int .u64 (↑p : Int))], (.bool true)]) rfl ⟨rfl, ⟨_, _, [(.int .i64 (↑m : Int)), (.slice A l.length c), (.int .u64 (↑p : Int))], rfl, ag29_3, hb_g7, rfl⟩, rfl, trivial⟩ ?_
                    rw [bsk_far hn (by omega)] at hb140
                    replace hb140 : Buf _ lo g D m l p t := hb140
                    exact ⟨_, _, _, g, _, _, _, _, _, _, rfl, ⟨hb140, hr, by omega, by omega, by omega, fun x e => by have := hDs x e; omega, hpt, by omega, fun x e => by have := hDs x e; omega⟩, by omega, hC, .inl rfl, Nx.refl _ _, .inl ⟨rfl, rfl⟩⟩
              · refine wc_regionL ?_
                refine wl_val (ov_loadBlk (cs := [(.int .i64 (↑m : Int)), (.slice A145 (l.drop (Int.toNat a2)).length c145), (.int .u64 (↑p : Int))]) ag29_3 rfl hb_g22) rfl rfl rfl ?_
                refine wl_step0 (or_storeBlk (vs := [(.int .i64 (↑m : Int)), (.slice A145 (l.drop (Int.toNat a2)).length c145), (.int .u64 (↑p : Int))]) sz29 rfl rfl (by simp [Value.oneCell']) hb_g4 rfl) rfl rfl ?_
                rintro _ w209 ⟨hN209, hg209⟩
                have hz_hg209 := hg209.size
                replace hr := hr.gr hg209 (fun _ e => by cases e; omega)
                replace hrq := hrq.gr hg209 (fun _ e => by cases e; omega)
                replace hC := hC.gr2 hg209 (fun x e => by cases e; first | exact .inl rfl | (right; right; omega))
                replace hb_g5 := hb_g5.gr hg209 (by intro e; cases e; omega)
                replace hb_g7 := hb_g7.gr hg209 (by intro e; cases e; omega)
                replace ho31 := Own.gr ho31 hg209 (by first | exact .inl rfl | (right; intro e; first | (have := hq_ho31 _ e; omega) | (have := Own.lt ho31 e; omega) | exact own_blk_ne ho31 hb_g4 (by decide) e))
                replace hb140 := hb140.gr hg209 (fun x e => by cases e; omega) (fun x e e2 => by cases e; have := hDs _ e2; omega)
                replace ho145 := Own.gr ho145 hg209 (by first | exact .inl rfl | (right; intro e; first | (have := hq_ho145 _ e; omega) | (have := Own.lt ho145 e; omega) | exact own_blk_ne ho145 hb_g4 (by decide) e))
                replace hrB145 := hrB145.gr hg209 (fun _ e => by cases e; omega)
                replace hb_g22 := hb_g22.gr hg209 (by intro e; cases e; omega)
                replace hb_g4 := hN209
                refine q_nil ?_
                refine k_then ?_
                refine wc_regionL ?_
                refine wl_val (ov_move rfl) rfl rfl rfl ?_
                refine wl_val (ov_move rfl) rfl rfl rfl ?_
                refine wl_val (ov_eql rfl rfl) rfl rfl rfl ?_
                refine wl_spell (d := 162) rfl (bt (by rw [bsk_ok hn (by omega)]; rfl)) ?_
                refine wl_val (ov_assign rfl) rfl rfl rfl ?_
                refine q_nil ?_
                refine k_block ?_
                refine k_then ?_
                refine wc_seq ?_
                refine wc_seq ?_
                refine wc_regionL ?_
                refine wl_val (ov_assign rfl) rfl rfl rfl ?_
                refine q_nil ?_
                refine k_then ?_
                have hcap_9 := RdB.cap (OwnB.rd ho31)
                refine wc_block ?_
                refine wc_loop (σ := Nat × List UInt8) (fun s => q.length - s.1) (fun s => [(9, .slice A31 q.length c31), (28, .int .i64 (s.1 : Int)), (0, (.pointer (some ⟨g, 0, none⟩))), (4, (.pointer (some ⟨g4, 0, none⟩))), (6, (.pointer none)), (7, (.pointer (some ⟨g7, 0, none⟩))), (8, (.bool false)), (10, (.bool true))]) (fun s w' => OwnB w' w3.heap.size 5 A31 c31 s.2 ∧ Gr w209 w' (blk A31) ∧ s.2.length = q.length ∧ s.1 ≤ q.length) (0, q) (⟨ho31, (ext_refl _).row _, rfl, Nat.zero_le _⟩) (⟨rfl, rfl, rfl, rfl, rfl, rfl, rfl, rfl, trivial⟩) ?_
                rintro ⟨k_9, l_9⟩ w210 ⟨ho_9, hG_9, hL_9, hk_9⟩
                simp only at hL_9 hk_9
                replace ho_9 : OwnB _ _ _ _ _ l_9 := ho_9
                show WC _ _ _ _ [(9, (.slice A31 q.length c31)), (28, (.int .i64 (↑k_9 : Int))), (0, (.pointer (some ⟨g, 0, none⟩))), (4, (.pointer (some ⟨g4, 0, none⟩))), (6, (.pointer none)), (7, (.pointer (some ⟨g7, 0, none⟩))), (8, (.bool false)), (10, (.bool true))] _
                refine wc_seq ?_
                refine wc_seq ?_
                refine wc_regionL ?_
                refine wl_val (ov_move rfl) rfl rfl rfl ?_
                refine wl_val (ov_move rfl) rfl rfl rfl ?_
                refine wl_val (ov_len Try.underlying26 rfl) rfl rfl rfl ?_
                refine wl_val (ov_lss rfl rfl) rfl rfl rfl ?_
                refine q_nil ?_
                refine k_then ?_
                refine wc_cond_d rfl (fun hc11 => ?_) (fun hc11 => ?_)
                · obtain ⟨g_9, hA_9, hg1_9, hgu_9⟩ := Own.addr ho_9 (by omega)
                  subst hA_9
                  refine q_skip ?_
                  refine k_then ?_
                  refine wc_seq ?_
                  refine wc_block ?_
                  refine wc_regionL ?_
                  refine wl_val (ov_move rfl) rfl rfl rfl ?_
                  refine wl_val (ov_move rfl) rfl rfl rfl ?_
                  refine wl_val (ov_oindex bt26.s rfl rfl rfl (by omega)) rfl rfl rfl ?_
                  refine wl_val (ov_load oc5 rfl (OwnB.cellAt ho_9 (by omega))) rfl rfl rfl ?_
                  refine wl_val (ov_add rfl rfl (wu8_succ _)) rfl rfl rfl ?_
                  refine wl_val (ov_oindex bt26.s rfl rfl rfl (by omega)) rfl rfl rfl ?_
                  refine wl_step0 (or_storeOwn sz5 rfl rfl ho_9 (by omega)) rfl rfl ?_
                  rintro _ w211 ⟨ho2_9, hg2_9⟩
                  have hz2_9 := hg2_9.size
                  refine q_nil ?_
                  refine k_block ?_
                  refine k_then ?_
                  refine wc_regionL ?_
                  refine wl_val (ov_move rfl) rfl rfl rfl ?_
                  refine wl_val (ov_add rfl rfl (wi64 (by omega) (by omega))) rfl rfl rfl ?_
                  refine wl_val (ov_assign rfl) rfl rfl rfl ?_
                  refine q_nil ?_
                  refine k_loop ((k_9 + 1, l_9.set k_9 ((l_9.getD k_9 0) + 1))) (by show q.length - (k_9 + 1) < q.length - k_9; omega) (⟨rfl, rfl, rfl, rfl, rfl, rfl, rfl, rfl, trivial⟩) (⟨ho2_9, hG_9.gr hg2_9 (fun g e => .inl e), by show (List.set _ _ _).length = _; rw [List.length_set]; exact hL_9, by show k_9 + 1 ≤ _; omega⟩)
                · refine wc_spell (d := 9) rfl (v' := .slice A31 l_9.length c31) (by rw [hL_9]) ?_
                  have hz_hG_9 := hG_9.size
                  replace hr := hr.gr hG_9 (fun g e => by have := hq_ho31 g e; omega)
                  replace hrq := hrq.gr hG_9 (fun g e => by have := hq_ho31 g e; omega)
                  replace hC := hC.gr2 hG_9 (fun x e => .inr (.inr (by have := hq_ho31 x e; omega)))
                  replace hb_g4 := hb_g4.gr hG_9 (fun e => by have := hq_ho31 _ e; omega)
                  replace hb_g5 := hb_g5.gr hG_9 (fun e => by have := hq_ho31 _ e; omega)
                  replace hb_g7 := hb_g7.gr hG_9 (fun e => by have := hq_ho31 _ e; omega)
                  replace hb140 := hb140.gr hG_9 (fun x e => by have := hq_ho31 x e; omega) (fun x e e2 => by have h1 := hq_ho31 x e; have h2 := hDs x e2; omega)
                  replace ho145 := Own.gr ho145 hG_9 (own_apart fun g e g2 e2 => by have := hq_ho145 g e; have := hq_ho31 g2 e2; omega)
                  replace hrB145 := hrB145.gr hG_9 (fun g e => by have := hq_ho31 g e; omega)
                  replace hb_g22 := hb_g22.gr hG_9 (fun e => by have := hq_ho31 _ e; omega)
                  have hq_ho_9 := fun g e => Own.lt ho_9 (g := g) e
                  refine q_exit ?_
                  refine k_thenX ?_
                  refine k_thenX ?_
                  refine k_blockE ?_
                  refine k_then ?_
                  refine wc_seq ?_
                  refine wc_drawA mixed ?_
                  intro w211 hx45
                  replace hr := hr.ext hx45
                  replace hrq := hrq.ext hx45
                  replace hC := hC.ext hx45
                  replace hb_g4 := hb_g4.ext hx45
                  replace hb_g5 := hb_g5.ext hx45
                  replace hb_g7 := hb_g7.ext hx45
                  replace hb140 := hb140.ext hx45
                  replace ho145 := Own.ext ho145 hx45
                  replace hrB145 := hrB145.ext hx45
                  replace hb_g22 := hb_g22.ext hx45
                  replace ho_9 := Own.ext ho_9 hx45
                  have hz_hx45 := hx45.size
                  refine wa_main (BelS w211.heap.size [g7]) (bels_ext) (bels_tr) 0 5 [(200, eqv (.pointer (some ⟨g, 0, none⟩))), (201, eqv (.agg #[(.int .i64 (↑m : Int)), (.slice A145 (l.drop (Int.toNat a2)).length c145), (.int .u64 (↑p : Int))])), (202, eqv (.bool true)), (6, eqv (.pointer (some ⟨g, 0, none⟩))), (207, (fun _ w => Blk w g7 29 [(.int .i64 (↑m : Int)), (.slice A145 (l.drop (Int.toNat a2)).length c145), (.int .u64 (↑p : Int))]))] [[], [], [], [0], [1]] [false, false, false, false, true] [false, false, false, false, true] [true, true, true, true, true] false [(0, (.pointer (some ⟨g, 0, none⟩))), (4, (.pointer (some ⟨g4, 0, none⟩))), (7, (.pointer (some ⟨g7, 0, none⟩))), (8, (.bool false)), (10, (.bool true))] [] [] (Env.sub_get ⟨rfl, rfl, rfl, rfl, rfl, trivial⟩) trivial (by kernel_rfl) rfl ⟨stb_eqv _, stb_eqv _, stb_eqv _, stb_eqv _, (fun _ w w' hb he => hb.ext he), trivial⟩ ⟨?_, ?_, ?_, ?_, ?_, trivial⟩ ?_
                  · intro wd hxE
                    have hk_hxE := bels_out hxE
                    obtain ⟨cs_g7, hcs_g7, hb_g7⟩ := bels_blk hxE (by simp) hb_g7
                    have hz_hk_hxE := hk_hxE.size
                    replace hr := hk_hxE.rd hr (by intro g hg; simp at hg; omega)
                    replace hrq := hk_hxE.rd hrq (by intro g hg; simp at hg; omega)
                    replace hC := hC.kp2 hk_hxE (by intro x hx; simp at hx; omega)
                    replace hb_g4 := hk_hxE.bk hb_g4 (by intro hg; simp at hg; omega)
                    replace hb_g5 := hk_hxE.bk hb_g5 (by intro hg; simp at hg; omega)
                    replace hb140 := hb140.kp hk_hxE (by intro hg; simp at hg; omega) (fun x e hg => by simp at hg; have := hDs x e; omega)
                    replace ho145 := hk_hxE.own ho145 (by intro g e hg; simp at hg; have := hq_ho145 g e; omega)
                    replace hrB145 := hk_hxE.rd hrB145 (by intro g hg; simp at hg; omega)
                    replace hb_g22 := hk_hxE.bk hb_g22 (by intro hg; simp at hg; omega)
                    replace ho_9 := hk_hxE.own ho_9 (by intro g e hg; simp at hg; have := hq_ho_9 g e; omega)
                    show OpG _ _ _ _ _ _
                    exact og_plain rfl (ox_val (ov_move rfl))
                  · intro wd hxE
                    have hk_hxE := bels_out hxE
                    obtain ⟨cs_g7, hcs_g7, hb_g7⟩ := bels_blk hxE (by simp) hb_g7
                    have hz_hk_hxE := hk_hxE.size
                    replace hr := hk_hxE.rd hr (by intro g hg; simp at hg; omega)
                    replace hrq := hk_hxE.rd hrq (by intro g hg; simp at hg; omega)
                    replace hC := hC.kp2 hk_hxE (by intro x hx; simp at hx; omega)
                    replace hb_g4 := hk_hxE.bk hb_g4 (by intro hg; simp at hg; omega)
                    replace hb_g5 := hk_hxE.bk hb_g5 (by intro hg; simp at hg; omega)
                    replace hb140 := hb140.kp hk_hxE (by intro hg; simp at hg; omega) (fun x e hg => by simp at hg; have := hDs x e; omega)
                    replace ho145 := hk_hxE.own ho145 (by intro g e hg; simp at hg; have := hq_ho145 g e; omega)
                    replace hrB145 := hk_hxE.rd hrB145 (by intro g hg; simp at hg; omega)
                    replace hb_g22 := hk_hxE.bk hb_g22 (by intro hg; simp at hg; omega)
                    replace ho_9 := hk_hxE.own ho_9 (by intro g e hg; simp at hg; have := hq_ho_9 g e; omega)
                    show OpG _ _ _ _ _ _
                    exact og_plain rfl (ox_val (ov_loadBlk (cs := [(.int .i64 (↑m : Int)), (.slice A145 (l.drop (Int.toNat a2)).length c145), (.int .u64 (↑p : Int))]) ag29_3 rfl hb_g4))
                  · intro wd hxE
                    have hk_hxE := bels_out hxE
                    obtain ⟨cs_g7, hcs_g7, hb_g7⟩ := bels_blk hxE (by simp) hb_g7
                    have hz_hk_hxE := hk_hxE.size
                    replace hr := hk_hxE.rd hr (by intro g hg; simp at hg; omega)
                    replace hrq := hk_hxE.rd hrq (by intro g hg; simp at hg; omega)
                    replace hC := hC.kp2 hk_hxE (by intro x hx; simp at hx; omega)
                    replace hb_g4 := hk_hxE.bk hb_g4 (by intro hg; simp at hg; omega)
                    replace hb_g5 := hk_hxE.bk hb_g5 (by intro hg; simp at hg; omega)
                    replace hb140 := hb140.kp hk_hxE (by intro hg; simp at hg; omega) (fun x e hg => by simp at hg; have := hDs x e; omega)
                    replace ho145 := hk_hxE.own ho145 (by intro g e hg; simp at hg; have := hq_ho145 g e; omega)
                    replace hrB145 := hk_hxE.rd hrB145 (by intro g hg; simp at hg; omega)
                    replace hb_g22 := hk_hxE.bk hb_g22 (by intro hg; simp at hg; omega)
                    replace ho_9 := hk_hxE.own ho_9 (by intro g e hg; simp at hg; have := hq_ho_9 g e; omega)
                    show OpG _ _ _ _ _ _
                    exact og_plain rfl (ox_val (ov_move rfl))
                  · intro wd hxE
                    have hk_hxE := bels_out hxE
                    obtain ⟨cs_g7, hcs_g7, hb_g7⟩ := bels_blk hxE (by simp) hb_g7
                    have hz_hk_hxE := hk_hxE.size
                    replace hr := hk_hxE.rd hr (by intro g hg; simp at hg; omega)
                    replace hrq := hk_hxE.rd hrq (by intro g hg; simp at hg; omega)
                    replace hC := hC.kp2 hk_hxE (by intro x hx; simp at hx; omega)
                    replace hb_g4 := hk_hxE.bk hb_g4 (by intro hg; simp at hg; omega)
                    replace hb_g5 := hk_hxE.bk hb_g5 (by intro hg; simp at hg; omega)
                    replace hb140 := hb140.kp hk_hxE (by intro hg; simp at hg; omega) (fun x e hg => by simp at hg; have := hDs x e; omega)
                    replace ho145 := hk_hxE.own ho145 (by intro g e hg; simp at hg; have := hq_ho145 g e; omega)
                    replace hrB145 := hk_hxE.rd hrB145 (by intro g hg; simp at hg; omega)
                    replace hb_g22 := hk_hxE.bk hb_g22 (by intro hg; simp at hg; omega)
                    replace ho_9 := hk_hxE.own ho_9 (by intro g e hg; simp at hg; have := hq_ho_9 g e; omega)
                    rintro _ rfl
                    show OpG _ _ _ _ _ _
                    exact og_plain rfl (ox_val (ov_assign rfl))
                  · intro wd hxE
                    have hk_hxE := bels_out hxE
                    obtain ⟨cs_g7, hcs_g7, hb_g7⟩ := bels_blk hxE (by simp) hb_g7
                    have hz_hk_hxE := hk_hxE.size
                    replace hr := hk_hxE.rd hr (by intro g hg; simp at hg; omega)
                    replace hrq := hk_hxE.rd hrq (by intro g hg; simp at hg; omega)
                    replace hC := hC.kp2 hk_hxE (by intro x hx; simp at hx; omega)
                    replace hb_g4 := hk_hxE.bk hb_g4 (by intro hg; simp at hg; omega)
                    replace hb_g5 := hk_hxE.bk hb_g5 (by intro hg; simp at hg; omega)
                    replace hb140 := hb140.kp hk_hxE (by intro hg; simp at hg; omega) (fun x e hg => by simp at hg; have := hDs x e; omega)
                    replace ho145 := hk_hxE.own ho145 (by intro g e hg; simp at hg; have := hq_ho145 g e; omega)
                    replace hrB145 := hk_hxE.rd hrB145 (by intro g hg; simp at hg; omega)
                    replace hb_g22 := hk_hxE.bk hb_g22 (by intro hg; simp at hg; omega)
                    replace ho_9 := hk_hxE.own ho_9 (by intro g e hg; simp at hg; have := hq_ho_9 g e; omega)
                    rintro _ rfl
                    show OpG _ _ _ _ _ _
                    have hb0 := hb_g7
                    refine og_plain rfl (OpRun.mono (or_storeBlk (vs := [(.int .i64 (↑m : Int)), (.slice A145 (l.drop (Int.toNat a2)).length c145), (.int .u64 (↑p : Int))]) sz29 rfl rfl (by simp [Value.oneCell']) hb_g7 hcs_g7) ?_)
                    rintro _ w212 ⟨hN212, hg212⟩
                    have hz_hg212 := hg212.size
                    replace hr := hr.gr hg212 (fun _ e => by cases e; omega)
                    replace hrq := hrq.gr hg212 (fun _ e => by cases e; omega)
                    replace hC := hC.gr2 hg212 (fun x e => by cases e; first | exact .inl rfl | (right; right; omega))
                    replace hb_g4 := hb_g4.gr hg212 (by intro e; cases e; omega)
                    replace hb_g5 := hb_g5.gr hg212 (by intro e; cases e; omega)
                    replace hb140 := hb140.gr hg212 (fun x e => by cases e; omega) (fun x e e2 => by cases e; have := hDs _ e2; omega)
                    replace ho145 := Own.gr ho145 hg212 (by first | exact .inl rfl | (right; intro e; first | (have := hq_ho145 _ e; omega) | (have := Own.lt ho145 e; omega) | exact own_blk_ne ho145 hb_g7 (by decide) e))
                    replace hrB145 := hrB145.gr hg212 (fun _ e => by cases e; omega)
                    replace hb_g22 := hb_g22.gr hg212 (by intro e; cases e; omega)
                    replace ho_9 := Own.gr ho_9 hg212 (by first | exact .inl rfl | (right; intro e; first | (have := hq_ho_9 _ e; omega) | (have := Own.lt ho_9 e; omega) | exact own_blk_ne ho_9 hb_g7 (by decide) e))
                    replace hb_g7 := hN212
                    exact ⟨hb_g7, bels_store hg212 (by simp) hb0 hb_g7 hcs_g7⟩
                  · intro wf45 hf45
                    have hk_hf45 := bels_out hf45
                    obtain ⟨cs_g7, hcs_g7, hb_g7⟩ := bels_blk hf45 (by simp) hb_g7
                    have hz_hk_hf45 := hk_hf45.size
                    replace hr := hk_hf45.rd hr (by intro g hg; simp at hg; omega)
                    replace hrq := hk_hf45.rd hrq (by intro g hg; simp at hg; omega)
                    replace hC := hC.kp2 hk_hf45 (by intro x hx; simp at hx; omega)
                    replace hb_g4 := hk_hf45.bk hb_g4 (by intro hg; simp at hg; omega)
                    replace hb_g5 := hk_hf45.bk hb_g5 (by intro hg; simp at hg; omega)
                    replace hb140 := hb140.kp hk_hf45 (by intro hg; simp at hg; omega) (fun x e hg => by simp at hg; have := hDs x e; omega)
                    replace ho145 := hk_hf45.own ho145 (by intro g e hg; simp at hg; have := hq_ho145 g e; omega)
                    replace hrB145 := hk_hf45.rd hrB145 (by intro g hg; simp at hg; omega)
                    replace hb_g22 := hk_hf45.bk hb_g22 (by intro hg; simp at hg; omega)
                    replace ho_9 := hk_hf45.own ho_9 (by intro g e hg; simp at hg; have := hq_ho_9 g e; omega)
                    rintro _ rfl
                    rintro _ rfl
                    rintro _ rfl
                    rintro _ rfl
                    rintro _ hb_g7
                    refine wa_tail (by kernel_rfl) ?_
                    show WL _ _ _ [_] _ _ _
                    refine wl_val (ov_assign rfl) rfl rfl rfl ?_
                    refine q_nil ?_
                    refine k_then ?_
                    refine q_ret ?_
                    refine e_retL (rs := [.tmp 6, .cell 7 29, .tmp 8]) (vs := [(.pointer (some ⟨g, 0, none⟩)), .agg #[(.int .i64 (↑m : Int)), (.slice A145 (l.drop (Int.toNat a2)).length c145), (.int .u64 (↑p : Int))], (.bool true)]) rfl ⟨rfl, ⟨_, _, [(.int .i64 (↑m : Int)), (.slice A145 (l.drop (Int.toNat a2)).length c145), (.int .u64 (↑p : Int))], rfl, ag29_3, hb_g7, rfl⟩, rfl, trivial⟩ ?_
                    rw [bsk_ok hn (by omega)] at hb140
                    exact ⟨_, _, _, g, _, _, _, _, _, _, rfl, ⟨hb140, (OwnB.rd ho145), Nat.le_refl _, by omega, by omega, fun x e => by have := hDs x e; omega, by simp; omega, by omega, fun x e => by have := hDs x e; omega⟩, by omega, hC, .inl rfl, Nx.refl _ _, .inr (by omega)⟩
          · refine wc_seq ?_
            refine wc_regionL ?_
            refine wl_val (ov_eql rfl rfl) rfl rfl rfl ?_
            refine wl_val (ov_assign rfl) rfl rfl rfl ?_
            refine q_nil ?_
            refine k_then ?_
            refine wc_cond_d rfl (fun hc9 => ?_) (fun hc9 => ?_)
            · refine wc_seq ?_
              refine wc_regionL ?_
              refine wl_val (ov_move rfl) rfl rfl rfl ?_
              refine wl_step (or_call0 cl24 rfl rfl (bclear_ok _ lo g D m l p t hbuf (by omega) (by omega))) rfl rfl rfl ?_
              rintro v w205 ⟨rfl, hb167, hC167⟩
              have hDa167 : ∀ x, D = some x → (b0 ≤ x ∧ (x < lor ∨ hir ≤ x) ∧ x < w.heap.size) ∧ x < w4.heap.size := fun x e => ⟨hDs x e, (hbuf.lt.2 x e).2⟩
              have hz_hC167 := hC167.size
              replace hr := hC167.rd hr (by omega) (fun x e => by have := hDa167 x e; omega)
              replace hrq := hC167.rd hrq (by omega) (fun x e => by have := hDa167 x e; omega)
              replace hC := hC.tr hC167 (fun x e => by first | exact .inl e | (right; have := hDa167 x e; omega))
              replace hb_g4 := hC167.bk hb_g4 (by omega) (fun e2 => by have := hDa167 _ e2; omega)
              replace hb_g5 := hC167.bk hb_g5 (by omega) (fun e2 => by have := hDa167 _ e2; omega)
              replace hb_g7 := hC167.bk hb_g7 (by omega) (fun e2 => by have := hDa167 _ e2; omega)
              replace ho31 := hC167.own ho31 (fun x e => ⟨by have := hq_ho31 x e; omega, fun e2 => by have h1 := hq_ho31 x e; have h2 := hDa167 x e2; omega⟩)
              have hzb167 := hb167.lt.1
              have hcp167 := hb167.cap
              refine wl_val (ov_move rfl) rfl rfl rfl ?_
              refine wl_val (ov_extract rfl rfl) rfl rfl rfl ?_
              refine wl_val (ov_extract rfl rfl) rfl rfl rfl ?_
              refine wl_val (ov_assign rfl) rfl rfl rfl ?_
              refine wl_val (ov_assign rfl) rfl rfl rfl ?_
              refine q_nil ?_
              refine k_then ?_
              refine wc_seq ?_
              refine wc_regionL ?_
              refine wl_val (ov_move rfl) rfl rfl rfl ?_
              refine wl_val (ov_field0 (off := 1) fo29_1 rfl) rfl rfl rfl ?_
              refine wl_val (ov_loadAt oc26 rfl hb_g4 rfl) rfl rfl rfl ?_
              refine wl_val (ov_len Try.underlying26 rfl) rfl rfl rfl ?_
              refine wl_val (ov_eql rfl rfl) rfl rfl rfl ?_
              refine wl_spell (d := 174) rfl (bt (rfl)) ?_
              refine wl_val (ov_move rfl) rfl rfl rfl ?_
              refine wl_gval (ov_move rfl) rfl rfl rfl rfl rfl ?_
              refine wl_gval (ov_eql rfl rfl) rfl rfl rfl rfl rfl ?_
              refine wl_val (ov_pick_t rfl rfl) rfl rfl rfl ?_
              refine wl_val (ov_assign rfl) rfl rfl rfl ?_
              refine q_nil ?_
              refine k_then ?_
              refine wc_regionL ?_
              refine wl_val (ov_loadBlk (cs := [(.int .i64 (↑m : Int)), (.slice A l.length c), (.int .u64 (↑p : Int))]) ag29_3 rfl hb_g4) rfl rfl rfl ?_
              refine wl_val (ov_field0 (off := 1) fo29_1 rfl) rfl rfl rfl ?_
              refine wl_val (ov_loadAt oc26 rfl hb_g4 rfl) rfl rfl rfl ?_
              refine wl_val (ov_len Try.underlying26 rfl) rfl rfl rfl ?_
              refine wl_step (or_call0 cl57 rfl rfl (rtake_ok _ _ _ (m) _ _ l (p) hr (by omega) (by omega) (by omega) (↑l.length : Int) (by omega) (by omega))) rfl rfl rfl ?_
              rintro v w206 ⟨A184, c184, B184, d184, rfl, ho184, hrB184, he184⟩
              replace hr := hr.ext he184
              replace hrq := hrq.ext he184
              replace hC := hC.ext he184
              replace hb_g4 := hb_g4.ext he184
              replace hb_g5 := hb_g5.ext he184
              replace hb_g7 := hb_g7.ext he184
              replace ho31 := Own.ext ho31 he184
              replace hb167 := hb167.ext he184
              have hz_he184 := he184.size
              have hq_ho184 := fun g e => Own.lt ho184 (g := g) e
              refine wl_val (ov_move rfl) rfl rfl rfl ?_
              refine wl_val (ov_extract rfl rfl) rfl rfl rfl ?_
              refine wl_val (ov_extract rfl rfl) rfl rfl rfl ?_
              refine wl_val (ov_extract rfl rfl) rfl rfl rfl ?_
              refine wl_step0 (or_storeBlk (vs := [(.int .i64 (↑m : Int)), (.slice A184 (l.drop (Int.toNat (↑l.length : Int))).length c184), (.int .u64 (↑p : Int))]) sz29 rfl rfl (by simp [Value.oneCell']) hb_g4 rfl) rfl rfl ?_
              rintro _ w207 ⟨hN207, hg207⟩
              have hz_hg207 := hg207.size
              replace hr := hr.gr hg207 (fun _ e => by cases e; omega)
              replace hrq := hrq.gr hg207 (fun _ e => by cases e; omega)
              replace hC := hC.gr2 hg207 (fun x e => by cases e; first | exact .inl rfl | (right; right; omega))
              replace hb_g5 := hb_g5.gr hg207 (by intro e; cases e; omega)
              replace hb_g7 := hb_g7.gr hg207 (by intro e; cases e; omega)
              replace ho31 := Own.gr ho31 hg207 (by first | exact .inl rfl | (right; intro e; first | (have := hq_ho31 _ e; omega) | (have := Own.lt ho31 e; omega) | exact own_blk_ne ho31 hb_g4 (by decide) e))
              replace hb167 := hb167.gr hg207 (fun x e => by cases e; omega) (fun x e e2 => by cases e; have := hDs _ e2; omega)
              replace ho184 := Own.gr ho184 hg207 (by first | exact .inl rfl | (right; intro e; first | (have := hq_ho184 _ e; omega) | (have := Own.lt ho184 e; omega) | exact own_blk_ne ho184 hb_g4 (by decide) e))
              replace hrB184 := hrB184.gr hg207 (fun _ e => by cases e; omega)
              replace hb_g4 := hN207
              refine q_nil ?_
              refine k_block ?_
              refine k_then ?_
              refine wc_seq ?_
              refine wc_seq ?_
              refine wc_regionL ?_
              refine wl_val (ov_assign rfl) rfl rfl rfl ?_
              refine q_nil ?_
              refine k_then ?_
              have hcap_9 := RdB.cap (OwnB.rd ho31)
              refine wc_block ?_
              refine wc_loop (σ := Nat × List UInt8) (fun s => q.length - s.1) (fun s => [(9, .slice A31 q.length c31), (28, .int .i64 (s.1 : Int)), (0, (.pointer (some ⟨g, 0, none⟩))), (4, (.pointer (some ⟨g4, 0, none⟩))), (6, (.pointer none)), (7, (.pointer (some ⟨g7, 0, none⟩))), (8, (.bool false)), (10, (.bool true))]) (fun s w' => OwnB w' w3.heap.size 5 A31 c31 s.2 ∧ Gr w207 w' (blk A31) ∧ s.2.length = q.length ∧ s.1 ≤ q.length) (0, q) (⟨ho31, (ext_refl _).row _, rfl, Nat.zero_le _⟩) (⟨rfl, rfl, rfl, rfl, rfl, rfl, rfl, rfl, trivial⟩) ?_
              rintro ⟨k_9, l_9⟩ w208 ⟨ho_9, hG_9, hL_9, hk_9⟩
              simp only at hL_9 hk_9
              replace ho_9 : OwnB _ _ _ _ _ l_9 := ho_9
              show WC _ _ _ _ [(9, (.slice A31 q.length c31)), (28, (.int .i64 (↑k_9 : Int))), (0, (.pointer (some ⟨g, 0, none⟩))), (4, (.pointer (some ⟨g4, 0, none⟩))), (6, (.pointer none)), (7, (.pointer (some ⟨g7, 0, none⟩))), (8, (.bool false)), (10, (.bool true))] _
              refine wc_seq ?_
              refine wc_seq ?_
              refine wc_regionL ?_
              refine wl_val (ov_move rfl) rfl rfl rfl ?_
              refine wl_val (ov_move rfl) rfl rfl rfl ?_
              refine wl_val (ov_len Try.underlying26 rfl) rfl rfl rfl ?_
              refine wl_val (ov_lss rfl rfl) rfl rfl rfl ?_
              refine q_nil ?_
              refine k_then ?_
              refine wc_cond_d rfl (fun hc11 => ?_) (fun hc11 => ?_)
              · obtain ⟨g_9, hA_9, hg1_9, hgu_9⟩ := Own.addr ho_9 (by omega)
                subst hA_9
                refine q_skip ?_
                refine k_then ?_
                refine wc_seq ?_
                refine wc_block ?_
                refine wc_regionL ?_
                refine wl_val (ov_move rfl) rfl rfl rfl ?_
                refine wl_val (ov_move rfl) rfl rfl rfl ?_
                refine wl_val (ov_oindex bt26.s rfl rfl rfl (by omega)) rfl rfl rfl ?_
                refine wl_val (ov_load oc5 rfl (OwnB.cellAt ho_9 (by omega))) rfl rfl rfl ?_
                refine wl_val (ov_add rfl rfl (wu8_succ _)) rfl rfl rfl ?_
                refine wl_val (ov_oindex bt26.s rfl rfl rfl (by omega)) rfl rfl rfl ?_
                refine wl_step0 (or_storeOwn sz5 rfl rfl ho_9 (by omega)) rfl rfl ?_
                rintro _ w209 ⟨ho2_9, hg2_9⟩
                have hz2_9 := hg2_9.size
                refine q_nil ?_
                refine k_block ?_
                refine k_then ?_
                refine wc_regionL ?_
                refine wl_val (ov_move rfl) rfl rfl rfl ?_
                refine wl_val (ov_add rfl rfl (wi64 (by omega) (by omega))) rfl rfl rfl ?_
                refine wl_val (ov_assign rfl) rfl rfl rfl ?_
                refine q_nil ?_
                refine k_loop ((k_9 + 1, l_9.set k_9 ((l_9.getD k_9 0) + 1))) (by show q.length - (k_9 + 1) < q.length - k_9; omega) (⟨rfl, rfl, rfl, rfl, rfl, rfl, rfl, rfl, trivial⟩) (⟨ho2_9, hG_9.gr hg2_9 (fun g e => .inl e), by show (List.set _ _ _).length = _; rw [List.length_set]; exact hL_9, by show k_9 + 1 ≤ _; omega⟩)
              · refine wc_spell (d := 9) rfl (v' := .slice A31 l_9.length c31) (by rw [hL_9]) ?_
                have hz_hG_9 := hG_9.size
                replace hr := hr.gr hG_9 (fun g e => by have := hq_ho31 g e; omega)
                replace hrq := hrq.gr hG_9 (fun g e => by have := hq_ho31 g e; omega)
                replace hC := hC.gr2 hG_9 (fun x e => .inr (.inr (by have := hq_ho31 x e; omega)))
                replace hb_g4 := hb_g4.gr hG_9 (fun e => by have := hq_ho31 _ e; omega)
                replace hb_g5 := hb_g5.gr hG_9 (fun e => by have := hq_ho31 _ e; omega)
                replace hb_g7 := hb_g7.gr hG_9 (fun e => by have := hq_ho31 _ e; omega)
                replace hb167 := hb167.gr hG_9 (fun x e => by have := hq_ho31 x e; omega) (fun x e e2 => by have h1 := hq_ho31 x e; have h2 := hDs x e2; omega)
                replace ho184 := Own.gr ho184 hG_9 (own_apart fun g e g2 e2 => by have := hq_ho184 g e; have := hq_ho31 g2 e2; omega)
                replace hrB184 := hrB184.gr hG_9 (fun g e => by have := hq_ho31 g e; omega)
                have hq_ho_9 := fun g e => Own.lt ho_9 (g := g) e
                refine q_exit ?_
                refine k_thenX ?_
                refine k_thenX ?_
                refine k_blockE ?_
                refine k_then ?_
                refine wc_seq ?_
                refine wc_drawA mixed ?_
                intro w209 hx45
                replace hr := hr.ext hx45
                replace hrq := hrq.ext hx45
                replace hC := hC.ext hx45
                replace hb_g4 := hb_g4.ext hx45
                replace hb_g5 := hb_g5.ext hx45
                replace hb_g7 := hb_g7.ext hx45
                replace hb167 := hb167.ext hx45
                replace ho184 := Own.ext ho184 hx45
                replace hrB184 := hrB184.ext hx45
                replace ho_9 := Own.ext ho_9 hx45
                have hz_hx45 := hx45.size
                refine wa_main (BelS w209.heap.size [g7]) (bels_ext) (bels_tr) 0 5 [(200, eqv (.pointer (some ⟨g, 0, none⟩))), (201, eqv (.agg #[(.int .i64 (↑m : Int)), (.slice A184 (l.drop (Int.toNat (↑l.length : Int))).length c184), (.int .u64 (↑p : Int))])), (202, eqv (.bool true)), (6, eqv (.pointer (some ⟨g, 0, none⟩))), (207, (fun _ w => Blk w g7 29 [(.int .i64 (↑m : Int)), (.slice A184 (l.drop (Int.toNat (↑l.length : Int))).length c184), (.int .u64 (↑p : Int))]))] [[], [], [], [0], [1]] [false, false, false, false, true] [false, false, false, false, true] [true, true, true, true, true] false [(0, (.pointer (some ⟨g, 0, none⟩))), (4, (.pointer (some ⟨g4, 0, none⟩))), (7, (.pointer (some ⟨g7, 0, none⟩))), (8, (.bool false)), (10, (.bool true))] [] [] (Env.sub_get ⟨rfl, rfl, rfl, rfl, rfl, trivial⟩) trivial (by kernel_rfl) rfl ⟨stb_eqv _, stb_eqv _, stb_eqv _, stb_eqv _, (fun _ w w' hb he => hb.ext he), trivial⟩ ⟨?_, ?_, ?_, ?_, ?_, trivial⟩ ?_
                · intro wd hxE
                  have hk_hxE := bels_out hxE
                  obtain ⟨cs_g7, hcs_g7, hb_g7⟩ := bels_blk hxE (by simp) hb_g7
                  have hz_hk_hxE := hk_hxE.size
                  replace hr := hk_hxE.rd hr (by intro g hg; simp at hg; omega)
                  replace hrq := hk_hxE.rd hrq (by intro g hg; simp at hg; omega)
                  replace hC := hC.kp2 hk_hxE (by intro x hx; simp at hx; omega)
                  replace hb_g4 := hk_hxE.bk hb_g4 (by intro hg; simp at hg; omega)
                  replace hb_g5 := hk_hxE.bk hb_g5 (by intro hg; simp at hg; omega)
                  replace hb167 := hb167.kp hk_hxE (by intro hg; simp at hg; omega) (fun x e hg => by simp at hg; have := hDs x e; omega)
                  replace ho184 := hk_hxE.own ho184 (by intro g e hg; simp at hg; have := hq_ho184 g e; omega)
                  replace hrB184 := hk_hxE.rd hrB184 (by intro g hg; simp at hg; omega)
                  replace ho_9 := hk_hxE.own ho_9 (by intro g e hg; simp at hg; have := hq_ho_9 g e; omega)
                  show OpG _ _ _ _ _ _
                  exact og_plain rfl (ox_val (ov_move rfl))
                · intro wd hxE
                  have hk_hxE := bels_out hxE
                  obtain ⟨cs_g7, hcs_g7, hb_g7⟩ := bels_blk hxE (by simp) hb_g7
                  have hz_hk_hxE := hk_hxE.size
                  replace hr := hk_hxE.rd hr (by intro g hg; simp at hg; omega)
                  replace hrq := hk_hxE.rd hrq (by intro g hg; simp at hg; omega)
                  replace hC := hC.kp2 hk_hxE (by intro x hx; simp at hx; omega)
                  replace hb_g4 := hk_hxE.bk hb_g4 (by intro hg; simp at hg; omega)
                  replace hb_g5 := hk_hxE.bk hb_g5 (by intro hg; simp at hg; omega)
                  replace hb167 := hb167.kp hk_hxE (by intro hg; simp at hg; omega) (fun x e hg => by simp at hg; have := hDs x e; omega)
                  replace ho184 := hk_hxE.own ho184 (by intro g e hg; simp at hg; have := hq_ho184 g e; omega)
                  replace hrB184 := hk_hxE.rd hrB184 (by intro g hg; simp at hg; omega)
                  replace ho_9 := hk_hxE.own ho_9 (by intro g e hg; simp at hg; have := hq_ho_9 g e; omega)
                  show OpG _ _ _ _ _ _
                  exact og_plain rfl (ox_val (ov_loadBlk (cs := [(.int .i64 (↑m : Int)), (.slice A184 (l.drop (Int.toNat (↑l.length : Int))).length c184), (.int .u64 (↑p : Int))]) ag29_3 rfl hb_g4))
                · intro wd hxE
                  have hk_hxE := bels_out hxE
                  obtain ⟨cs_g7, hcs_g7, hb_g7⟩ := bels_blk hxE (by simp) hb_g7
                  have hz_hk_hxE := hk_hxE.size
                  replace hr := hk_hxE.rd hr (by intro g hg; simp at hg; omega)
                  replace hrq := hk_hxE.rd hrq (by intro g hg; simp at hg; omega)
                  replace hC := hC.kp2 hk_hxE (by intro x hx; simp at hx; omega)
                  replace hb_g4 := hk_hxE.bk hb_g4 (by intro hg; simp at hg; omega)
                  replace hb_g5 := hk_hxE.bk hb_g5 (by intro hg; simp at hg; omega)
                  replace hb167 := hb167.kp hk_hxE (by intro hg; simp at hg; omega) (fun x e hg => by simp at hg; have := hDs x e; omega)
                  replace ho184 := hk_hxE.own ho184 (by intro g e hg; simp at hg; have := hq_ho184 g e; omega)
                  replace hrB184 := hk_hxE.rd hrB184 (by intro g hg; simp at hg; omega)
                  replace ho_9 := hk_hxE.own ho_9 (by intro g e hg; simp at hg; have := hq_ho_9 g e; omega)
                  show OpG _ _ _ _ _ _
                  exact og_plain rfl (ox_val (ov_move rfl))
                · intro wd hxE
                  have hk_hxE := bels_out hxE
                  obtain ⟨cs_g7, hcs_g7, hb_g7⟩ := bels_blk hxE (by simp) hb_g7
                  have hz_hk_hxE := hk_hxE.size
                  replace hr := hk_hxE.rd hr (by intro g hg; simp at hg; omega)
                  replace hrq := hk_hxE.rd hrq (by intro g hg; simp at hg; omega)
                  replace hC := hC.kp2 hk_hxE (by intro x hx; simp at hx; omega)
                  replace hb_g4 := hk_hxE.bk hb_g4 (by intro hg; simp at hg; omega)
                  replace hb_g5 := hk_hxE.bk hb_g5 (by intro hg; simp at hg; omega)
                  replace hb167 := hb167.kp hk_hxE (by intro hg; simp at hg; omega) (fun x e hg => by simp at hg; have := hDs x e; omega)
                  replace ho184 := hk_hxE.own ho184 (by intro g e hg; simp at hg; have := hq_ho184 g e; omega)
                  replace hrB184 := hk_hxE.rd hrB184 (by intro g hg; simp at hg; omega)
                  replace ho_9 := hk_hxE.own ho_9 (by intro g e hg; simp at hg; have := hq_ho_9 g e; omega)
                  rintro _ rfl
                  show OpG _ _ _ _ _ _
                  exact og_plain rfl (ox_val (ov_assign rfl))
                · intro wd hxE
                  have hk_hxE := bels_out hxE
                  obtain ⟨cs_g7, hcs_g7, hb_g7⟩ := bels_blk hxE (by simp) hb_g7
                  have hz_hk_hxE := hk_hxE.size
                  replace hr := hk_hxE.rd hr (by intro g hg; simp at hg; omega)
                  replace hrq := hk_hxE.rd hrq (by intro g hg; simp at hg; omega)
                  replace hC := hC.kp2 hk_hxE (by intro x hx; simp at hx; omega)
                  replace hb_g4 := hk_hxE.bk hb_g4 (by intro hg; simp at hg; omega)
                  replace hb_g5 := hk_hxE.bk hb_g5 (by intro hg; simp at hg; omega)
                  replace hb167 := hb167.kp hk_hxE (by intro hg; simp at hg; omega) (fun x e hg => by simp at hg; have := hDs x e; omega)
                  replace ho184 := hk_hxE.own ho184 (by intro g e hg; simp at hg; have := hq_ho184 g e; omega)
                  replace hrB184 := hk_hxE.rd hrB184 (by intro g hg; simp at hg; omega)
                  replace ho_9 := hk_hxE.own ho_9 (by intro g e hg; simp at hg; have := hq_ho_9 g e; omega)
                  rintro _ rfl
                  show OpG _ _ _ _ _ _
                  have hb0 := hb_g7
                  refine og_plain rfl (OpRun.mono (or_storeBlk (vs := [(.int .i64 (↑m : Int)), (.slice A184 (l.drop (Int.toNat (↑l.length : Int))).length c184), (.int .u64 (↑p : Int))]) sz29 rfl rfl (by simp [Value.oneCell']) hb_g7 hcs_g7) ?_)
                  rintro _ w210 ⟨hN210, hg210⟩
                  have hz_hg210 := hg210.size
                  replace hr := hr.gr hg210 (fun _ e => by cases e; omega)
                  replace hrq := hrq.gr hg210 (fun _ e => by cases e; omega)
                  replace hC := hC.gr2 hg210 (fun x e => by cases e; first | exact .inl rfl | (right; right; omega))
                  replace hb_g4 := hb_g4.gr hg210 (by intro e; cases e; omega)
                  replace hb_g5 := hb_g5.gr hg210 (by intro e; cases e; omega)
                  replace hb167 := hb167.gr hg210 (fun x e => by cases e; omega) (fun x e e2 => by cases e; have := hDs _ e2; omega)
                  replace ho184 := Own.gr ho184 hg210 (by first | exact .inl rfl | (right; intro e; first | (have := hq_ho184 _ e; omega) | (have := Own.lt ho184 e; omega) | exact own_blk_ne ho184 hb_g7 (by decide) e))
                  replace hrB184 := hrB184.gr hg210 (fun _ e => by cases e; omega)
                  replace ho_9 := Own.gr ho_9 hg210 (by first | exact .inl rfl | (right; intro e; first | (have := hq_ho_9 _ e; omega) | (have := Own.lt ho_9 e; omega) | exact own_blk_ne ho_9 hb_g7 (by decide) e))
                  replace hb_g7 := hN210
                  exact ⟨hb_g7, bels_store hg210 (by simp) hb0 hb_g7 hcs_g7⟩
                · intro wf45 hf45
                  have hk_hf45 := bels_out hf45
                  obtain ⟨cs_g7, hcs_g7, hb_g7⟩ := bels_blk hf45 (by simp) hb_g7
                  have hz_hk_hf45 := hk_hf45.size
                  replace hr := hk_hf45.rd hr (by intro g hg; simp at hg; omega)
                  replace hrq := hk_hf45.rd hrq (by intro g hg; simp at hg; omega)
                  replace hC := hC.kp2 hk_hf45 (by intro x hx; simp at hx; omega)
                  replace hb_g4 := hk_hf45.bk hb_g4 (by intro hg; simp at hg; omega)
                  replace hb_g5 := hk_hf45.bk hb_g5 (by intro hg; simp at hg; omega)
                  replace hb167 := hb167.kp hk_hf45 (by intro hg; simp at hg; omega) (fun x e hg => by simp at hg; have := hDs x e; omega)
                  replace ho184 := hk_hf45.own ho184 (by intro g e hg; simp at hg; have := hq_ho184 g e; omega)
                  replace hrB184 := hk_hf45.rd hrB184 (by intro g hg; simp at hg; omega)
                  replace ho_9 := hk_hf45.own ho_9 (by intro g e hg; simp at hg; have := hq_ho_9 g e; omega)
                  rintro _ rfl
                  rintro _ rfl
                  rintro _ rfl
                  rintro _ rfl
                  rintro _ hb_g7
                  refine wa_tail (by kernel_rfl) ?_
                  show WL _ _ _ [_] _ _ _
                  refine wl_val (ov_assign rfl) rfl rfl rfl ?_
                  refine q_nil ?_
                  refine k_then ?_
                  refine q_ret ?_
                  refine e_retL (rs := [.tmp 6, .cell 7 29, .tmp 8]) (vs := [(.pointer (some ⟨g, 0, none⟩)), .agg #[(.int .i64 (↑m : Int)), (.slice A184 (l.drop (Int.toNat (↑l.length : Int))).length c184), (.int .u64 (↑p : Int))], (.bool true)]) rfl ⟨rfl, ⟨_, _, [(.int .i64 (↑m : Int)), (.slice A184 (l.drop (Int.toNat (↑l.length : Int))).length c184), (.int .u64 (↑p : Int))], rfl, ag29_3, hb_g7, rfl⟩, rfl, trivial⟩ ?_
                  have hdl : l.drop (Int.toNat (l.length : Int)) = [] := by simp
                  exact ⟨_, _, _, g, _, _, _, _, _, _, rfl, ⟨by rw [hdl]; exact hb167, (OwnB.rd ho184), Nat.le_refl _, by omega, by omega, fun x e => by have := hDs x e; omega, by simp; omega, by omega, fun x e => by have := hDs x e; omega⟩, by omega, hC, .inl rfl, Nx.refl _ _, .inr (by omega)⟩
            · refine wc_seq ?_
              refine wc_regionL ?_
              refine wl_val (ov_move rfl) rfl rfl rfl ?_
              refine wl_step (or_call0 cl29 rfl rfl (bcopy_ok _ lo g D m l p t hbuf)) rfl rfl rfl ?_
              rintro v w205 ⟨gc35, D35, rfl, hb35, he35, hg135, hD35⟩
              replace hbuf := hbuf.ext he35
              replace hr := hr.ext he35
              replace hrq := hrq.ext he35
              replace hC := hC.ext he35
              replace hb_g4 := hb_g4.ext he35
              replace hb_g5 := hb_g5.ext he35
              replace hb_g7 := hb_g7.ext he35
              replace ho31 := Own.ext ho31 he35
              have hz_he35 := he35.size
              have hDs35 : ∀ x, D35 = some x → w4.heap.size ≤ x ∧ x < w205.heap.size := fun x e => ⟨hD35 x e, (hb35.lt.2 x e).2⟩
              have hzb35 := hb35.lt.1
              refine wl_val (ov_assign rfl) rfl rfl rfl ?_
              refine q_nil ?_
              refine k_then ?_
              refine wc_seq ?_
              refine wc_seq ?_
              refine wc_regionL ?_
              refine wl_val (ov_move rfl) rfl rfl rfl ?_
              refine wl_val (ov_nilptr Try.underlying22 rfl) rfl rfl rfl ?_
              refine q_nil ?_
              refine k_then ?_
              refine wc_cond_f rfl ?_
              refine q_skip ?_
              refine k_then ?_
              refine wc_seq ?_
              refine wc_regionL ?_
              refine wl_val (ov_move rfl) rfl rfl rfl ?_
              refine wl_step (or_call0 cl22 rfl rfl (btake_ok _ lo g D m l p t hbuf 1 (by omega) (by omega) (by omega) (by omega))) rfl rfl rfl ?_
              rintro v w206 ⟨A41, c41, rfl, ho41, hb41, hC41⟩
              have hDa41 : ∀ x, D = some x → (b0 ≤ x ∧ (x < lor ∨ hir ≤ x) ∧ x < w.heap.size) ∧ x < w205.heap.size := fun x e => ⟨hDs x e, (hbuf.lt.2 x e).2⟩
              have hz_hC41 := hC41.size
              replace hr := hC41.rd hr (by omega) (fun x e => by have := hDa41 x e; omega)
              replace hrq := hC41.rd hrq (by omega) (fun x e => by have := hDa41 x e; omega)
              replace hC := hC.tr hC41 (fun x e => by first | exact .inl e | (right; have := hDa41 x e; omega))
              replace hb_g4 := hC41.bk hb_g4 (by omega) (fun e2 => by have := hDa41 _ e2; omega)
              replace hb_g5 := hC41.bk hb_g5 (by omega) (fun e2 => by have := hDa41 _ e2; omega)
              replace hb_g7 := hC41.bk hb_g7 (by omega) (fun e2 => by have := hDa41 _ e2; omega)
              replace ho31 := hC41.own ho31 (fun x e => ⟨by have := hq_ho31 x e; omega, fun e2 => by have h1 := hq_ho31 x e; have h2 := hDa41 x e2; omega⟩)
              replace hb35 := hb35.ch hC41 (by omega) (fun e2 => by have := hDa41 _ e2; omega) (fun e => by have := hDs35 _ e; omega) (fun x e e2 => by have h1 := hDs35 x e; have h2 := hDa41 x e2; omega)
              have hzb41 := hb41.lt.1
              have hcp41 := hb41.cap
              have hq_ho41 := fun g e => Own.lt ho41 (g := g) e
              refine q_nil ?_
              refine k_then ?_
              refine wc_seq ?_
              refine wc_regionL ?_
              refine wl_val (ov_move rfl) rfl rfl rfl ?_
              refine wl_step (or_buildBytes (l := [111, 108, 100]) bt26 (os := [.const (.int .u8 111), .const (.int .u8 108), .const (.int .u8 100)]) rfl rfl rfl (by decide)) rfl rfl rfl ?_
              rintro v w207 ⟨A43, c43, rfl, ho43, he43⟩
              replace hr := hr.ext he43
              replace hrq := hrq.ext he43
              replace hC := hC.ext he43
              replace hb_g4 := hb_g4.ext he43
              replace hb_g5 := hb_g5.ext he43
              replace hb_g7 := hb_g7.ext he43
              replace ho31 := Own.ext ho31 he43
              replace hb35 := hb35.ext he43
              replace hb41 := hb41.ext he43
              replace ho41 := Own.ext ho41 he43
              have hz_he43 := he43.size
              have hq_ho43 := fun g e => Own.lt ho43 (g := g) e
              refine wl_step (or_markBytes bt26 rfl ho43 (by simp)) rfl rfl rfl ?_
              rintro v w208 ⟨rfl, hr44, he44⟩
              have hz_he44 := he44.size
              replace hr := hr.gr he44 (fun g e => by have := hq_ho43 g e; omega)
              replace hrq := hrq.gr he44 (fun g e => by have := hq_ho43 g e; omega)
              replace hC := hC.gr2 he44 (fun x e => .inr (.inr (by have := hq_ho43 x e; omega)))
              replace hb_g4 := hb_g4.gr he44 (fun e => by have := hq_ho43 _ e; omega)
              replace hb_g5 := hb_g5.gr he44 (fun e => by have := hq_ho43 _ e; omega)
              replace hb_g7 := hb_g7.gr he44 (fun e => by have := hq_ho43 _ e; omega)
              replace ho31 := Own.gr ho31 he44 (own_apart fun g e g2 e2 => by have := hq_ho31 g e; have := hq_ho43 g2 e2; omega)
              replace hb35 := hb35.gr he44 (fun x e => by have := hq_ho43 x e; omega) (fun x e e2 => by have h1 := hq_ho43 x e; have h2 := hDs35 x e2; omega)
              replace hb41 := hb41.gr he44 (fun x e => by have := hq_ho43 x e; omega) (fun x e e2 => by have h1 := hq_ho43 x e; have h2 := hDs x e2; omega)
              replace ho41 := Own.gr ho41 he44 (own_apart fun g e g2 e2 => by have := hq_ho41 g e; have := hq_ho43 g2 e2; omega)
              refine wl_step (or_call0 cl18 rfl rfl (bput_ok _ lo g D m (l.drop (bpeek l 1).1.length) p (t + (bpeek l 1).1.length) hb41 _ _ _ _ [111, 108, 100] hr44 (by omega) (fun x e => by have := hDs x e; omega) (by omega) (by omega))) rfl rfl rfl ?_
              rintro v w209 ⟨rfl, ⟨D45, hb45, hN45⟩, hC45⟩
              have hDa45 : ∀ x, D = some x → (b0 ≤ x ∧ (x < lor ∨ hir ≤ x) ∧ x < w.heap.size) ∧ x < w208.heap.size := fun x e => ⟨hDs x e, (hb41.lt.2 x e).2⟩
              have hz_hC45 := hC45.size
              replace hr := hC45.rd hr (by omega) (fun x e => by have := hDa45 x e; omega)
              replace hrq := hC45.rd hrq (by omega) (fun x e => by have := hDa45 x e; omega)
              replace hC := hC.tr hC45 (fun x e => by first | exact .inl e | (right; have := hDa45 x e; omega))
              replace hb_g4 := hC45.bk hb_g4 (by omega) (fun e2 => by have := hDa45 _ e2; omega)
              replace hb_g5 := hC45.bk hb_g5 (by omega) (fun e2 => by have := hDa45 _ e2; omega)
              replace hb_g7 := hC45.bk hb_g7 (by omega) (fun e2 => by have := hDa45 _ e2; omega)
              replace ho31 := hC45.own ho31 (fun x e => ⟨by have := hq_ho31 x e; omega, fun e2 => by have h1 := hq_ho31 x e; have h2 := hDa45 x e2; omega⟩)
              replace hb35 := hb35.ch hC45 (by omega) (fun e2 => by have := hDa45 _ e2; omega) (fun e => by have := hDs35 _ e; omega) (fun x e e2 => by have h1 := hDs35 x e; have h2 := hDa45 x e2; omega)
              replace ho41 := hC45.own ho41 (fun x e => ⟨by have := hq_ho41 x e; omega, fun e2 => by have h1 := hq_ho41 x e; have h2 := hDa45 x e2; omega⟩)
              replace hr44 := hC45.rd hr44 (by omega) (fun x e => by have := hDa45 x e; omega)
              have hDs45 : ∀ x, D45 = some x → ((b0 ≤ x ∧ (x < lor ∨ hir ≤ x) ∧ x < w.heap.size) ∨ w208.heap.size ≤ x) ∧ x < w209.heap.size := fun x e => ⟨(hN45 x e).imp (fun h => hDs x h) id, (hb45.lt.2 x e).2⟩
              have hzb45 := hb45.lt.1
              have hcp45 := hb45.cap
              refine q_nil ?_
              refine k_then ?_
              refine wc_seq ?_
              refine wc_draw mixed 3 [(46, eqv (.pointer (some ⟨gc35, 0, none⟩))), (47, eqv (.agg #[(.int .i64 (↑m : Int)), (.slice A l.length c), (.int .u64 (↑p : Int))])), (6, eqv (.pointer (some ⟨gc35, 0, none⟩)))] [[], [], [0]] [(0, (.pointer (some ⟨g, 0, none⟩))), (4, (.pointer (some ⟨g4, 0, none⟩))), (7, (.pointer (some ⟨g7, 0, none⟩))), (8, (.bool false)), (9, (.slice A31 q.length c31)), (10, (.bool false)), (27, (.pointer (some ⟨gc35, 0, none⟩)))] [] [] (Env.sub_get ⟨rfl, rfl, rfl, rfl, rfl, rfl, rfl, trivial⟩) trivial (by kernel_rfl) rfl ⟨stb_eqv _, stb_eqv _, stb_eqv _, trivial⟩ ⟨?_, ?_, ?_, trivial⟩ ?_
              · intro wd hxE
                replace hr := hr.ext hxE
                replace hrq := hrq.ext hxE
                replace hC := hC.ext hxE
                replace hb_g4 := hb_g4.ext hxE
                replace hb_g5 := hb_g5.ext hxE
                replace hb_g7 := hb_g7.ext hxE
                replace ho31 := Own.ext ho31 hxE
                replace hb35 := hb35.ext hxE
                replace ho41 := Own.ext ho41 hxE
                replace hr44 := hr44.ext hxE
                replace hb45 := hb45.ext hxE
                have hz_hxE := hxE.size
                show OpG _ _ _ _ _ _
                exact og_plain rfl (ox_val (ov_move rfl))
              · intro wd hxE
                replace hr := hr.ext hxE
                replace hrq := hrq.ext hxE
                replace hC := hC.ext hxE
                replace hb_g4 := hb_g4.ext hxE
                replace hb_g5 := hb_g5.ext hxE
                replace hb_g7 := hb_g7.ext hxE
                replace ho31 := Own.ext ho31 hxE
                replace hb35 := hb35.ext hxE
                replace ho41 := Own.ext ho41 hxE
                replace hr44 := hr44.ext hxE
                replace hb45 := hb45.ext hxE
                have hz_hxE := hxE.size
                show OpG _ _ _ _ _ _
                exact og_plain rfl (ox_val (ov_loadBlk (cs := [(.int .i64 (↑m : Int)), (.slice A l.length c), (.int .u64 (↑p : Int))]) ag29_3 rfl hb_g4))
              · intro wd hxE
                replace hr := hr.ext hxE
                replace hrq := hrq.ext hxE
                replace hC := hC.ext hxE
                replace hb_g4 := hb_g4.ext hxE
                replace hb_g5 := hb_g5.ext hxE
                replace hb_g7 := hb_g7.ext hxE
                replace ho31 := Own.ext ho31 hxE
                replace hb35 := hb35.ext hxE
                replace ho41 := Own.ext ho41 hxE
                replace hr44 := hr44.ext hxE
                replace hb45 := hb45.ext hxE
                have hz_hxE := hxE.size
                rintro _ rfl
                show OpG _ _ _ _ _ _
                exact og_plain rfl (ox_val (ov_assign rfl))
              · intro wf9 hf9
                replace hr := hr.ext hf9
                replace hrq := hrq.ext hf9
                replace hC := hC.ext hf9
                replace hb_g4 := hb_g4.ext hf9
                replace hb_g5 := hb_g5.ext hf9
                replace hb_g7 := hb_g7.ext hf9
                replace ho31 := Own.ext ho31 hf9
                replace hb35 := hb35.ext hf9
                replace ho41 := Own.ext ho41 hf9
                replace hr44 := hr44.ext hf9
                replace hb45 := hb45.ext hf9
                have hz_hf9 := hf9.size
                rintro _ rfl
                rintro _ rfl
                rintro _ rfl
                show WL _ _ _ [_, _] _ _ _
                refine wl_step0 (or_storeBlk (vs := [(.int .i64 (↑m : Int)), (.slice A l.length c), (.int .u64 (↑p : Int))]) sz29 rfl rfl (by simp [Value.oneCell']) hb_g7 rfl) rfl rfl ?_
                rintro _ w210 ⟨hN210, hg210⟩
                have hz_hg210 := hg210.size
                replace hr := hr.gr hg210 (fun _ e => by cases e; omega)
                replace hrq := hrq.gr hg210 (fun _ e => by cases e; omega)
                replace hC := hC.gr2 hg210 (fun x e => by cases e; first | exact .inl rfl | (right; right; omega))
                replace hb_g4 := hb_g4.gr hg210 (by intro e; cases e; omega)
                replace hb_g5 := hb_g5.gr hg210 (by intro e; cases e; omega)
                replace ho31 := Own.gr ho31 hg210 (by first | exact .inl rfl | (right; intro e; first | (have := hq_ho31 _ e; omega) | (have := Own.lt ho31 e; omega) | exact own_blk_ne ho31 hb_g7 (by decide) e))
                replace hb35 := hb35.gr hg210 (fun x e => by cases e; omega) (fun x e e2 => by cases e; have := hDs35 _ e2; omega)
                replace ho41 := Own.gr ho41 hg210 (by first | exact .inl rfl | (right; intro e; first | (have := hq_ho41 _ e; omega) | (have := Own.lt ho41 e; omega) | exact own_blk_ne ho41 hb_g7 (by decide) e))
                replace hr44 := hr44.gr hg210 (fun _ e => by cases e; omega)
                replace hb45 := hb45.gr hg210 (fun x e => by cases e; omega) (fun x e e2 => by cases e; have := hDs45 _ e2; omega)
                replace hb_g7 := hN210
                refine wl_val (ov_assign rfl) rfl rfl rfl ?_
                refine q_nil ?_
                refine k_then ?_
                refine q_ret ?_
                refine k_blockR ?_
                refine k_thenR ?_
                refine e_retL (rs := [.tmp 6, .cell 7 29, .tmp 8]) (vs := [(.pointer (some ⟨gc35, 0, none⟩)), .agg #[(.int .i64 (↑m : Int)), (.slice A l.length c), (.int .u64 (↑p : Int))], (.bool true)]) rfl ⟨rfl, ⟨_, _, [(.int .i64 (↑m : Int)), (.slice A l.length c), (.int .u64 (↑p : Int))], rfl, ag29_3, hb_g7, rfl⟩, rfl, trivial⟩ ?_
                exact ⟨_, _, _, gc35, _, _, _, _, _, _, rfl, ⟨hb35, hr, by omega, by omega, by omega, fun x e => by have := hDs35 x e; omega, hpt, by omega, fun x e => by have := hDs35 x e; omega⟩, by omega, hC, .inr (by omega), (fun x e => .inr (by have := hDs35 x e; omega)), .inl ⟨rfl, rfl⟩⟩

end Go.Proofs.Ytopfjpkjpmdhaaa
