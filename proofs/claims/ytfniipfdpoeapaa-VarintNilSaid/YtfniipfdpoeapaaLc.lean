/-
  The walks of VarintReads and VarintNil.
-/
import Derived.Test.YtfniipfdpoeapaaLa
import Derived.Test.YtfniipfdpoeapaaItems
namespace Go.Proofs.Ytfniipfdpoeapaa
open Go.RowKit
set_option linter.unusedVariables false
theorem ag65_2 : aggTy Try.prog 65 2 = true := by kernel_rfl
theorem cl23 : callable Try.prog 23 = true := by kernel_rfl
theorem cl31 : callable Try.prog 31 = true := by kernel_rfl
theorem fo65_0 : fieldOff Try.prog 65 0 = some 0 := by kernel_rfl
theorem fo65_1 : fieldOff Try.prog 65 1 = some 1 := by kernel_rfl
theorem oc62 : oneCellTy Try.prog 62 = true := by kernel_rfl
theorem sl61 : SliceTy Try.prog 61 65 2 16 (.agg #[(.int .i64 0), (.int .i64 0)]) := sliceTy_mk Try.underlying61 (by kernel_rfl) rfl (by decide)
theorem sl73 : SliceTy Try.prog 73 62 1 8 (.pointer none) := sliceTy_mk Try.underlying73 (by kernel_rfl) rfl (by decide)
theorem sz5 : (Try.prog.info? 5).map (·.size) = some 1 := by kernel_rfl
theorem sz65 : (Try.prog.info? 65).map (·.size) = some 2 := by kernel_rfl
theorem ze65 : zeroOf Try.prog 65 = some (.agg #[(.int .i64 0), (.int .i64 0)]) := by kernel_rfl

/-- A call of a reader, its cells. -/
def actc (x : Int × Int) : List Value := [.int .i64 x.1, .int .i64 x.2]

theorem varintReads_walk (w : World) (lo hi lox hix : Nat) (A : Option Addr) (c : Nat) (l : List UInt8) (C : Option Addr) (cx : Nat) (xs : List (Int × Int)) (hr : RdB w lo hi A c l) (hrx : RdR w lox hix 2 actc C cx xs) (hmo : ∀ x ∈ xs, x.2 ≤ 9223372036854775807) :
    Fn Try.prog 11 #[(.slice A l.length c), (.slice C xs.length cx)] w (fun v w' => v = .bool true ∧ Ext w w') := by
  replace hr := hr.top
  replace hrx := hrx.top
  have hE := ext_refl w
  refine fn_enter (args := [(.slice A l.length c), (.slice C xs.length cx)]) Try.func11 rfl rfl rfl ?_
  show WC _ _ _ _ [(0, (.slice A l.length c)), (1, (.slice C xs.length cx))] _
  refine wc_seq ?_
  refine wc_regionL ?_
  refine wl_val (ov_assign rfl) rfl rfl rfl ?_
  refine q_nil ?_
  refine k_then ?_
  refine wc_seq ?_
  refine wc_seq ?_
  refine wc_regionL ?_
  refine wl_val (ov_move rfl) rfl rfl rfl ?_
  refine wl_val (ov_len Try.underlying22 rfl) rfl rfl rfl ?_
  refine wl_val (ov_gtr rfl rfl) rfl rfl rfl ?_
  refine wl_case_d (d := 22) rfl (fun h300 => ?_) (fun h300 => ?_)
  · refine wl_val (ov_move rfl) rfl rfl rfl ?_
    refine wl_gskip rfl rfl rfl rfl rfl rfl ?_
    refine wl_gskip rfl rfl rfl rfl rfl rfl ?_
    refine wl_gskip rfl rfl rfl rfl rfl rfl ?_
    refine wl_val (ov_pick_t rfl rfl) rfl rfl rfl ?_
    refine q_nil ?_
    refine k_then ?_
    refine wc_cond_t rfl ?_
    refine wc_seq ?_
    refine wc_regionL ?_
    refine wl_step (or_call0 cl23 rfl rfl (known04_any _)) rfl rfl rfl ?_
    rintro v w1 ⟨rfl, he28⟩
    replace hr := hr.ext he28
    replace hrx := hrx.ext he28
    replace hE := hE.tr he28
    have hz_he28 := he28.size
    refine wl_val (ov_assign rfl) rfl rfl rfl ?_
    refine q_nil ?_
    refine k_then ?_
    refine q_ret ?_
    refine k_thenR ?_
    refine e_ret rfl rfl ?_
    exact ⟨rfl, hE⟩
  · refine wl_val (ov_move rfl) rfl rfl rfl ?_
    refine wl_gval (ov_move rfl) rfl rfl rfl rfl rfl ?_
    refine wl_gval (ov_len Try.underlying61 rfl) rfl rfl rfl rfl rfl ?_
    refine wl_gval (ov_gtr rfl rfl) rfl rfl rfl rfl rfl ?_
    refine wl_val (ov_pick_f rfl rfl) rfl rfl rfl ?_
    refine q_nil ?_
    refine k_then ?_
    refine wc_cond_d rfl (fun hc1 => ?_) (fun hc1 => ?_)
    · refine wc_seq ?_
      refine wc_regionL ?_
      refine wl_step (or_call0 cl23 rfl rfl (known04_any _)) rfl rfl rfl ?_
      rintro v w201 ⟨rfl, he28⟩
      replace hr := hr.ext he28
      replace hrx := hrx.ext he28
      replace hE := hE.tr he28
      have hz_he28 := he28.size
      refine wl_val (ov_assign rfl) rfl rfl rfl ?_
      refine q_nil ?_
      refine k_then ?_
      refine q_ret ?_
      refine k_thenR ?_
      refine e_ret rfl rfl ?_
      exact ⟨rfl, hE⟩
    · refine q_skip ?_
      refine k_then ?_
      refine wc_seq ?_
      refine wc_regionL ?_
      refine wl_val (ov_move rfl) rfl rfl rfl ?_
      refine wl_step (or_bappend0 bt22 rfl rfl hr (by omega)) rfl rfl rfl ?_
      rintro v w201 ⟨A30, c30, rfl, ho30, he30⟩
      replace hr := hr.ext he30
      replace hrx := hrx.ext he30
      replace hE := hE.tr he30
      have hz_he30 := he30.size
      have hq_ho30 := fun g e => Own.lt ho30 (g := g) e
      refine wl_val (ov_assign rfl) rfl rfl rfl ?_
      refine q_nil ?_
      refine k_then ?_
      refine wc_seq ?_
      refine wc_regionL ?_
      refine wl_val (ov_move rfl) rfl rfl rfl ?_
      refine wl_step (or_call0 cl34 rfl rfl (rnew_any _ _ _ _ _ l (OwnB.rd ho30) (by omega))) rfl rfl rfl ?_
      rintro v w202 ⟨g, A1, c1, h2, rfl, hb_g, hr1, hle, he32, hg1, hg2⟩
      replace hr := hr.ext he32
      replace hrx := hrx.ext he32
      replace hE := hE.tr he32
      replace ho30 := Own.ext ho30 he32
      have hz_he32 := he32.size
      have hzg := hb_g.lt
      refine wl_val (ov_assign rfl) rfl rfl rfl ?_
      refine q_nil ?_
      refine k_then ?_
      refine wc_seq ?_
      refine wc_seq ?_
      refine wc_regionL ?_
      refine wl_val (ov_move rfl) rfl rfl rfl ?_
      refine wl_val (ov_nilptr Try.underlying62 rfl) rfl rfl rfl ?_
      refine q_nil ?_
      refine k_then ?_
      refine wc_cond_f rfl ?_
      refine q_skip ?_
      refine k_then ?_
      refine wc_seq ?_
      refine wc_seq ?_
      refine wc_regionL ?_
      refine wl_val (ov_move rfl) rfl rfl rfl ?_
      refine wl_val (ov_len Try.underlying22 rfl) rfl rfl rfl ?_
      refine wl_val (ov_move rfl) rfl rfl rfl ?_
      refine q_nil ?_
      refine k_then ?_
      have hcap_5 := RdB.cap (OwnB.rd ho30)
      refine wc_block ?_
      refine wc_loop (σ := Nat × List UInt8) (fun s => l.length - s.1) (fun s => [(5, .slice A30 l.length c30), (37, .int .i64 (s.1 : Int)), (0, (.slice A l.length c)), (1, (.slice C xs.length cx)), (4, (.bool false)), (6, (.pointer (some ⟨g, 0, none⟩))), (36, (.int .i64 (↑l.length : Int)))]) (fun s w' => OwnB w' w.heap.size 5 A30 c30 s.2 ∧ Gr w202 w' (blk A30) ∧ s.2.length = l.length ∧ s.1 ≤ l.length) (0, l) (⟨ho30, (ext_refl _).row _, rfl, Nat.zero_le _⟩) (⟨rfl, rfl, rfl, rfl, rfl, rfl, rfl, trivial⟩) ?_
      rintro ⟨k_5, l_5⟩ w203 ⟨ho_5, hG_5, hL_5, hk_5⟩
      simp only at hL_5 hk_5
      replace ho_5 : OwnB _ _ _ _ _ l_5 := ho_5
      show WC _ _ _ _ [(5, (.slice A30 l.length c30)), (37, (.int .i64 (↑k_5 : Int))), (0, (.slice A l.length c)), (1, (.slice C xs.length cx)), (4, (.bool false)), (6, (.pointer (some ⟨g, 0, none⟩))), (36, (.int .i64 (↑l.length : Int)))] _
      refine wc_seq ?_
      refine wc_regionL ?_
      refine wl_val (ov_lss rfl rfl) rfl rfl rfl ?_
      refine q_nil ?_
      refine k_then ?_
      refine wc_seq ?_
      refine wc_cond_d rfl (fun hc3 => ?_) (fun hc3 => ?_)
      · obtain ⟨g_5, hA_5, hg1_5, hgu_5⟩ := Own.addr ho_5 (by omega)
        subst hA_5
        refine q_skip ?_
        refine k_then ?_
        refine wc_seq ?_
        refine wc_block ?_
        refine wc_seq ?_
        refine wc_regionL ?_
        refine wl_val (ov_move rfl) rfl rfl rfl ?_
        refine wl_val (ov_assign rfl) rfl rfl rfl ?_
        refine q_nil ?_
        refine k_then ?_
        refine wc_regionL ?_
        refine wl_val (ov_move rfl) rfl rfl rfl ?_
        refine wl_val (ov_move rfl) rfl rfl rfl ?_
        refine wl_val (ov_oindex bt22.s rfl rfl rfl (by omega)) rfl rfl rfl ?_
        refine wl_val (ov_load oc5 rfl (OwnB.cellAt ho_5 (by omega))) rfl rfl rfl ?_
        refine wl_val (ov_add rfl rfl (wu8_succ _)) rfl rfl rfl ?_
        refine wl_val (ov_oindex bt22.s rfl rfl rfl (by omega)) rfl rfl rfl ?_
        refine wl_step0 (or_storeOwn sz5 rfl rfl ho_5 (by omega)) rfl rfl ?_
        rintro _ w204 ⟨ho2_5, hg2_5⟩
        have hz2_5 := hg2_5.size
        refine q_nil ?_
        refine k_block ?_
        refine k_then ?_
        refine wc_regionL ?_
        refine wl_val (ov_add rfl rfl (wi64 (by omega) (by omega))) rfl rfl rfl ?_
        refine wl_val (ov_move rfl) rfl rfl rfl ?_
        refine q_nil ?_
        refine k_loop ((k_5 + 1, l_5.set k_5 ((l_5.getD k_5 0) + 1))) (by show l.length - (k_5 + 1) < l.length - k_5; omega) (⟨rfl, rfl, rfl, rfl, rfl, rfl, rfl, trivial⟩) (⟨ho2_5, hG_5.gr hg2_5 (fun g e => .inl e), by show (List.set _ _ _).length = _; rw [List.length_set]; exact hL_5, by show k_5 + 1 ≤ _; omega⟩)
      · refine wc_spell (d := 5) rfl (v' := .slice A30 l_5.length c30) (by rw [hL_5]) ?_
        have hz_hG_5 := hG_5.size
        replace hr := hr.gr hG_5 (fun g e => by have := hq_ho30 g e; omega)
        replace hrx := hrx.gr hG_5 (fun g e => by have := hq_ho30 g e; omega)
        replace hE := hE.gr hG_5 (fun g e => by have := hq_ho30 g e; omega)
        replace hb_g := hb_g.gr hG_5 (fun e => by have := hq_ho30 _ e; omega)
        replace hr1 := hr1.gr hG_5 (fun g e => by have := hq_ho30 g e; omega)
        have hq_ho_5 := fun g e => Own.lt ho_5 (g := g) e
        refine q_exit ?_
        refine k_thenX ?_
        refine k_thenX ?_
        refine k_blockE ?_
        refine k_then ?_
        refine wc_seq ?_
        refine wc_regionL ?_
        refine wl_val (ov_move rfl) rfl rfl rfl ?_
        refine wl_val (ov_assign rfl) rfl rfl rfl ?_
        refine q_nil ?_
        refine k_then ?_
        refine wc_seq ?_
        refine wc_seq ?_
        refine wc_regionL ?_
        refine wl_val (ov_move rfl) rfl rfl rfl ?_
        refine wl_val (ov_len Try.underlying61 rfl) rfl rfl rfl ?_
        refine wl_val (ov_move rfl) rfl rfl rfl ?_
        refine q_nil ?_
        refine k_then ?_
        refine wc_block ?_
        have hw30 := hz_he30
        refine wc_loop (σ := Nat × List UInt8 × Option Addr × Nat) (fun s => xs.length - s.1) (fun s => [(6, .pointer (some ⟨g, 0, none⟩)), (8, .slice s.2.2.1 s.2.1.length s.2.2.2), (48, .slice C xs.length cx), (49, .int .i64 (xs.length : Int)), (50, .int .i64 (s.1 : Int))]) (fun s w' => s.1 ≤ xs.length ∧ s.2.1.length ≤ 300 ∧ RdB w' lo w.heap.size s.2.2.1 s.2.2.2 s.2.1 ∧ (∃ A2 c2, Blk w' g 72 [.bool true, .slice A2 s.2.1.length c2] ∧ RdB w' w201.heap.size h2 A2 c2 s.2.1) ∧ RdR w' lox w.heap.size 2 actc C cx xs ∧ Ext w w') ((0, l, A, c)) (⟨Nat.zero_le _, by show l.length ≤ 300; omega, hr, ⟨_, _, hb_g, hr1⟩, hrx, hE⟩) (⟨rfl, rfl, rfl, rfl, rfl, trivial⟩) ?_
        rintro ⟨k, l2, A2, c2⟩ w1 ⟨hk0, hl2, hr2, ⟨A9, c9, hb_g, hr1⟩, hrx, hE⟩
        show WC _ _ _ _ [(6, (.pointer (some ⟨g, 0, none⟩))), (8, (.slice A2 l2.length c2)), (48, (.slice C xs.length cx)), (49, (.int .i64 (↑xs.length : Int))), (50, (.int .i64 (↑k : Int)))] _
        simp only at hk0 hl2
        replace hr2 : RdB w1 lo w.heap.size A2 c2 l2 := hr2
        replace hr1 : RdB w1 w201.heap.size h2 A9 c9 l2 := hr1
        replace hb_g : Blk w1 g 72 [.bool true, .slice A9 l2.length c9] := hb_g
        have hz_E := hE.size
        have hzg := hb_g.lt
        have hvs := vget_size l2
        have hvn := vget_lt l2
        refine wc_seq ?_
        refine wc_regionL ?_
        refine wl_val (ov_lss rfl rfl) rfl rfl rfl ?_
        refine q_nil ?_
        refine k_then ?_
        refine wc_seq ?_
        refine wc_cond_d rfl (fun hc4 => ?_) (fun hc4 => ?_)
        · obtain ⟨⟨what, most⟩, hk⟩ : ∃ a, xs[k]? = some a := ⟨_, List.getElem?_eq_getElem (by omega)⟩
          have hm : most ≤ 9223372036854775807 := hmo _ (List.mem_of_getElem? hk)
          have hvp := vpart_props l2 most
          refine q_skip ?_
          refine k_then ?_
          refine wc_seq ?_
          refine wc_block ?_
          refine wc_seq ?_
          refine wc_regionL ?_
          refine wl_step (or_rindex (m := (k)) sl61 rfl rfl hrx (fun _ _ => rfl) hk) rfl rfl rfl ?_
          rintro v _ ⟨rfl, p52, rfl, hp52, hpl52, hph52⟩
          refine wl_val (ov_loadAgg (cs := [(.int .i64 what), (.int .i64 most)]) ag65_2 rfl rfl hp52) rfl rfl rfl ?_
          refine wl_step (or_alloc (cs := [(.int .i64 0), (.int .i64 0)]) ze65 rfl) rfl rfl rfl ?_
          rintro v w204 ⟨g10, rfl, hb_g10, he10, hl10, hu10⟩
          replace hr2 := hr2.ext he10
          replace hrx := hrx.ext he10
          replace hb_g := hb_g.ext he10
          replace hr1 := hr1.ext he10
          replace hE := hE.tr he10
          have hz_he10 := he10.size
          refine wl_step0 (or_storeBlk (vs := [(.int .i64 what), (.int .i64 most)]) sz65 rfl rfl (by simp [Value.oneCell']) hb_g10 rfl) rfl rfl ?_
          rintro _ w205 ⟨hN205, hg205⟩
          have hz_hg205 := hg205.size
          replace hr2 := hr2.gr hg205 (fun _ e => by cases e; omega)
          replace hrx := hrx.gr hg205 (fun _ e => by cases e; omega)
          replace hb_g := hb_g.gr hg205 (by intro e; cases e; omega)
          replace hr1 := hr1.gr hg205 (fun _ e => by cases e; omega)
          replace hE := hE.gr hg205 (fun _ e => by cases e; omega)
          replace hb_g10 := hN205
          refine q_nil ?_
          refine k_then ?_
          refine wc_seq ?_
          refine wc_regionL ?_
          refine wl_val (ov_assign rfl) rfl rfl rfl ?_
          refine q_nil ?_
          refine k_then ?_
          refine wc_seq ?_
          refine wc_seq ?_
          refine wc_regionL ?_
          refine wl_val (ov_field0 (off := 0) fo65_0 rfl) rfl rfl rfl ?_
          refine wl_val (ov_loadAt oc3 rfl hb_g10 rfl) rfl rfl rfl ?_
          refine q_nil ?_
          refine k_then ?_
          refine wc_block ?_
          refine wc_seq ?_
          refine wc_regionL ?_
          refine wl_val (ov_eql rfl rfl) rfl rfl rfl ?_
          refine wl_val (ov_assign rfl) rfl rfl rfl ?_
          refine q_nil ?_
          refine k_then ?_
          refine wc_cond_d rfl (fun hc5 => ?_) (fun hc5 => ?_)
          · refine wc_seq ?_
            refine wc_regionL ?_
            refine wl_val (ov_move rfl) rfl rfl rfl ?_
            refine wl_val (or_call0 cl29 rfl rfl (rget_any _ _ _ _ _ l2 hr2)) rfl rfl rfl ?_
            refine wl_val (ov_move rfl) rfl rfl rfl ?_
            refine wl_val (ov_extract rfl rfl) rfl rfl rfl ?_
            refine wl_val (ov_extract rfl rfl) rfl rfl rfl ?_
            refine wl_val (ov_extract rfl rfl) rfl rfl rfl ?_
            refine wl_val (ov_assign rfl) rfl rfl rfl ?_
            refine wl_val (ov_assign rfl) rfl rfl rfl ?_
            refine wl_val (ov_assign rfl) rfl rfl rfl ?_
            refine q_nil ?_
            refine k_then ?_
            refine wc_seq ?_
            refine wc_seq ?_
            refine wc_regionL ?_
            refine wl_val (ov_move rfl) rfl rfl rfl ?_
            refine wl_val (ov_move rfl) rfl rfl rfl ?_
            refine wl_val (ov_move rfl) rfl rfl rfl ?_
            refine wl_step (or_call0 cl35 rfl rfl (lnum_ok _ g _ _ _ _ l2 hb_g hr1 (.inr hle) (by omega) _ _ rfl rfl)) rfl rfl rfl ?_
            rintro v w206 ⟨rfl, hg84, A3, c3, hb3, hr3⟩
            have hz_hg84 := hg84.size
            replace hr2 := hr2.gr hg84 (fun _ e => by cases e; omega)
            replace hrx := hrx.gr hg84 (fun _ e => by cases e; omega)
            replace hE := hE.gr hg84 (fun _ e => by cases e; omega)
            replace hb_g10 := hb_g10.gr hg84 (by intro e; cases e; omega)
            replace hb_g := hb3
            replace hr1 := hr3
            refine wl_val (ov_not rfl) rfl rfl rfl ?_
            refine q_nil ?_
            refine k_then ?_
            refine wc_cond_f rfl ?_
            refine q_skip ?_
            refine k_then ?_
            refine wc_regionL ?_
            refine wl_val (ov_move rfl) rfl rfl rfl ?_
            refine wl_val (ov_assign rfl) rfl rfl rfl ?_
            refine q_nil ?_
            refine k_block ?_
            refine k_then ?_
            refine wc_seq ?_
            refine wc_regionL ?_
            refine wl_val (ov_move rfl) rfl rfl rfl ?_
            refine wl_val (ov_move rfl) rfl rfl rfl ?_
            have hcap102 := RdB.cap hr2
            refine wl_step (or_bslice bt22 rfl hr2 (bounds_l rfl (by omega) (by omega)) (by omega) (by omega) (by omega) (by omega)) rfl rfl rfl ?_
            rintro v _ ⟨rfl, A102, c102, rfl, hr102, hl102⟩
            have hs102 : (l2.drop (Int.toNat (↑(vget l2).2.1 : Int))).take (l2.length - (Int.toNat (↑(vget l2).2.1 : Int))) = (l2.drop (vget l2).2.1) := cut_l l2 (by omega)
            rw [hs102] at hr102 hl102; rw [hs102]; clear hs102
            refine wl_val (ov_assign rfl) rfl rfl rfl ?_
            refine q_nil ?_
            refine k_then ?_
            refine wc_seq ?_
            refine wc_regionL ?_
            refine wl_val (ov_move rfl) rfl rfl rfl ?_
            refine wl_val (or_call0 cl38 rfl rfl (left_ok _ g _ _ _ _ (l2.drop (vget l2).2.1) hb_g hr1 (.inr hle) (by simp; omega))) rfl rfl rfl ?_
            refine wl_val (ov_move rfl) rfl rfl rfl ?_
            refine wl_val (ov_len Try.underlying22 rfl) rfl rfl rfl ?_
            refine wl_val (ov_neq rfl rfl) rfl rfl rfl ?_
            refine wl_spell (d := 107) rfl (bf (fun h => h rfl)) ?_
            refine q_nil ?_
            refine k_then ?_
            refine wc_cond_f rfl ?_
            refine q_skip ?_
            refine k_block ?_
            refine k_then ?_
            refine wc_regionL ?_
            refine wl_val (ov_add rfl rfl (wi64 (by omega) (by omega))) rfl rfl rfl ?_
            refine wl_val (ov_move rfl) rfl rfl rfl ?_
            refine q_nil ?_
            refine k_loop ((k + 1, l2.drop (vget l2).2.1, A102, c102)) (by show xs.length - (k + 1) < xs.length - k; omega) (⟨rfl, rfl, rfl, rfl, rfl, trivial⟩) (⟨by show k + 1 ≤ _; omega, by show (List.drop _ _).length ≤ 300; simp; omega, hr102, ⟨_, _, hb_g, hr1⟩, hrx, hE⟩)
          · refine wc_seq ?_
            refine wc_regionL ?_
            refine wl_val (ov_eql rfl rfl) rfl rfl rfl ?_
            refine wl_val (ov_assign rfl) rfl rfl rfl ?_
            refine q_nil ?_
            refine k_then ?_
            refine wc_cond_d rfl (fun hc7 => ?_) (fun hc7 => ?_)
            · refine wc_seq ?_
              refine wc_regionL ?_
              refine wl_val (ov_assign rfl) rfl rfl rfl ?_
              refine wl_val (ov_assign rfl) rfl rfl rfl ?_
              refine q_nil ?_
              refine k_then ?_
              refine wc_seq ?_
              refine wc_seq ?_
              refine wc_regionL ?_
              refine wl_val (ov_move rfl) rfl rfl rfl ?_
              refine wl_val (ov_len Try.underlying22 rfl) rfl rfl rfl ?_
              refine wl_val (ov_gtr rfl rfl) rfl rfl rfl ?_
              refine q_nil ?_
              refine k_then ?_
              refine wc_cond_d rfl (fun hc8 => ?_) (fun hc8 => ?_)
              · refine wc_regionL ?_
                refine wl_val (ov_move rfl) rfl rfl rfl ?_
                refine wl_step (or_bindex bt22 rfl rfl hr2 (by omega) (by omega)) rfl rfl rfl ?_
                rintro v _ ⟨rfl, p93, rfl, hp93, hpl93, hph93⟩
                replace hp93 : World.cell? _ p93 = some (u8v (l2.getD 0 0)) := hp93
                refine wl_val (ov_load oc5 rfl hp93) rfl rfl rfl ?_
                refine wl_val (ov_assign rfl) rfl rfl rfl ?_
                refine wl_val (ov_assign rfl) rfl rfl rfl ?_
                refine wl_val (ov_assign rfl) rfl rfl rfl ?_
                refine q_nil ?_
                refine k_then ?_
                refine wc_seq ?_
                refine wc_regionL ?_
                refine wl_val (ov_move rfl) rfl rfl rfl ?_
                refine wl_val (ov_move rfl) rfl rfl rfl ?_
                refine wl_val (ov_move rfl) rfl rfl rfl ?_
                refine wl_step (or_call0 cl36 rfl rfl (lone_ok _ g _ _ _ _ l2 hb_g hr1 (.inr hle) (by omega) _ _ (by rw [vbyte_cons (by omega)]) (by rw [vbyte_cons (by omega)]; rfl))) rfl rfl rfl ?_
                rintro v w206 ⟨rfl, hg98, A3, c3, hb3, hr3⟩
                have hz_hg98 := hg98.size
                replace hr2 := hr2.gr hg98 (fun _ e => by cases e; omega)
                replace hrx := hrx.gr hg98 (fun _ e => by cases e; omega)
                replace hE := hE.gr hg98 (fun _ e => by cases e; omega)
                replace hb_g10 := hb_g10.gr hg98 (by intro e; cases e; omega)
                replace hb_g := hb3
                replace hr1 := hr3
                refine wl_val (ov_not rfl) rfl rfl rfl ?_
                refine q_nil ?_
                refine k_then ?_
                refine wc_cond_f rfl ?_
                refine q_skip ?_
                refine k_block ?_
                refine k_then ?_
                refine wc_seq ?_
                refine wc_regionL ?_
                refine wl_val (ov_move rfl) rfl rfl rfl ?_
                refine wl_val (ov_move rfl) rfl rfl rfl ?_
                rw [vbyte_cons (l := l2) (by omega)] at hb_g hr1
                replace hr1 : RdB _ _ _ _ _ (l2.drop 1) := hr1
                have hcap102 := RdB.cap hr2
                refine wl_step (or_bslice bt22 rfl hr2 (bounds_l rfl (by omega) (by omega)) (by omega) (by omega) (by omega) (by omega)) rfl rfl rfl ?_
                rintro v _ ⟨rfl, A102, c102, rfl, hr102, hl102⟩
                have hs102 : (l2.drop (Int.toNat 1)).take (l2.length - (Int.toNat 1)) = (l2.drop 1) := cut_l l2 (by omega)
                rw [hs102] at hr102 hl102; rw [hs102]; clear hs102
                refine wl_val (ov_assign rfl) rfl rfl rfl ?_
                refine q_nil ?_
                refine k_then ?_
                refine wc_seq ?_
                refine wc_regionL ?_
                refine wl_val (ov_move rfl) rfl rfl rfl ?_
                refine wl_val (or_call0 cl38 rfl rfl (left_ok _ g _ _ _ _ (l2.drop 1) hb_g hr1 (.inr hle) (by simp; omega))) rfl rfl rfl ?_
                refine wl_val (ov_move rfl) rfl rfl rfl ?_
                refine wl_val (ov_len Try.underlying22 rfl) rfl rfl rfl ?_
                refine wl_val (ov_neq rfl rfl) rfl rfl rfl ?_
                refine wl_spell (d := 107) rfl (bf (fun h => h rfl)) ?_
                refine q_nil ?_
                refine k_then ?_
                refine wc_cond_f rfl ?_
                refine q_skip ?_
                refine k_block ?_
                refine k_then ?_
                refine wc_regionL ?_
                refine wl_val (ov_add rfl rfl (wi64 (by omega) (by omega))) rfl rfl rfl ?_
                refine wl_val (ov_move rfl) rfl rfl rfl ?_
                refine q_nil ?_
                refine k_loop ((k + 1, l2.drop 1, A102, c102)) (by show xs.length - (k + 1) < xs.length - k; omega) (⟨rfl, rfl, rfl, rfl, rfl, trivial⟩) (⟨by show k + 1 ≤ _; omega, by show (List.drop _ _).length ≤ 300; simp; omega, hr102, ⟨_, _, hb_g, hr1⟩, hrx, hE⟩)
              · refine q_skip ?_
                refine k_then ?_
                refine wc_seq ?_
                refine wc_regionL ?_
                refine wl_val (ov_move rfl) rfl rfl rfl ?_
                refine wl_val (ov_move rfl) rfl rfl rfl ?_
                refine wl_val (ov_move rfl) rfl rfl rfl ?_
                refine wl_step (or_call0 cl36 rfl rfl (lone_ok _ g _ _ _ _ l2 hb_g hr1 (.inr hle) (by omega) _ _ (by rw [vbyte_nil (by omega)]; rfl) (by rw [vbyte_nil (by omega)]; rfl))) rfl rfl rfl ?_
                rintro v w206 ⟨rfl, hg98, A3, c3, hb3, hr3⟩
                have hz_hg98 := hg98.size
                replace hr2 := hr2.gr hg98 (fun _ e => by cases e; omega)
                replace hrx := hrx.gr hg98 (fun _ e => by cases e; omega)
                replace hE := hE.gr hg98 (fun _ e => by cases e; omega)
                replace hb_g10 := hb_g10.gr hg98 (by intro e; cases e; omega)
                replace hb_g := hb3
                replace hr1 := hr3
                refine wl_val (ov_not rfl) rfl rfl rfl ?_
                refine q_nil ?_
                refine k_then ?_
                refine wc_cond_f rfl ?_
                refine q_skip ?_
                refine k_block ?_
                refine k_then ?_
                refine wc_seq ?_
                refine wc_regionL ?_
                refine wl_val (ov_move rfl) rfl rfl rfl ?_
                refine wl_val (ov_move rfl) rfl rfl rfl ?_
                rw [vbyte_nil (l := l2) (by omega)] at hb_g hr1
                replace hr1 : RdB _ _ _ _ _ (l2.drop 0) := hr1
                have hcap102 := RdB.cap hr2
                refine wl_step (or_bslice bt22 rfl hr2 (bounds_l rfl (by omega) (by omega)) (by omega) (by omega) (by omega) (by omega)) rfl rfl rfl ?_
                rintro v _ ⟨rfl, A102, c102, rfl, hr102, hl102⟩
                have hs102 : (l2.drop (Int.toNat 0)).take (l2.length - (Int.toNat 0)) = (l2.drop 0) := cut_l l2 (by omega)
                rw [hs102] at hr102 hl102; rw [hs102]; clear hs102
                refine wl_val (ov_assign rfl) rfl rfl rfl ?_
                refine q_nil ?_
                refine k_then ?_
                refine wc_seq ?_
                refine wc_regionL ?_
                refine wl_val (ov_move rfl) rfl rfl rfl ?_
                refine wl_val (or_call0 cl38 rfl rfl (left_ok _ g _ _ _ _ (l2.drop 0) hb_g hr1 (.inr hle) (by simp; omega))) rfl rfl rfl ?_
                refine wl_val (ov_move rfl) rfl rfl rfl ?_
                refine wl_val (ov_len Try.underlying22 rfl) rfl rfl rfl ?_
                refine wl_val (ov_neq rfl rfl) rfl rfl rfl ?_
                refine wl_spell (d := 107) rfl (bf (fun h => h rfl)) ?_
                refine q_nil ?_
                refine k_then ?_
                refine wc_cond_f rfl ?_
                refine q_skip ?_
                refine k_block ?_
                refine k_then ?_
                refine wc_regionL ?_
                refine wl_val (ov_add rfl rfl (wi64 (by omega) (by omega))) rfl rfl rfl ?_
                refine wl_val (ov_move rfl) rfl rfl rfl ?_
                refine q_nil ?_
                refine k_loop ((k + 1, l2.drop 0, A102, c102)) (by show xs.length - (k + 1) < xs.length - k; omega) (⟨rfl, rfl, rfl, rfl, rfl, trivial⟩) (⟨by show k + 1 ≤ _; omega, by show (List.drop _ _).length ≤ 300; simp; omega, hr102, ⟨_, _, hb_g, hr1⟩, hrx, hE⟩)
            · refine wc_seq ?_
              refine wc_regionL ?_
              refine wl_val (ov_move rfl) rfl rfl rfl ?_
              refine wl_val (ov_field0 (off := 1) fo65_1 rfl) rfl rfl rfl ?_
              refine wl_val (ov_loadAt oc3 rfl hb_g10 rfl) rfl rfl rfl ?_
              refine wl_step (or_call0 cl31 rfl rfl (rgetbytes_any _ _ _ _ _ l2 most (by omega) hr2 (by omega))) rfl rfl rfl ?_
              rintro v w206 ⟨A60, c60, rfl, ho60, he60⟩
              replace hr2 := hr2.ext he60
              replace hrx := hrx.ext he60
              replace hb_g := hb_g.ext he60
              replace hr1 := hr1.ext he60
              replace hE := hE.tr he60
              replace hb_g10 := hb_g10.ext he60
              have hz_he60 := he60.size
              have hq_ho60 := fun g e => Own.lt ho60 (g := g) e
              refine wl_val (ov_move rfl) rfl rfl rfl ?_
              refine wl_val (ov_extract rfl rfl) rfl rfl rfl ?_
              refine wl_val (ov_extract rfl rfl) rfl rfl rfl ?_
              refine wl_val (ov_extract rfl rfl) rfl rfl rfl ?_
              refine wl_val (ov_assign rfl) rfl rfl rfl ?_
              refine wl_val (ov_assign rfl) rfl rfl rfl ?_
              refine wl_val (ov_assign rfl) rfl rfl rfl ?_
              refine q_nil ?_
              refine k_then ?_
              refine wc_seq ?_
              refine wc_seq ?_
              refine wc_regionL ?_
              refine wl_val (ov_move rfl) rfl rfl rfl ?_
              refine wl_val (ov_field0 (off := 1) fo65_1 rfl) rfl rfl rfl ?_
              refine wl_val (ov_loadAt oc3 rfl hb_g10 rfl) rfl rfl rfl ?_
              refine wl_val (ov_move rfl) rfl rfl rfl ?_
              refine wl_val (ov_bstr bt22 Try.underlying9 rfl (OwnB.rd ho60)) rfl rfl rfl ?_
              refine wl_val (ov_move rfl) rfl rfl rfl ?_
              refine wl_step (or_call0 cl37 rfl rfl (lbytes_ok _ g _ _ _ _ l2 hb_g hr1 (.inr hle) (by omega) most hm _ _ rfl rfl)) rfl rfl rfl ?_
              rintro v w207 ⟨rfl, hg70, A3, c3, hb3, hr3⟩
              have hz_hg70 := hg70.size
              replace hr2 := hr2.gr hg70 (fun _ e => by cases e; omega)
              replace hrx := hrx.gr hg70 (fun _ e => by cases e; omega)
              replace hE := hE.gr hg70 (fun _ e => by cases e; omega)
              replace hb_g10 := hb_g10.gr hg70 (by intro e; cases e; omega)
              replace ho60 := Own.gr ho60 hg70 (by first | exact .inl rfl | (right; intro e; have := Own.lt ho60 e; omega))
              replace hb_g := hb3
              replace hr1 := hr3
              refine wl_val (ov_not rfl) rfl rfl rfl ?_
              refine q_nil ?_
              refine k_then ?_
              refine wc_cond_f rfl ?_
              refine q_skip ?_
              refine k_then ?_
              refine wc_regionL ?_
              refine wl_val (ov_move rfl) rfl rfl rfl ?_
              refine wl_val (ov_assign rfl) rfl rfl rfl ?_
              refine q_nil ?_
              refine k_block ?_
              refine k_then ?_
              refine wc_seq ?_
              refine wc_regionL ?_
              refine wl_val (ov_move rfl) rfl rfl rfl ?_
              refine wl_val (ov_move rfl) rfl rfl rfl ?_
              have hcap102 := RdB.cap hr2
              refine wl_step (or_bslice bt22 rfl hr2 (bounds_l rfl (by omega) (by omega)) (by omega) (by omega) (by omega) (by omega)) rfl rfl rfl ?_
              rintro v _ ⟨rfl, A102, c102, rfl, hr102, hl102⟩
              have hs102 : (l2.drop (Int.toNat (↑(vpart l2 most).2.1 : Int))).take (l2.length - (Int.toNat (↑(vpart l2 most).2.1 : Int))) = (l2.drop (vpart l2 most).2.1) := cut_l l2 (by omega)
              rw [hs102] at hr102 hl102; rw [hs102]; clear hs102
              refine wl_val (ov_assign rfl) rfl rfl rfl ?_
              refine q_nil ?_
              refine k_then ?_
              refine wc_seq ?_
              refine wc_regionL ?_
              refine wl_val (ov_move rfl) rfl rfl rfl ?_
              refine wl_val (or_call0 cl38 rfl rfl (left_ok _ g _ _ _ _ (l2.drop (vpart l2 most).2.1) hb_g hr1 (.inr hle) (by simp; omega))) rfl rfl rfl ?_
              refine wl_val (ov_move rfl) rfl rfl rfl ?_
              refine wl_val (ov_len Try.underlying22 rfl) rfl rfl rfl ?_
              refine wl_val (ov_neq rfl rfl) rfl rfl rfl ?_
              refine wl_spell (d := 107) rfl (bf (fun h => h rfl)) ?_
              refine q_nil ?_
              refine k_then ?_
              refine wc_cond_f rfl ?_
              refine q_skip ?_
              refine k_block ?_
              refine k_then ?_
              refine wc_regionL ?_
              refine wl_val (ov_add rfl rfl (wi64 (by omega) (by omega))) rfl rfl rfl ?_
              refine wl_val (ov_move rfl) rfl rfl rfl ?_
              refine q_nil ?_
              refine k_loop ((k + 1, l2.drop (vpart l2 most).2.1, A102, c102)) (by show xs.length - (k + 1) < xs.length - k; omega) (⟨rfl, rfl, rfl, rfl, rfl, trivial⟩) (⟨by show k + 1 ≤ _; omega, by show (List.drop _ _).length ≤ 300; simp; omega, hr102, ⟨_, _, hb_g, hr1⟩, hrx, hE⟩)
        · refine q_exit ?_
          refine k_thenX ?_
          refine k_thenX ?_
          refine k_blockE ?_
          refine k_then ?_
          refine wc_seq ?_
          refine wc_regionL ?_
          refine wl_step (or_call0 cl23 rfl rfl (known04_any _)) rfl rfl rfl ?_
          rintro v w204 ⟨rfl, he109⟩
          replace hr2 := hr2.ext he109
          replace hrx := hrx.ext he109
          replace hb_g := hb_g.ext he109
          replace hr1 := hr1.ext he109
          replace hE := hE.tr he109
          have hz_he109 := he109.size
          refine wl_val (ov_assign rfl) rfl rfl rfl ?_
          refine q_nil ?_
          refine k_then ?_
          refine q_ret ?_
          refine e_ret rfl rfl ?_
          exact ⟨rfl, hE⟩

theorem varintNil_walk (w : World) (most : Int) (hm : most ≤ 9223372036854775807) :
    Fn Try.prog 12 #[(.int .i64 most)] w (fun v w' => v = .bool true ∧ Ext w w') := by
  have hE := ext_refl w
  refine fn_enter (args := [(.int .i64 most)]) Try.func12 rfl rfl rfl ?_
  show WC _ _ _ _ [(0, (.int .i64 most))] _
  refine wc_seq ?_
  refine wc_regionL ?_
  refine wl_val (ov_assign rfl) rfl rfl rfl ?_
  refine q_nil ?_
  refine k_then ?_
  refine wc_seq ?_
  refine wc_regionL ?_
  refine wl_val (ov_assign rfl) rfl rfl rfl ?_
  refine q_nil ?_
  refine k_then ?_
  refine wc_seq ?_
  refine wc_seq ?_
  refine wc_regionL ?_
  refine wl_val (ov_move rfl) rfl rfl rfl ?_
  refine wl_val (ov_build (cs := [(.bool false), (.slice none 0 0)]) ze72 pl72 rfl rfl) rfl rfl rfl ?_
  refine wl_step (or_box (cs := [(.bool false), (.slice none 0 0)]) rfl rfl) rfl rfl rfl ?_
  rintro v w1 ⟨g9, rfl, hb_g9, he9, hl9, hu9⟩
  replace hE := hE.tr he9
  have hz_he9 := he9.size
  refine wl_step (or_buildSlice1 (os := [.tmp 7, .tmp 9]) sl73 rfl rfl rfl (by simp [Value.oneCell']) (by decide)) rfl rfl rfl ?_
  rintro v w2 ⟨g10, rfl, hb_g10, he10, hl10, hu10, _⟩
  replace hE := hE.tr he10
  replace hb_g9 := hb_g9.ext he10
  have hz_he10 := he10.size
  refine wl_val (ov_len Try.underlying73 rfl) rfl rfl rfl ?_
  refine wl_val (ov_move rfl) rfl rfl rfl ?_
  refine q_nil ?_
  refine k_then ?_
  refine wc_block ?_
  refine wc_loop (σ := Nat) (fun s => 2 - s) (fun s => [(0, .int .i64 most), (10, .slice (some ⟨g10, 0, none⟩) 2 2), (11, .int .i64 2), (12, .int .i64 (s : Int))]) (fun s w' => s ≤ 2 ∧ Blk w' g10 62 [.pointer none, .pointer (some ⟨g9, 0, none⟩)] ∧ Blk w' g9 72 [.bool false, .slice none 0 0] ∧ Ext w w') (0) (⟨by decide, hb_g10, hb_g9, hE⟩) (⟨rfl, rfl, rfl, rfl, trivial⟩) ?_
  rintro k wq ⟨hk, hb_g10, hb_g9, hE⟩
  show WC _ _ _ _ [(0, (.int .i64 most)), (10, (.slice (some ⟨g10, 0, none⟩) 2 2)), (11, (.int .i64 2)), (12, (.int .i64 (↑k : Int)))] _
  have hz_Eq := hE.size
  refine wc_seq ?_
  refine wc_regionL ?_
  refine wl_val (ov_lss rfl rfl) rfl rfl rfl ?_
  refine q_nil ?_
  refine k_then ?_
  refine wc_seq ?_
  refine wc_cond_d rfl (fun hc1 => ?_) (fun hc1 => ?_)
  · rcases (show k = 0 ∨ k = 1 by omega) with rfl | rfl
    · refine q_skip ?_
      refine k_then ?_
      refine wc_seq ?_
      refine wc_block ?_
      refine wc_seq ?_
      refine wc_regionL ?_
      refine wl_step (or_rindex (m := ((0 : Nat))) sl73 rfl rfl (Blk.rdR hb_g10 (by simp [maxLen])) (fun _ _ => rfl) rfl) rfl rfl rfl ?_
      rintro v _ ⟨rfl, p14, rfl, hp14, hpl14, hph14⟩
      refine wl_val (ov_load oc62 rfl (cell_zero hp14 rfl)) rfl rfl rfl ?_
      refine wl_val (ov_assign rfl) rfl rfl rfl ?_
      refine q_nil ?_
      refine k_then ?_
      refine wc_seq ?_
      refine wc_regionL ?_
      refine wl_val (ov_move rfl) rfl rfl rfl ?_
      refine wl_val (or_call0 cl35 rfl rfl (lnum_nil _  0 1 rfl rfl)) rfl rfl rfl ?_
      refine wl_val (ov_not rfl) rfl rfl rfl ?_
      refine wl_val (ov_move rfl) rfl rfl rfl ?_
      refine wl_gval (ov_move rfl) rfl rfl rfl rfl rfl ?_
      refine wl_gval (or_call0 cl36 rfl rfl (lone_nil _  0 1 rfl rfl)) rfl rfl rfl rfl rfl ?_
      refine wl_gval (ov_not rfl) rfl rfl rfl rfl rfl ?_
      refine wl_val (ov_pick_f rfl rfl) rfl rfl rfl ?_
      refine wl_val (ov_move rfl) rfl rfl rfl ?_
      refine wl_gval (ov_move rfl) rfl rfl rfl rfl rfl ?_
      refine wl_gval (ov_move rfl) rfl rfl rfl rfl rfl ?_
      refine wl_gstep (or_call0 cl37 rfl rfl (lbytes_nil _  most hm [] 1 rfl rfl)) rfl rfl rfl rfl rfl ?_
      rintro v w3 ⟨rfl, he27⟩
      replace hb_g10 := hb_g10.ext he27
      replace hb_g9 := hb_g9.ext he27
      replace hE := hE.tr he27
      have hz_he27 := he27.size
      refine wl_gval (ov_not rfl) rfl rfl rfl rfl rfl ?_
      refine wl_val (ov_pick_f rfl rfl) rfl rfl rfl ?_
      refine wl_val (ov_move rfl) rfl rfl rfl ?_
      refine wl_gval (ov_move rfl) rfl rfl rfl rfl rfl ?_
      refine wl_gval (or_call0 cl38 rfl rfl (left_nil _ )) rfl rfl rfl rfl rfl ?_
      refine wl_gval (ov_neq rfl rfl) rfl rfl rfl rfl rfl ?_
      refine wl_spell (d := 33) rfl (bf (fun h => h rfl)) ?_
      refine wl_val (ov_pick_f rfl rfl) rfl rfl rfl ?_
      refine q_nil ?_
      refine k_then ?_
      refine wc_cond_f rfl ?_
      refine q_skip ?_
      refine k_block ?_
      refine k_then ?_
      refine wc_regionL ?_
      refine wl_val (ov_add rfl rfl (wi64 (by omega) (by omega))) rfl rfl rfl ?_
      refine wl_val (ov_move rfl) rfl rfl rfl ?_
      refine q_nil ?_
      refine k_loop (0 + 1) (by decide) (⟨rfl, rfl, rfl, rfl, trivial⟩) (⟨by decide, hb_g10, hb_g9, hE⟩)
    · refine q_skip ?_
      refine k_then ?_
      refine wc_seq ?_
      refine wc_block ?_
      refine wc_seq ?_
      refine wc_regionL ?_
      refine wl_step (or_rindex (m := ((1 : Nat))) sl73 rfl rfl (Blk.rdR hb_g10 (by simp [maxLen])) (fun _ _ => rfl) rfl) rfl rfl rfl ?_
      rintro v _ ⟨rfl, p14, rfl, hp14, hpl14, hph14⟩
      refine wl_val (ov_load oc62 rfl (cell_zero hp14 rfl)) rfl rfl rfl ?_
      refine wl_val (ov_assign rfl) rfl rfl rfl ?_
      refine q_nil ?_
      refine k_then ?_
      refine wc_seq ?_
      refine wc_regionL ?_
      refine wl_val (ov_move rfl) rfl rfl rfl ?_
      refine wl_val (or_call0 cl35 rfl rfl (lnum_zero _ g9 hb_g9 0 1 rfl rfl)) rfl rfl rfl ?_
      refine wl_val (ov_not rfl) rfl rfl rfl ?_
      refine wl_val (ov_move rfl) rfl rfl rfl ?_
      refine wl_gval (ov_move rfl) rfl rfl rfl rfl rfl ?_
      refine wl_gval (or_call0 cl36 rfl rfl (lone_zero _ g9 hb_g9 0 1 rfl rfl)) rfl rfl rfl rfl rfl ?_
      refine wl_gval (ov_not rfl) rfl rfl rfl rfl rfl ?_
      refine wl_val (ov_pick_f rfl rfl) rfl rfl rfl ?_
      refine wl_val (ov_move rfl) rfl rfl rfl ?_
      refine wl_gval (ov_move rfl) rfl rfl rfl rfl rfl ?_
      refine wl_gval (ov_move rfl) rfl rfl rfl rfl rfl ?_
      refine wl_gstep (or_call0 cl37 rfl rfl (lbytes_zero _ g9 hb_g9 most hm [] 1 rfl rfl)) rfl rfl rfl rfl rfl ?_
      rintro v w203 ⟨rfl, he27⟩
      replace hb_g10 := hb_g10.ext he27
      replace hb_g9 := hb_g9.ext he27
      replace hE := hE.tr he27
      have hz_he27 := he27.size
      refine wl_gval (ov_not rfl) rfl rfl rfl rfl rfl ?_
      refine wl_val (ov_pick_f rfl rfl) rfl rfl rfl ?_
      refine wl_val (ov_move rfl) rfl rfl rfl ?_
      refine wl_gval (ov_move rfl) rfl rfl rfl rfl rfl ?_
      refine wl_gval (or_call0 cl38 rfl rfl (left_zero _ g9 hb_g9)) rfl rfl rfl rfl rfl ?_
      refine wl_gval (ov_neq rfl rfl) rfl rfl rfl rfl rfl ?_
      refine wl_spell (d := 33) rfl (bf (fun h => h rfl)) ?_
      refine wl_val (ov_pick_f rfl rfl) rfl rfl rfl ?_
      refine q_nil ?_
      refine k_then ?_
      refine wc_cond_f rfl ?_
      refine q_skip ?_
      refine k_block ?_
      refine k_then ?_
      refine wc_regionL ?_
      refine wl_val (ov_add rfl rfl (wi64 (by omega) (by omega))) rfl rfl rfl ?_
      refine wl_val (ov_move rfl) rfl rfl rfl ?_
      refine q_nil ?_
      refine k_loop (1 + 1) (by decide) (⟨rfl, rfl, rfl, rfl, trivial⟩) (⟨by decide, hb_g10, hb_g9, hE⟩)
  · refine q_exit ?_
    refine k_thenX ?_
    refine k_thenX ?_
    refine k_blockE ?_
    refine k_then ?_
    refine wc_seq ?_
    refine wc_regionL ?_
    refine wl_step (or_call0 cl34 rfl rfl (rnew_any _ 0 0 none 0 [] (RdB.nil _ 0 0) (by simp))) rfl rfl rfl ?_
    rintro v w203 ⟨g, A1, c1, h2, rfl, hb_g, hr1, hle, he36, hg1, hg2⟩
    replace hE := hE.tr he36
    have hz_he36 := he36.size
    have hzg := hb_g.lt
    have hz_E := hE.size
    refine wl_val (ov_assign rfl) rfl rfl rfl ?_
    refine q_nil ?_
    refine k_then ?_
    refine wc_seq ?_
    refine wc_seq ?_
    refine wc_regionL ?_
    refine wl_val (ov_move rfl) rfl rfl rfl ?_
    refine wl_val (ov_nilptr Try.underlying62 rfl) rfl rfl rfl ?_
    refine wl_val (ov_move rfl) rfl rfl rfl ?_
    refine wl_gval (ov_move rfl) rfl rfl rfl rfl rfl ?_
    refine wl_gstep (or_call0 cl35 rfl rfl (lnum_ok _ g _ _ _ _ [] hb_g hr1 (.inr hle) (by simp) 0 4 (by decide) (by decide))) rfl rfl rfl rfl rfl ?_
    rintro v w204 ⟨rfl, hg41, A3, c3, hb3, hr3⟩
    have hz_hg41 := hg41.size
    replace hE := hE.gr hg41 (fun _ e => by cases e; omega)
    replace hb_g := hb3
    replace hr1 := hr3
    replace hb_g : Blk _ g 72 [.bool true, .slice _ ([] : List UInt8).length _] := hb_g
    replace hr1 : RdB _ _ _ _ _ [] := hr1
    refine wl_gval (ov_not rfl) rfl rfl rfl rfl rfl ?_
    refine wl_val (ov_pick_f rfl rfl) rfl rfl rfl ?_
    refine wl_val (ov_move rfl) rfl rfl rfl ?_
    refine wl_gval (ov_move rfl) rfl rfl rfl rfl rfl ?_
    refine wl_gstep (or_call0 cl36 rfl rfl (lone_ok _ g _ _ _ _ [] hb_g hr1 (.inr hle) (by simp) 0 4 (by decide) (by decide))) rfl rfl rfl rfl rfl ?_
    rintro v w205 ⟨rfl, hg46, A3, c3, hb3, hr3⟩
    have hz_hg46 := hg46.size
    replace hE := hE.gr hg46 (fun _ e => by cases e; omega)
    replace hb_g := hb3
    replace hr1 := hr3
    replace hb_g : Blk _ g 72 [.bool true, .slice _ ([] : List UInt8).length _] := hb_g
    replace hr1 : RdB _ _ _ _ _ [] := hr1
    refine wl_gval (ov_not rfl) rfl rfl rfl rfl rfl ?_
    refine wl_val (ov_pick_f rfl rfl) rfl rfl rfl ?_
    refine q_nil ?_
    refine k_then ?_
    refine wc_cond_f rfl ?_
    refine q_skip ?_
    refine k_then ?_
    refine wc_seq ?_
    refine wc_seq ?_
    refine wc_regionL ?_
    refine wl_val (ov_move rfl) rfl rfl rfl ?_
    refine wl_val (ov_lss rfl rfl) rfl rfl rfl ?_
    refine q_nil ?_
    refine k_then ?_
    refine wc_cond_d rfl (fun hc4 => ?_) (fun hc4 => ?_)
    · refine wc_seq ?_
      refine wc_regionL ?_
      refine wl_val (ov_move rfl) rfl rfl rfl ?_
      refine wl_val (ov_move rfl) rfl rfl rfl ?_
      refine wl_step (or_call0 cl37 rfl rfl (lbytes_ok _ g _ _ _ _ [] hb_g hr1 (.inr hle) (by simp) most hm [] 2 (by rw [vpart_neg (by omega)]) (by rw [vpart_neg (by omega)]; rfl))) rfl rfl rfl ?_
      rintro v w206 ⟨rfl, hg53, A3, c3, hb3, hr3⟩
      have hz_hg53 := hg53.size
      replace hE := hE.gr hg53 (fun _ e => by cases e; omega)
      replace hb_g := hb3
      replace hr1 := hr3
      refine wl_val (ov_move rfl) rfl rfl rfl ?_
      refine wl_gstep (or_call0 cl23 rfl rfl (known04_any _)) rfl rfl rfl rfl rfl ?_
      rintro v w207 ⟨rfl, he55⟩
      replace hE := hE.tr he55
      replace hb_g := hb_g.ext he55
      replace hr1 := hr1.ext he55
      have hz_he55 := he55.size
      refine wl_val (ov_pick_t rfl rfl) rfl rfl rfl ?_
      refine wl_val (ov_assign rfl) rfl rfl rfl ?_
      refine q_nil ?_
      refine k_then ?_
      refine q_ret ?_
      refine k_thenR ?_
      refine e_ret rfl rfl ?_
      exact ⟨rfl, hE⟩
    · refine q_skip ?_
      refine k_then ?_
      refine wc_seq ?_
      refine wc_regionL ?_
      refine wl_val (ov_move rfl) rfl rfl rfl ?_
      refine wl_val (ov_move rfl) rfl rfl rfl ?_
      refine wl_step (or_call0 cl37 rfl rfl (lbytes_ok _ g _ _ _ _ [] hb_g hr1 (.inr hle) (by simp) most hm [] 4 (by rw [vpart_bad (by omega) (by decide)]) (by rw [vpart_bad (by omega) (by decide)]; rfl))) rfl rfl rfl ?_
      rintro v w206 ⟨rfl, hg59, A3, c3, hb3, hr3⟩
      have hz_hg59 := hg59.size
      replace hE := hE.gr hg59 (fun _ e => by cases e; omega)
      replace hb_g := hb3
      replace hr1 := hr3
      refine wl_val (ov_move rfl) rfl rfl rfl ?_
      refine wl_gstep (or_call0 cl23 rfl rfl (known04_any _)) rfl rfl rfl rfl rfl ?_
      rintro v w207 ⟨rfl, he61⟩
      replace hE := hE.tr he61
      replace hb_g := hb_g.ext he61
      replace hr1 := hr1.ext he61
      have hz_he61 := he61.size
      refine wl_val (ov_pick_t rfl rfl) rfl rfl rfl ?_
      refine wl_val (ov_assign rfl) rfl rfl rfl ?_
      refine q_nil ?_
      refine k_then ?_
      refine q_ret ?_
      refine e_ret rfl rfl ?_
      exact ⟨rfl, hE⟩

end Go.Proofs.Ytfniipfdpoeapaa
