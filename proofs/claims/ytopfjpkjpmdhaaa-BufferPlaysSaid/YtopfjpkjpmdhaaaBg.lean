/-
  The walk of BufferPlays.
-/
import Derived.Test.YtopfjpkjpmdhaaaBf
namespace Go.Proofs.Ytopfjpkjpmdhaaa
open Go.RowKit
set_option linter.unusedVariables false
set_option maxRecDepth 4000
theorem ag42_3 : aggTy Try.prog 42 3 = true := by kernel_rfl
theorem cl14 : callable Try.prog 14 = true := by kernel_rfl
theorem cl15 : callable Try.prog 15 = true := by kernel_rfl
theorem cl16 : callable Try.prog 16 = true := by kernel_rfl
theorem cl21 : callable Try.prog 21 = true := by kernel_rfl
theorem cl26 : callable Try.prog 26 = true := by kernel_rfl

set_option maxHeartbeats 2000000 in
theorem bufferPlays_walk (w : World) (most : Int) (lox hix : Nat) (C : Option Addr) (cx : Nat) (xs : List Act27) (hrx : RdR w lox hix 3 act27c C cx xs) (hQ : ∀ a ∈ xs, (-9223372036854775808 ≤ a.2.1 ∧ a.2.1 ≤ 9223372036854775807) ∧ RdB w 0 w.heap.size a.2.2.1 a.2.2.2.1 a.2.2.2.2) :
    Fn Try.prog 6 #[(.int .i64 most), (.slice C xs.length cx)] w (fun v w' => v = .bool true ∧ Ext w w') := by
  replace hrx := hrx.top
  have hE := ext_refl w
  refine fn_enter (args := [(.int .i64 most), (.slice C xs.length cx)]) Try.func6 rfl rfl rfl ?_
  show WC _ _ _ _ [(0, (.int .i64 most)), (1, (.slice C xs.length cx))] _
  refine wc_seq ?_
  refine wc_regionL ?_
  refine wl_val (ov_assign rfl) rfl rfl rfl ?_
  refine q_nil ?_
  refine k_then ?_
  refine wc_seq ?_
  refine wc_seq ?_
  refine wc_regionL ?_
  refine wl_val (ov_move rfl) rfl rfl rfl ?_
  refine wl_val (ov_lss rfl rfl) rfl rfl rfl ?_
  refine wl_case_d (d := 12) rfl (fun h12 => ?_) (fun h12 => ?_)
  · refine wl_val (ov_move rfl) rfl rfl rfl ?_
    refine wl_gskip rfl rfl rfl rfl rfl rfl ?_
    refine wl_gskip rfl rfl rfl rfl rfl rfl ?_
    refine wl_val (ov_pick_t rfl rfl) rfl rfl rfl ?_
    refine wl_val (ov_move rfl) rfl rfl rfl ?_
    refine wl_gskip rfl rfl rfl rfl rfl rfl ?_
    refine wl_gskip rfl rfl rfl rfl rfl rfl ?_
    refine wl_gskip rfl rfl rfl rfl rfl rfl ?_
    refine wl_val (ov_pick_t rfl rfl) rfl rfl rfl ?_
    refine q_nil ?_
    refine k_then ?_
    refine wc_cond_t rfl ?_
    refine wc_seq ?_
    refine wc_regionL ?_
    refine wl_step (or_call0 cl16 rfl rfl (known27_any _)) rfl rfl rfl ?_
    rintro v w1 ⟨rfl, he22⟩
    replace hrx := hrx.ext he22
    replace hE := hE.tr he22
    have hz_he22 := he22.size
    refine wl_val (ov_assign rfl) rfl rfl rfl ?_
    refine q_nil ?_
    refine k_then ?_
    refine q_ret ?_
    refine k_thenR ?_
    refine e_ret rfl rfl ?_
    exact ⟨rfl, hE⟩
  · refine wl_val (ov_move rfl) rfl rfl rfl ?_
    refine wl_gval (ov_move rfl) rfl rfl rfl rfl rfl ?_
    refine wl_gval (ov_gtr rfl rfl) rfl rfl rfl rfl rfl ?_
    refine wl_case_d (d := 15) rfl (fun h15 => ?_) (fun h15 => ?_)
    · refine wl_val (ov_pick_f rfl rfl) rfl rfl rfl ?_
      refine wl_val (ov_move rfl) rfl rfl rfl ?_
      refine wl_gskip rfl rfl rfl rfl rfl rfl ?_
      refine wl_gskip rfl rfl rfl rfl rfl rfl ?_
      refine wl_gskip rfl rfl rfl rfl rfl rfl ?_
      refine wl_val (ov_pick_t rfl rfl) rfl rfl rfl ?_
      refine q_nil ?_
      refine k_then ?_
      refine wc_cond_t rfl ?_
      refine wc_seq ?_
      refine wc_regionL ?_
      refine wl_step (or_call0 cl16 rfl rfl (known27_any _)) rfl rfl rfl ?_
      rintro v w201 ⟨rfl, he22⟩
      replace hrx := hrx.ext he22
      replace hE := hE.tr he22
      have hz_he22 := he22.size
      refine wl_val (ov_assign rfl) rfl rfl rfl ?_
      refine q_nil ?_
      refine k_then ?_
      refine q_ret ?_
      refine k_thenR ?_
      refine e_ret rfl rfl ?_
      exact ⟨rfl, hE⟩
    · refine wl_val (ov_pick_f rfl rfl) rfl rfl rfl ?_
      refine wl_val (ov_move rfl) rfl rfl rfl ?_
      refine wl_gval (ov_move rfl) rfl rfl rfl rfl rfl ?_
      refine wl_gstep (or_call0 cl21 rfl rfl (few27_any _ _ _ _ _ xs hrx)) rfl rfl rfl rfl rfl ?_
      rintro v w201 ⟨rfl, he19⟩
      replace hrx := hrx.ext he19
      replace hE := hE.tr he19
      have hz_he19 := he19.size
      refine wl_case_d (d := 19) rfl (fun hfew => ?_) (fun hfew => ?_)
      · obtain ⟨m, rfl⟩ : ∃ m : Nat, most = (m : Int) := ⟨most.toNat, by omega⟩
        refine wl_gval (ov_not (b := true) rfl) rfl rfl rfl rfl rfl ?_
        refine wl_val (ov_pick_f rfl rfl) rfl rfl rfl ?_
        refine q_nil ?_
        refine k_then ?_
        refine wc_cond_f rfl ?_
        refine q_skip ?_
        refine k_then ?_
        refine wc_seq ?_
        refine wc_regionL ?_
        refine wl_val (ov_move rfl) rfl rfl rfl ?_
        refine wl_step (or_call0 cl13 rfl rfl (bnew_ok _ (m) (by omega) (by omega))) rfl rfl rfl ?_
        rintro v w202 ⟨gn25, rfl, hb25, he25, hg125⟩
        replace hrx := hrx.ext he25
        replace hE := hE.tr he25
        have hz_he25 := he25.size
        have hDs25 : ∀ x, (none : Option Nat) = some x → w201.heap.size ≤ x ∧ x < w202.heap.size := fun x e => by cases e
        have hzb25 := hb25.lt.1
        have hcp25 := hb25.cap
        refine wl_val (ov_move rfl) rfl rfl rfl ?_
        refine wl_val (ov_extract rfl rfl) rfl rfl rfl ?_
        refine wl_val (ov_extract rfl rfl) rfl rfl rfl ?_
        refine wl_val (ov_assign rfl) rfl rfl rfl ?_
        refine wl_val (ov_assign rfl) rfl rfl rfl ?_
        refine q_nil ?_
        refine k_then ?_
        refine wc_seq ?_
        refine wc_regionL ?_
        refine wl_val (ov_move rfl) rfl rfl rfl ?_
        refine wl_step (or_call0 cl14 rfl rfl (rnew27_ok _ (m) (by omega) (by omega))) rfl rfl rfl ?_
        rintro v w203 ⟨rfl, he30⟩
        replace hrx := hrx.ext he30
        replace hE := hE.tr he30
        replace hb25 := hb25.ext he30
        have hz_he30 := he30.size
        refine wl_val (ov_move rfl) rfl rfl rfl ?_
        refine wl_val (ov_extract rfl rfl) rfl rfl rfl ?_
        refine wl_val (ov_extract rfl rfl) rfl rfl rfl ?_
        refine wl_step (or_alloc (cs := [(.int .i64 0), (.slice none 0 0), (.int .u64 0)]) ze29 rfl) rfl rfl rfl ?_
        rintro v w204 ⟨g7, rfl, hb_g7, he7, hl7, hu7⟩
        replace hrx := hrx.ext he7
        replace hE := hE.tr he7
        replace hb25 := hb25.ext he7
        have hz_he7 := he7.size
        refine wl_step0 (or_storeBlk (vs := [(.int .i64 (↑m : Int)), (.slice none 0 0), (.int .u64 0)]) sz29 rfl rfl (by simp [Value.oneCell']) hb_g7 rfl) rfl rfl ?_
        rintro _ w205 ⟨hN205, hg205⟩
        have hz_hg205 := hg205.size
        replace hrx := hrx.gr hg205 (fun _ e => by cases e; omega)
        replace hE := hE.gr hg205 (fun _ e => by cases e; omega)
        replace hb25 := hb25.gr hg205 (fun x e => by cases e; omega) (fun x e e2 => by cases e; have := hDs25 _ e2; omega)
        replace hb_g7 := hN205
        refine wl_val (ov_assign rfl) rfl rfl rfl ?_
        refine q_nil ?_
        refine k_then ?_
        refine wc_seq ?_
        refine wc_seq ?_
        refine wc_regionL ?_
        refine wl_val (ov_move rfl) rfl rfl rfl ?_
        refine wl_val (ov_nilptr Try.underlying22 rfl) rfl rfl rfl ?_
        refine wl_val (ov_move rfl) rfl rfl rfl ?_
        refine wl_gval (ov_move rfl) rfl rfl rfl rfl rfl ?_
        refine wl_gval (ov_neq rfl rfl) rfl rfl rfl rfl rfl ?_
        refine wl_val (ov_pick_f rfl rfl) rfl rfl rfl ?_
        refine wl_val (ov_move rfl) rfl rfl rfl ?_
        refine wl_gval (ov_move rfl) rfl rfl rfl rfl rfl ?_
        refine wl_gval (ov_neq rfl rfl) rfl rfl rfl rfl rfl ?_
        refine wl_val (ov_pick_f rfl rfl) rfl rfl rfl ?_
        refine q_nil ?_
        refine k_then ?_
        refine wc_cond_f rfl ?_
        refine q_skip ?_
        refine k_then ?_
        refine wc_seq ?_
        refine wc_seq ?_
        refine wc_regionL ?_
        refine wl_val (ov_assign rfl) rfl rfl rfl ?_
        refine q_nil ?_
        refine k_then ?_
        refine wc_block ?_
        have hbn := hb25.lt.1
        have hlo25 : w201.heap.size ≤ w205.heap.size := by omega
        refine wc_loop (σ := Nat × Nat × Nat × Nat × Nat × Option Nat × List UInt8 × Nat × Nat × Option Addr × Nat) (fun s => xs.length - s.1) (fun s => [(0, .int .i64 (m : Int)), (1, .slice C xs.length cx), (5, .pointer (some ⟨s.2.2.2.2.1, 0, none⟩)), (7, .pointer (some ⟨g7, 0, none⟩)), (9, .int .i64 (s.1 : Int))]) (fun s w' => s.1 ≤ xs.length ∧ Play27 w.heap.size w' s.2.1 s.2.2.1 s.2.2.2.1 s.2.2.2.2.1 s.2.2.2.2.2.1 m s.2.2.2.2.2.2.1 s.2.2.2.2.2.2.2.1 s.2.2.2.2.2.2.2.2.1 s.2.2.2.2.2.2.2.2.2.1 s.2.2.2.2.2.2.2.2.2.2 ∧ s.2.2.2.2.2.2.2.1 ≤ 100 * s.1 ∧ Blk w' g7 29 [.int .i64 (m : Int), .slice s.2.2.2.2.2.2.2.2.2.1 s.2.2.2.2.2.2.1.length s.2.2.2.2.2.2.2.2.2.2, .int .u64 (s.2.2.2.2.2.2.2.1 : Int)] ∧ s.2.2.2.2.1 ≠ g7 ∧ (∀ x, s.2.2.2.2.2.1 = some x → x ≠ g7) ∧ (g7 < s.2.2.1 ∨ s.2.2.2.1 ≤ g7) ∧ RdR w' lox w.heap.size 3 act27c C cx xs ∧ Ext w w') ((0, _, 0, 0, gn25, none, [], 0, 0, none, 0)) (⟨Nat.zero_le _, ⟨hb25, RdB.nil _ 0 0, Nat.zero_le _, hlo25, .inr (Nat.zero_le _), (fun x e => by cases e), rfl, by show w.heap.size ≤ gn25; omega, (fun x e => by cases e)⟩, Nat.zero_le _, hb_g7, by show gn25 ≠ g7; omega, (fun x e => by cases e), .inr (Nat.zero_le _), hrx, hE⟩) (⟨rfl, rfl, rfl, rfl, rfl, trivial⟩) ?_
        rintro ⟨k, lo, lor, hir, g, D, l, p, t, A, c⟩ wq ⟨hk0, hpl, hp, hb_g7, hg7, hD7, hr7, hrx, hE⟩
        show WC _ _ _ _ [(0, (.int .i64 (↑m : Int))), (1, (.slice C xs.length cx)), (5, (.pointer (some ⟨g, 0, none⟩))), (7, (.pointer (some ⟨g7, 0, none⟩))), (9, (.int .i64 (↑k : Int)))] _
        replace hk0 : k ≤ xs.length := hk0
        replace hp : p ≤ 100 * k := hp
        replace hg7 : g ≠ g7 := hg7
        replace hD7 : ∀ x, D = some x → x ≠ g7 := hD7
        replace hr7 : g7 < lor ∨ hir ≤ g7 := hr7
        replace hpl : Play27 w.heap.size wq lo lor hir g D m l p t A c := hpl
        have hpl2 := hpl
        obtain ⟨hbuf, hr, hhir, hlo, hsg, hsD, hpt, hb0, hbD⟩ := hpl2
        have hz_E := hE.size
        have hzb := hbuf.lt.1
        have hg7l := hb_g7.lt
        refine wc_seq ?_
        refine wc_seq ?_
        refine wc_regionL ?_
        refine wl_val (ov_move rfl) rfl rfl rfl ?_
        refine wl_val (ov_move rfl) rfl rfl rfl ?_
        refine wl_val (ov_len Try.underlying39 rfl) rfl rfl rfl ?_
        refine wl_val (ov_lss rfl rfl) rfl rfl rfl ?_
        refine q_nil ?_
        refine k_then ?_
        refine wc_cond_d rfl (fun hc3 => ?_) (fun hc3 => ?_)
        · obtain ⟨⟨a1, a2, Aq, cq, q⟩, hk⟩ : ∃ a, xs[k]? = some a := ⟨_, List.getElem?_eq_getElem (by omega)⟩
          have hxm := List.mem_of_getElem? hk
          have hrq : RdB _ 0 w.heap.size Aq cq q := (hQ _ hxm).2.ext hE
          have ha2 := (hQ _ hxm).1
          simp only at ha2
          have hq100 : q.length ≤ 100 := hfew.2 _ hxm
          have hxl := hfew.1
          refine q_skip ?_
          refine k_then ?_
          refine wc_seq ?_
          refine wc_block ?_
          refine wc_seq ?_
          refine wc_regionL ?_
          refine wl_val (ov_assign rfl) rfl rfl rfl ?_
          refine q_nil ?_
          refine k_then ?_
          refine wc_seq ?_
          refine wc_drawA mixed ?_
          intro w206 hx11
          replace hb_g7 := hb_g7.ext hx11
          replace hrx := hrx.ext hx11
          replace hbuf := hbuf.ext hx11
          replace hr := hr.ext hx11
          replace hE := hE.tr hx11
          replace hrq := hrq.ext hx11
          have hz_hx11 := hx11.size
          refine wa_main (Ext) (fun _ _ h => h) (fun _ _ _ h k => h.tr k) 0 6 [(50, eqv (.pointer (some ⟨g, 0, none⟩))), (51, eqv (.agg #[(.int .i64 (↑m : Int)), (.slice A l.length c), (.int .u64 (↑p : Int))])), (52, eqv (.slice C xs.length cx)), (53, eqv (.int .i64 (↑k : Int))), (54, isCells [(.int .i64 a1), (.int .i64 a2), (.slice Aq q.length cq)]), (55, eqv (.agg #[(.int .i64 a1), (.int .i64 a2), (.slice Aq q.length cq)]))] [[], [], [], [], [2, 3], [4]] [false, false, false, false, false, false] [false, false, false, false, false, false] [true, true, true, true, true, true] false _ [] [] (fun _ _ h => h) trivial (by kernel_rfl) rfl ⟨stb_eqv _, stb_eqv _, stb_eqv _, stb_eqv _, stb_isCells _, stb_eqv _, trivial⟩ ⟨?_, ?_, ?_, ?_, ?_, ?_, trivial⟩ ?_
          · intro wd hxE
            replace hb_g7 := hb_g7.ext hxE
            replace hrx := hrx.ext hxE
            replace hbuf := hbuf.ext hxE
            replace hr := hr.ext hxE
            replace hE := hE.tr hxE
            replace hrq := hrq.ext hxE
            have hz_hxE := hxE.size
            show OpG _ _ _ _ _ _
            exact og_plain rfl (ox_val (ov_move rfl))
          · intro wd hxE
            replace hb_g7 := hb_g7.ext hxE
            replace hrx := hrx.ext hxE
            replace hbuf := hbuf.ext hxE
            replace hr := hr.ext hxE
            replace hE := hE.tr hxE
            replace hrq := hrq.ext hxE
            have hz_hxE := hxE.size
            show OpG _ _ _ _ _ _
            exact og_plain rfl (ox_val (ov_loadBlk (cs := [(.int .i64 (↑m : Int)), (.slice A l.length c), (.int .u64 (↑p : Int))]) ag29_3 rfl hb_g7))
          · intro wd hxE
            replace hb_g7 := hb_g7.ext hxE
            replace hrx := hrx.ext hxE
            replace hbuf := hbuf.ext hxE
            replace hr := hr.ext hxE
            replace hE := hE.tr hxE
            replace hrq := hrq.ext hxE
            have hz_hxE := hxE.size
            show OpG _ _ _ _ _ _
            exact og_plain rfl (ox_val (ov_move rfl))
          · intro wd hxE
            replace hb_g7 := hb_g7.ext hxE
            replace hrx := hrx.ext hxE
            replace hbuf := hbuf.ext hxE
            replace hr := hr.ext hxE
            replace hE := hE.tr hxE
            replace hrq := hrq.ext hxE
            have hz_hxE := hxE.size
            show OpG _ _ _ _ _ _
            exact og_plain rfl (ox_val (ov_move rfl))
          · intro wd hxE
            replace hb_g7 := hb_g7.ext hxE
            replace hrx := hrx.ext hxE
            replace hbuf := hbuf.ext hxE
            replace hr := hr.ext hxE
            replace hE := hE.tr hxE
            replace hrq := hrq.ext hxE
            have hz_hxE := hxE.size
            rintro _ rfl
            rintro _ rfl
            show OpG _ _ _ _ _ _
            refine og_plain rfl (OpRun.mono (or_rindex (m := (k)) sl39 rfl rfl hrx (fun _ _ => rfl) hk) ?_)
            rintro v _ ⟨rfl, p54, rfl, hp54, hpl54, hph54⟩
            exact ⟨⟨p54, rfl, hp54⟩, ext_refl _⟩
          · intro wd hxE
            replace hb_g7 := hb_g7.ext hxE
            replace hrx := hrx.ext hxE
            replace hbuf := hbuf.ext hxE
            replace hr := hr.ext hxE
            replace hE := hE.tr hxE
            replace hrq := hrq.ext hxE
            have hz_hxE := hxE.size
            rintro _ ⟨p54, rfl, hp54⟩
            show OpG _ _ _ _ _ _
            exact og_plain rfl (ox_val (ov_loadAgg (cs := [(.int .i64 a1), (.int .i64 a2), (.slice Aq q.length cq)]) ag42_3 rfl rfl hp54))
          · intro wf11 hf11
            replace hb_g7 := hb_g7.ext hf11
            replace hrx := hrx.ext hf11
            replace hbuf := hbuf.ext hf11
            replace hr := hr.ext hf11
            replace hE := hE.tr hf11
            replace hrq := hrq.ext hf11
            have hz_hf11 := hf11.size
            rintro _ rfl
            rintro _ rfl
            rintro _ rfl
            rintro _ rfl
            rintro _ ⟨p54, rfl, hp54⟩
            rintro _ rfl
            show WAny _ _ _ _ _ _ _
            refine wa_stepG (by kernel_rfl) rfl (or_call0 cl26 rfl rfl (do27_any _ w.heap.size lo lor hir g D m l p t A c ⟨hbuf, hr, by omega, by omega, hsg, hsD, hpt, hb0, hbD⟩ (by omega) (by omega) a1 a2 (by omega) (by omega) Aq cq q 0 w.heap.size hrq hq100 (Nat.le_refl _))) rfl rfl rfl ?_
            rintro v w207 ⟨lo56, lor56, hir56, g56, D56, l56, p56, t56, A56, c56, rfl, hpl56, hp56, hC56, hg56, hN56, hR56⟩
            have hDb : ∀ x, D = some x → x ≠ g7 ∧ w.heap.size ≤ x := fun x e => ⟨hD7 x e, hbD x e⟩
            have hz_hC56 := hC56.size
            replace hb_g7 := hC56.bk hb_g7 (by omega) (fun e2 => by have := hDb _ e2; omega)
            replace hrx := hC56.rd hrx (by omega) (fun x e => by have := hDb x e; omega)
            replace hE := hC56.e0 hE (by omega) (fun x e => by have := hDb x e; omega)
            have hD77 : ∀ x, D56 = some x → x ≠ g7 := fun x e => by rcases hN56 x e with h | h; exact hD7 x h; omega
            refine wa_main (BelS w207.heap.size [g7]) (bels_ext) (bels_tr) 7 13 [(69, anyv), (70, anyv), (71, anyv), (72, anyv), (73, anyv), (74, anyv), (75, anyv), (49, eqv (.tuple #[(.pointer (some ⟨g56, 0, none⟩)), (.agg #[(.int .i64 (↑m : Int)), (.slice A56 l56.length c56), (.int .u64 (↑p56 : Int))]), (.bool true)])), (57, eqv (.pointer (some ⟨g56, 0, none⟩))), (58, eqv (.agg #[(.int .i64 (↑m : Int)), (.slice A56 l56.length c56), (.int .u64 (↑p56 : Int))])), (59, eqv (.bool true)), (5, eqv (.pointer (some ⟨g56, 0, none⟩))), (81, (fun _ w => Blk w g7 29 [(.int .i64 (↑m : Int)), (.slice A56 l56.length c56), (.int .u64 (↑p56 : Int))]))] [[], [], [], [], [], [], [], [], [7], [7], [7], [8], [9]] [false, false, false, false, false, false, false, false, false, false, false, false, true] [false, false, false, false, false, false, false, false, false, false, false, false, true] [false, false, false, false, false, false, false, true, true, true, true, true, true] false [(0, (.int .i64 (↑m : Int))), (1, (.slice C xs.length cx)), (7, (.pointer (some ⟨g7, 0, none⟩))), (9, (.int .i64 (↑k : Int))), (10, (.bool false)), (50, (.pointer (some ⟨g, 0, none⟩))), (51, (.agg #[(.int .i64 (↑m : Int)), (.slice A l.length c), (.int .u64 (↑p : Int))])), (52, (.slice C xs.length cx)), (53, (.int .i64 (↑k : Int))), (54, (.pointer (some p54))), (55, (.agg #[(.int .i64 a1), (.int .i64 a2), (.slice Aq q.length cq)])), (56, (.tuple #[(.pointer (some ⟨g56, 0, none⟩)), (.agg #[(.int .i64 (↑m : Int)), (.slice A56 l56.length c56), (.int .u64 (↑p56 : Int))]), (.bool true)]))] [] [] (Env.sub_get ⟨rfl, rfl, rfl, rfl, rfl, rfl, rfl, rfl, rfl, rfl, rfl, rfl, trivial⟩) trivial (by kernel_rfl) rfl ⟨stb_any, stb_any, stb_any, stb_any, stb_any, stb_any, stb_any, stb_eqv _, stb_eqv _, stb_eqv _, stb_eqv _, stb_eqv _, (fun _ w w' hb he => hb.ext he), trivial⟩ ⟨trivial, trivial, trivial, trivial, trivial, trivial, trivial, ?_, ?_, ?_, ?_, ?_, ?_, trivial⟩ ?_
            · intro wd hxE
              have hk_hxE := bels_out hxE
              obtain ⟨cs_g7, hcs_g7, hb_g7⟩ := bels_blk hxE (by simp) hb_g7
              have hz_hk_hxE := hk_hxE.size
              replace hrx := hk_hxE.rd hrx (by intro g hg; simp at hg; omega)
              replace hE := hk_hxE.e0 hE (by intro g hg; simp at hg; omega)
              replace hpl56 := hpl56.kp hk_hxE (by intro hg; simp at hg; omega) (fun x e hg => by simp at hg; exact hD77 x e hg) (by intro z hz; simp at hz; omega)
              show OpG _ _ _ _ _ _
              exact og_plain rfl (ox_val (ov_move rfl))
            · intro wd hxE
              have hk_hxE := bels_out hxE
              obtain ⟨cs_g7, hcs_g7, hb_g7⟩ := bels_blk hxE (by simp) hb_g7
              have hz_hk_hxE := hk_hxE.size
              replace hrx := hk_hxE.rd hrx (by intro g hg; simp at hg; omega)
              replace hE := hk_hxE.e0 hE (by intro g hg; simp at hg; omega)
              replace hpl56 := hpl56.kp hk_hxE (by intro hg; simp at hg; omega) (fun x e hg => by simp at hg; exact hD77 x e hg) (by intro z hz; simp at hz; omega)
              rintro _ rfl
              show OpG _ _ _ _ _ _
              exact og_plain rfl (ox_val (ov_extract rfl rfl))
            · intro wd hxE
              have hk_hxE := bels_out hxE
              obtain ⟨cs_g7, hcs_g7, hb_g7⟩ := bels_blk hxE (by simp) hb_g7
              have hz_hk_hxE := hk_hxE.size
              replace hrx := hk_hxE.rd hrx (by intro g hg; simp at hg; omega)
              replace hE := hk_hxE.e0 hE (by intro g hg; simp at hg; omega)
              replace hpl56 := hpl56.kp hk_hxE (by intro hg; simp at hg; omega) (fun x e hg => by simp at hg; exact hD77 x e hg) (by intro z hz; simp at hz; omega)
              rintro _ rfl
              show OpG _ _ _ _ _ _
              exact og_plain rfl (ox_val (ov_extract rfl rfl))
            · intro wd hxE
              have hk_hxE := bels_out hxE
              obtain ⟨cs_g7, hcs_g7, hb_g7⟩ := bels_blk hxE (by simp) hb_g7
              have hz_hk_hxE := hk_hxE.size
              replace hrx := hk_hxE.rd hrx (by intro g hg; simp at hg; omega)
              replace hE := hk_hxE.e0 hE (by intro g hg; simp at hg; omega)
              replace hpl56 := hpl56.kp hk_hxE (by intro hg; simp at hg; omega) (fun x e hg => by simp at hg; exact hD77 x e hg) (by intro z hz; simp at hz; omega)
              rintro _ rfl
              show OpG _ _ _ _ _ _
              exact og_plain rfl (ox_val (ov_extract rfl rfl))
            · intro wd hxE
              have hk_hxE := bels_out hxE
              obtain ⟨cs_g7, hcs_g7, hb_g7⟩ := bels_blk hxE (by simp) hb_g7
              have hz_hk_hxE := hk_hxE.size
              replace hrx := hk_hxE.rd hrx (by intro g hg; simp at hg; omega)
              replace hE := hk_hxE.e0 hE (by intro g hg; simp at hg; omega)
              replace hpl56 := hpl56.kp hk_hxE (by intro hg; simp at hg; omega) (fun x e hg => by simp at hg; exact hD77 x e hg) (by intro z hz; simp at hz; omega)
              rintro _ rfl
              show OpG _ _ _ _ _ _
              exact og_plain rfl (ox_val (ov_assign rfl))
            · intro wd hxE
              have hk_hxE := bels_out hxE
              obtain ⟨cs_g7, hcs_g7, hb_g7⟩ := bels_blk hxE (by simp) hb_g7
              have hz_hk_hxE := hk_hxE.size
              replace hrx := hk_hxE.rd hrx (by intro g hg; simp at hg; omega)
              replace hE := hk_hxE.e0 hE (by intro g hg; simp at hg; omega)
              replace hpl56 := hpl56.kp hk_hxE (by intro hg; simp at hg; omega) (fun x e hg => by simp at hg; exact hD77 x e hg) (by intro z hz; simp at hz; omega)
              rintro _ rfl
              show OpG _ _ _ _ _ _
              have hb0 := hb_g7
              refine og_plain rfl (OpRun.mono (or_storeBlk (vs := [(.int .i64 (↑m : Int)), (.slice A56 l56.length c56), (.int .u64 (↑p56 : Int))]) sz29 rfl rfl (by simp [Value.oneCell']) hb_g7 hcs_g7) ?_)
              rintro _ w208 ⟨hN208, hg208⟩
              have hz_hg208 := hg208.size
              replace hrx := hrx.gr hg208 (fun _ e => by cases e; omega)
              replace hE := hE.gr hg208 (fun _ e => by cases e; omega)
              replace hpl56 := hpl56.gr hg208 (by omega) (fun x e => hD77 x e) (by omega)
              replace hb_g7 := hN208
              exact ⟨hb_g7, bels_store hg208 (by simp) hb0 hb_g7 hcs_g7⟩
            · intro wf11 hf11
              have hk_hf11 := bels_out hf11
              obtain ⟨cs_g7, hcs_g7, hb_g7⟩ := bels_blk hf11 (by simp) hb_g7
              have hz_hk_hf11 := hk_hf11.size
              replace hrx := hk_hf11.rd hrx (by intro g hg; simp at hg; omega)
              replace hE := hk_hf11.e0 hE (by intro g hg; simp at hg; omega)
              replace hpl56 := hpl56.kp hk_hf11 (by intro hg; simp at hg; omega) (fun x e hg => by simp at hg; exact hD77 x e hg) (by intro z hz; simp at hz; omega)
              intro _
              intro _
              intro _
              intro _
              intro _
              intro _
              intro _
              rintro _ rfl
              rintro _ rfl
              rintro _ rfl
              rintro _ rfl
              rintro _ rfl
              rintro _ hb_g7
              refine wa_tail (by kernel_rfl) ?_
              show WL _ _ _ [_] _ _ _
              refine wl_val (ov_assign rfl) rfl rfl rfl ?_
              refine q_nil ?_
              refine k_then ?_
              refine wc_seq ?_
              refine wc_regionL ?_
              refine wl_val (ov_move rfl) rfl rfl rfl ?_
              refine wl_val (ov_not (b := true) rfl) rfl rfl rfl ?_
              refine wl_val (ov_move rfl) rfl rfl rfl ?_
              refine wl_gval (ov_move rfl) rfl rfl rfl rfl rfl ?_
              refine wl_gval (ov_loadBlk (cs := [(.int .i64 (↑m : Int)), (.slice A56 l56.length c56), (.int .u64 (↑p56 : Int))]) ag29_3 rfl hb_g7) rfl rfl rfl rfl rfl ?_
              refine wl_gstep (or_call0 cl15 rfl rfl (looks27_ok _ _ g56 _ m l56 p56 t56 hpl56.hbuf _ _ _ _ hpl56.hr hpl56.hpt (by omega))) rfl rfl rfl rfl rfl ?_
              rintro v w208 ⟨rfl, he65⟩
              replace hrx := hrx.ext he65
              replace hE := hE.tr he65
              replace hpl56 := hpl56.ext he65
              replace hb_g7 := hb_g7.ext he65
              have hz_he65 := he65.size
              refine wl_gval (ov_not (b := true) rfl) rfl rfl rfl rfl rfl ?_
              refine wl_val (ov_pick_f rfl rfl) rfl rfl rfl ?_
              refine q_nil ?_
              refine k_then ?_
              refine wc_cond_f rfl ?_
              refine q_skip ?_
              refine k_block ?_
              refine k_then ?_
              refine wc_regionL ?_
              refine wl_val (ov_move rfl) rfl rfl rfl ?_
              refine wl_val (ov_add rfl rfl (wi64 (by omega) (by omega))) rfl rfl rfl ?_
              refine wl_val (ov_assign rfl) rfl rfl rfl ?_
              refine q_nil ?_
              refine k_loop ((k + 1, lo56, lor56, hir56, g56, D56, l56, p56, t56, A56, c56)) (by show xs.length - (k + 1) < xs.length - k; omega) (⟨rfl, rfl, rfl, rfl, rfl, trivial⟩) (⟨by show k + 1 ≤ _; omega, hpl56, by show p56 ≤ 100 * (k + 1); omega, hb_g7, by show g56 ≠ g7; omega, hD77, by show g7 < lor56 ∨ hir56 ≤ g7; omega, hrx, hE⟩)
        · refine q_exit ?_
          refine k_thenX ?_
          refine k_thenX ?_
          refine k_blockE ?_
          refine k_then ?_
          refine wc_seq ?_
          refine wc_regionL ?_
          refine wl_step (or_call0 cl16 rfl rfl (known27_any _)) rfl rfl rfl ?_
          rintro v w206 ⟨rfl, he68⟩
          replace hb_g7 := hb_g7.ext he68
          replace hrx := hrx.ext he68
          replace hbuf := hbuf.ext he68
          replace hr := hr.ext he68
          replace hE := hE.tr he68
          have hz_he68 := he68.size
          refine wl_val (ov_assign rfl) rfl rfl rfl ?_
          refine q_nil ?_
          refine k_then ?_
          refine q_ret ?_
          refine e_ret rfl rfl ?_
          exact ⟨rfl, hE⟩
      · refine wl_gval (ov_not (b := false) rfl) rfl rfl rfl rfl rfl ?_
        refine wl_val (ov_pick_f rfl rfl) rfl rfl rfl ?_
        refine q_nil ?_
        refine k_then ?_
        refine wc_cond_t rfl ?_
        refine wc_seq ?_
        refine wc_regionL ?_
        refine wl_step (or_call0 cl16 rfl rfl (known27_any _)) rfl rfl rfl ?_
        rintro v w202 ⟨rfl, he22⟩
        replace hrx := hrx.ext he22
        replace hE := hE.tr he22
        have hz_he22 := he22.size
        refine wl_val (ov_assign rfl) rfl rfl rfl ?_
        refine q_nil ?_
        refine k_then ?_
        refine q_ret ?_
        refine k_thenR ?_
        refine e_ret rfl rfl ?_
        exact ⟨rfl, hE⟩

end Go.Proofs.Ytopfjpkjpmdhaaa
