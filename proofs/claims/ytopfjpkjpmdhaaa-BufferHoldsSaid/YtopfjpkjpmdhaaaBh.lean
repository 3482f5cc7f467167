/-
  The walk of BufferHolds.
-/
import Derived.Test.YtopfjpkjpmdhaaaBe
namespace Go.Proofs.Ytopfjpkjpmdhaaa
open Go.RowKit
set_option linter.unusedVariables false
set_option maxRecDepth 4000
theorem ag42_3 : aggTy Try.prog 42 3 = true := by kernel_rfl
theorem cl16 : callable Try.prog 16 = true := by kernel_rfl
theorem cl21 : callable Try.prog 21 = true := by kernel_rfl
theorem fo42_0 : fieldOff Try.prog 42 0 = some 0 := by kernel_rfl
theorem fo42_1 : fieldOff Try.prog 42 1 = some 1 := by kernel_rfl
theorem sz42 : (Try.prog.info? 42).map (·.size) = some 3 := by kernel_rfl
theorem ze42 : zeroOf Try.prog 42 = some (.agg #[(.int .i64 0), (.int .i64 0), (.slice none 0 0)]) := by kernel_rfl

theorem bsk3 (l : List UInt8) (n : Int) : (n < 0 ∧ bskip l n = (l, 0, 2)) ∨ (¬ n < 0 ∧ (l.length : Int) < n ∧ bskip l n = (l, 0, 3)) ∨ (¬ n < 0 ∧ ¬ (l.length : Int) < n ∧ bskip l n = (l.drop n.toNat, n.toNat, 0)) := by
  by_cases h : n < 0
  · exact .inl ⟨h, bsk_neg h⟩
  · by_cases h2 : (l.length : Int) < n
    · exact .inr (.inl ⟨h, h2, bsk_far h h2⟩)
    · exact .inr (.inr ⟨h, h2, bsk_ok h h2⟩)
theorem take_len_take (l : List UInt8) (n : Nat) : l.take (l.take n).length = l.take n := by
  rw [List.length_take]
  rcases Nat.le_total n l.length with h | h
  · rw [Nat.min_eq_left h]
  · rw [Nat.min_eq_right h, List.take_of_length_le (Nat.le_refl _), List.take_of_length_le h]

set_option maxHeartbeats 4000000 in
theorem bufferHolds_walk (w : World) (most : Int) (lox hix : Nat) (C : Option Addr) (cx : Nat) (xs : List Act27) (hrx : RdR w lox hix 3 act27c C cx xs) (hQ : ∀ a ∈ xs, (-9223372036854775808 ≤ a.2.1 ∧ a.2.1 ≤ 9223372036854775807) ∧ RdB w 0 w.heap.size a.2.2.1 a.2.2.2.1 a.2.2.2.2) :
    Fn Try.prog 5 #[(.int .i64 most), (.slice C xs.length cx)] w (fun v w' => v = .bool true ∧ Ext w w') := by
  replace hrx := hrx.top
  have hE := ext_refl w
  refine fn_enter (args := [(.int .i64 most), (.slice C xs.length cx)]) Try.func5 rfl rfl rfl ?_
  show WC _ _ _ _ [(0, (.int .i64 most)), (1, (.slice C xs.length cx))] _
  refine wc_seq ?_
  refine wc_regionL ?_
  refine wl_val (ov_assign rfl) rfl rfl rfl ?_
  refine q_nil ?_
  refine k_then ?_
  refine wc_seq ?_
  refine wc_seq ?_
  refine wc_regionL ?_
  refine wl_val (ov_move rfl) rfl rfl rfl ?_
  refine wl_val (ov_lss rfl rfl) rfl rfl rfl ?_
  refine wl_case_d (d := 20) rfl (fun h20 => ?_) (fun h20 => ?_)
  · refine wl_val (ov_move rfl) rfl rfl rfl ?_
    refine wl_gskip rfl rfl rfl rfl rfl rfl ?_
    refine wl_gskip rfl rfl rfl rfl rfl rfl ?_
    refine wl_val (ov_pick_t rfl rfl) rfl rfl rfl ?_
    refine wl_val (ov_move rfl) rfl rfl rfl ?_
    refine wl_gskip rfl rfl rfl rfl rfl rfl ?_
    refine wl_gskip rfl rfl rfl rfl rfl rfl ?_
    refine wl_gskip rfl rfl rfl rfl rfl rfl ?_
    refine wl_val (ov_pick_t rfl rfl) rfl rfl rfl ?_
    refine q_nil ?_
    refine k_then ?_
    refine wc_cond_t rfl ?_
    refine wc_seq ?_
    refine wc_regionL ?_
    refine wl_step (or_call0 cl16 rfl rfl (known27_any _)) rfl rfl rfl ?_
    rintro v w1 ⟨rfl, he30⟩
    replace hrx := hrx.ext he30
    replace hE := hE.tr he30
    have hz_he30 := he30.size
    refine wl_val (ov_assign rfl) rfl rfl rfl ?_
    refine q_nil ?_
    refine k_then ?_
    refine q_ret ?_
    refine k_thenR ?_
    refine e_ret rfl rfl ?_
    exact ⟨rfl, hE⟩
  · refine wl_val (ov_move rfl) rfl rfl rfl ?_
    refine wl_gval (ov_move rfl) rfl rfl rfl rfl rfl ?_
    refine wl_gval (ov_gtr rfl rfl) rfl rfl rfl rfl rfl ?_
    refine wl_case_d (d := 23) rfl (fun h23 => ?_) (fun h23 => ?_)
    · refine wl_val (ov_pick_f rfl rfl) rfl rfl rfl ?_
      refine wl_val (ov_move rfl) rfl rfl rfl ?_
      refine wl_gskip rfl rfl rfl rfl rfl rfl ?_
      refine wl_gskip rfl rfl rfl rfl rfl rfl ?_
      refine wl_gskip rfl rfl rfl rfl rfl rfl ?_
      refine wl_val (ov_pick_t rfl rfl) rfl rfl rfl ?_
      refine q_nil ?_
      refine k_then ?_
      refine wc_cond_t rfl ?_
      refine wc_seq ?_
      refine wc_regionL ?_
      refine wl_step (or_call0 cl16 rfl rfl (known27_any _)) rfl rfl rfl ?_
      rintro v w201 ⟨rfl, he30⟩
      replace hrx := hrx.ext he30
      replace hE := hE.tr he30
      have hz_he30 := he30.size
      refine wl_val (ov_assign rfl) rfl rfl rfl ?_
      refine q_nil ?_
      refine k_then ?_
      refine q_ret ?_
      refine k_thenR ?_
      refine e_ret rfl rfl ?_
      exact ⟨rfl, hE⟩
    · refine wl_val (ov_pick_f rfl rfl) rfl rfl rfl ?_
      refine wl_val (ov_move rfl) rfl rfl rfl ?_
      refine wl_gval (ov_move rfl) rfl rfl rfl rfl rfl ?_
      refine wl_gstep (or_call0 cl21 rfl rfl (few27_any _ _ _ _ _ xs hrx)) rfl rfl rfl rfl rfl ?_
      rintro v w201 ⟨rfl, he27⟩
      replace hrx := hrx.ext he27
      replace hE := hE.tr he27
      have hz_he27 := he27.size
      refine wl_case_d (d := 27) rfl (fun hfew => ?_) (fun hfew => ?_)
      · obtain ⟨m, rfl⟩ : ∃ m : Nat, most = (m : Int) := ⟨most.toNat, by omega⟩
        refine wl_gval (ov_not (b := true) rfl) rfl rfl rfl rfl rfl ?_
        refine wl_val (ov_pick_f rfl rfl) rfl rfl rfl ?_
        refine q_nil ?_
        refine k_then ?_
        refine wc_cond_f rfl ?_
        refine q_skip ?_
        refine k_then ?_
        refine wc_seq ?_
        refine wc_regionL ?_
        refine wl_val (ov_move rfl) rfl rfl rfl ?_
        refine wl_step (or_call0 cl13 rfl rfl (bnew_ok _ (m) (by omega) (by omega))) rfl rfl rfl ?_
        rintro v w202 ⟨gn33, rfl, hb33, he33, hg133⟩
        replace hrx := hrx.ext he33
        replace hE := hE.tr he33
        have hz_he33 := he33.size
        have hDs33 : ∀ x, (none : Option Nat) = some x → w201.heap.size ≤ x ∧ x < w202.heap.size := fun x e => by cases e
        have hzb33 := hb33.lt.1
        have hcp33 := hb33.cap
        refine wl_val (ov_move rfl) rfl rfl rfl ?_
        refine wl_val (ov_extract rfl rfl) rfl rfl rfl ?_
        refine wl_val (ov_extract rfl rfl) rfl rfl rfl ?_
        refine wl_val (ov_assign rfl) rfl rfl rfl ?_
        refine wl_val (ov_assign rfl) rfl rfl rfl ?_
        refine q_nil ?_
        refine k_then ?_
        refine wc_seq ?_
        refine wc_seq ?_
        refine wc_regionL ?_
        refine wl_val (ov_move rfl) rfl rfl rfl ?_
        refine wl_val (ov_nilptr Try.underlying22 rfl) rfl rfl rfl ?_
        refine wl_val (ov_move rfl) rfl rfl rfl ?_
        refine wl_gval (ov_move rfl) rfl rfl rfl rfl rfl ?_
        refine wl_gval (ov_neq rfl rfl) rfl rfl rfl rfl rfl ?_
        refine wl_val (ov_pick_f rfl rfl) rfl rfl rfl ?_
        refine q_nil ?_
        refine k_then ?_
        refine wc_cond_f rfl ?_
        refine q_skip ?_
        refine k_then ?_
        refine wc_seq ?_
        refine wc_regionL ?_
        refine wl_val (ov_assign rfl) rfl rfl rfl ?_
        refine q_nil ?_
        refine k_then ?_
        refine wc_seq ?_
        refine wc_regionL ?_
        refine wl_val (ov_assign rfl) rfl rfl rfl ?_
        refine q_nil ?_
        refine k_then ?_
        refine wc_seq ?_
        refine wc_seq ?_
        refine wc_regionL ?_
        refine wl_val (ov_assign rfl) rfl rfl rfl ?_
        refine q_nil ?_
        refine k_then ?_
        refine wc_block ?_
        have hbn := hb33.lt.1
        have hlo33 : w.heap.size ≤ w201.heap.size := by omega
        refine wc_loop (σ := Nat × List UInt8 × Nat × Option Addr × Nat × Option Nat) (fun s => xs.length - s.1) (fun s => [(0, .int .i64 (m : Int)), (1, .slice C xs.length cx), (5, .pointer (some ⟨gn33, 0, none⟩)), (7, .slice s.2.2.2.1 s.2.1.length s.2.2.2.2.1), (8, .int .i64 (s.2.2.1 : Int)), (9, .int .i64 (s.1 : Int))]) (fun s w' => s.1 ≤ xs.length ∧ s.2.1.length ≤ 100 * s.1 ∧ s.2.2.1 ≤ s.2.1.length ∧ OwnB w' w.heap.size 5 s.2.2.2.1 s.2.2.2.2.1 s.2.1 ∧ Buf w' w.heap.size gn33 s.2.2.2.2.2 m (s.2.1.drop s.2.2.1) s.2.1.length s.2.2.1 ∧ (∀ x, blk s.2.2.2.1 = some x → x ≠ gn33 ∧ s.2.2.2.2.2 ≠ some x) ∧ RdR w' lox w.heap.size 3 act27c C cx xs ∧ Ext w w') ((0, [], 0, none, 0, none)) (⟨Nat.zero_le _, Nat.zero_le _, Nat.zero_le _, Own.nil_ _ _ _ _, hb33.mono hlo33, (fun x e => by cases e), hrx, hE⟩) (⟨rfl, rfl, rfl, rfl, rfl, rfl, trivial⟩) ?_
        rintro ⟨k, ins, out, A7, c7, D⟩ wq ⟨hk0, hins, hout, ho7, hbuf, hsep, hrx, hE⟩
        show WC _ _ _ _ [(0, (.int .i64 (↑m : Int))), (1, (.slice C xs.length cx)), (5, (.pointer (some ⟨gn33, 0, none⟩))), (7, (.slice A7 ins.length c7)), (8, (.int .i64 (↑out : Int))), (9, (.int .i64 (↑k : Int)))] _
        replace hk0 : k ≤ xs.length := hk0
        replace hins : ins.length ≤ 100 * k := hins
        replace hout : out ≤ ins.length := hout
        replace ho7 : OwnB wq w.heap.size 5 A7 c7 ins := ho7
        replace hbuf : Buf wq w.heap.size gn33 D m (ins.drop out) ins.length out := hbuf
        replace hsep : ∀ x, blk A7 = some x → x ≠ gn33 ∧ D ≠ some x := hsep
        have hz_E := hE.size
        have hq_ho7 := fun g e => Own.lt ho7 (g := g) e
        have hDs : ∀ x, D = some x → w.heap.size ≤ x ∧ x < wq.heap.size := fun x e => hbuf.lt.2 x e
        have hzb := hbuf.lt.1
        have hcp := hbuf.cap
        have hld : (ins.drop out).length = ins.length - out := List.length_drop
        refine wc_seq ?_
        refine wc_seq ?_
        refine wc_regionL ?_
        refine wl_val (ov_move rfl) rfl rfl rfl ?_
        refine wl_val (ov_move rfl) rfl rfl rfl ?_
        refine wl_val (ov_len Try.underlying39 rfl) rfl rfl rfl ?_
        refine wl_val (ov_lss rfl rfl) rfl rfl rfl ?_
        refine q_nil ?_
        refine k_then ?_
        refine wc_cond_d rfl (fun hc3 => ?_) (fun hc3 => ?_)
        · obtain ⟨⟨a1, a2, Aq, cq, q⟩, hk⟩ : ∃ a, xs[k]? = some a := ⟨_, List.getElem?_eq_getElem (by omega)⟩
          have hxm := List.mem_of_getElem? hk
          have hrq : RdB _ 0 w.heap.size Aq cq q := (hQ _ hxm).2.ext hE
          have ha2 := (hQ _ hxm).1
          simp only at ha2
          have hq100 : q.length ≤ 100 := hfew.2 _ hxm
          have hxl := hfew.1
          refine q_skip ?_
          refine k_then ?_
          refine wc_seq ?_
          refine wc_block ?_
          refine wc_seq ?_
          refine wc_regionL ?_
          refine wl_val (ov_move rfl) rfl rfl rfl ?_
          refine wl_val (ov_move rfl) rfl rfl rfl ?_
          refine wl_step (or_rindex (m := (k)) sl39 rfl rfl hrx (fun _ _ => rfl) hk) rfl rfl rfl ?_
          rintro v _ ⟨rfl, p50, rfl, hp50, hpl50, hph50⟩
          refine wl_val (ov_loadAgg (cs := [(.int .i64 a1), (.int .i64 a2), (.slice Aq q.length cq)]) ag42_3 rfl rfl hp50) rfl rfl rfl ?_
          refine wl_step (or_alloc (cs := [(.int .i64 0), (.int .i64 0), (.slice none 0 0)]) ze42 rfl) rfl rfl rfl ?_
          rintro v w203 ⟨g10, rfl, hb_g10, he10, hl10, hu10⟩
          replace ho7 := Own.ext ho7 he10
          replace hbuf := hbuf.ext he10
          replace hrx := hrx.ext he10
          replace hE := hE.tr he10
          replace hrq := hrq.ext he10
          have hz_he10 := he10.size
          refine wl_step0 (or_storeBlk (vs := [(.int .i64 a1), (.int .i64 a2), (.slice Aq q.length cq)]) sz42 rfl rfl (by simp [Value.oneCell']) hb_g10 rfl) rfl rfl ?_
          rintro _ w204 ⟨hN204, hg204⟩
          have hz_hg204 := hg204.size
          replace ho7 := Own.gr ho7 hg204 (by first | exact .inl rfl | (right; intro e; first | (have := hq_ho7 _ e; omega) | (have := Own.lt ho7 e; omega) | exact own_blk_ne ho7 hb_g10 (by decide) e))
          replace hbuf := hbuf.gr hg204 (fun x e => by cases e; omega) (fun x e e2 => by cases e; have := hDs _ e2; omega)
          replace hrx := hrx.gr hg204 (fun _ e => by cases e; omega)
          replace hE := hE.gr hg204 (fun _ e => by cases e; omega)
          replace hrq := hrq.gr hg204 (fun _ e => by cases e; omega)
          replace hb_g10 := hN204
          refine q_nil ?_
          refine k_then ?_
          refine wc_seq ?_
          refine wc_seq ?_
          refine wc_regionL ?_
          refine wl_val (ov_field0 (off := 0) fo42_0 rfl) rfl rfl rfl ?_
          refine wl_val (ov_loadAt oc3 rfl hb_g10 rfl) rfl rfl rfl ?_
          refine q_nil ?_
          refine k_then ?_
          refine wc_cutQ (σ := List UInt8 × Nat × Option Addr × Nat × Option Nat) (J := fun s w' => s.1.length ≤ 100 * (k + 1) ∧ s.2.1 ≤ s.1.length ∧ OwnB w' w.heap.size 5 s.2.2.1 s.2.2.2.1 s.1 ∧ Buf w' w.heap.size gn33 s.2.2.2.2 m (s.1.drop s.2.1) s.1.length s.2.1 ∧ (∀ x, blk s.2.2.1 = some x → x ≠ gn33 ∧ s.2.2.2.2 ≠ some x) ∧ RdR w' lox w.heap.size 3 act27c C cx xs ∧ Ext w w') (Lj := fun s => [(0, .int .i64 (m : Int)), (1, .slice C xs.length cx), (5, .pointer (some ⟨gn33, 0, none⟩)), (7, .slice s.2.2.1 s.1.length s.2.2.2.1), (8, .int .i64 (s.2.1 : Int)), (9, .int .i64 (k : Int))]) ?_ ?_
          · refine wc_block ?_
            refine wc_seq ?_
            refine wc_regionL ?_
            refine wl_val (ov_eql rfl rfl) rfl rfl rfl ?_
            refine wl_val (ov_assign rfl) rfl rfl rfl ?_
            refine q_nil ?_
            refine k_then ?_
            refine wc_cond_d rfl (fun hc4 => ?_) (fun hc4 => ?_)
            · refine wc_seq ?_
              refine wc_regionL ?_
              refine wl_val (ov_move rfl) rfl rfl rfl ?_
              refine wl_val (ov_field0 (off := 2) fo42_2 rfl) rfl rfl rfl ?_
              refine wl_val (ov_loadAt oc26 rfl hb_g10 rfl) rfl rfl rfl ?_
              refine wl_step (or_call0 cl18 rfl rfl (bput_ok _ w.heap.size gn33 D m (ins.drop out) ins.length out hbuf _ _ _ _ q hrq (by omega) (fun x e => by have := hDs x e; omega) (by omega) (by omega))) rfl rfl rfl ?_
              rintro v w205 ⟨rfl, ⟨D60, hb60, hN60⟩, hC60⟩
              have hDa60 : ∀ x, D = some x → (w.heap.size ≤ x ∧ x < wq.heap.size) ∧ x < w204.heap.size := fun x e => ⟨hDs x e, (hbuf.lt.2 x e).2⟩
              have hz_hC60 := hC60.size
              replace ho7 := hC60.own ho7 (fun x e => by first | exact ⟨by have := hq_ho7 x e; omega, fun e2 => by have h1 := hq_ho7 x e; have h2 := hDa60 x e2; omega⟩ | exact hsep x e)
              replace hrx := hC60.rd hrx (by omega) (fun x e => by have := hDa60 x e; omega)
              replace hE := hC60.e0 hE (by omega) (fun x e => by have := hDa60 x e; omega)
              replace hrq := hC60.rd hrq (by omega) (fun x e => by have := hDa60 x e; omega)
              replace hb_g10 := hC60.bk hb_g10 (by omega) (fun e2 => by have := hDa60 _ e2; omega)
              have hDs60 : ∀ x, D60 = some x → ((w.heap.size ≤ x ∧ x < wq.heap.size) ∨ w204.heap.size ≤ x) ∧ x < w205.heap.size := fun x e => ⟨(hN60 x e).imp (fun h => hDs x h) id, (hb60.lt.2 x e).2⟩
              have hzb60 := hb60.lt.1
              have hcp60 := hb60.cap
              replace hsep : ∀ x, blk A7 = some x → x ≠ gn33 ∧ D60 ≠ some x := fun x e => ⟨(hsep x e).1, fun e2 => (hN60 x e2).elim (hsep x e).2 (fun h => by have := hq_ho7 x e; omega)⟩
              have hl60 : (ins.drop out ++ q.take (min q.length (m - (ins.drop out).length))).length = ins.length - out + (min q.length (m - (ins.drop out).length)) := by simp only [List.length_append, List.length_drop, List.length_take]; omega
              refine wl_val (ov_move rfl) rfl rfl rfl ?_
              refine wl_val (ov_extract rfl rfl) rfl rfl rfl ?_
              refine wl_val (ov_extract rfl rfl) rfl rfl rfl ?_
              refine wl_val (ov_assign rfl) rfl rfl rfl ?_
              refine wl_val (ov_assign rfl) rfl rfl rfl ?_
              refine q_nil ?_
              refine k_then ?_
              refine wc_seq ?_
              refine wc_seq ?_
              refine wc_regionL ?_
              refine wl_val (ov_move rfl) rfl rfl rfl ?_
              refine wl_val (ov_neq rfl rfl) rfl rfl rfl ?_
              refine wl_val (ov_move rfl) rfl rfl rfl ?_
              refine wl_gval (ov_move rfl) rfl rfl rfl rfl rfl ?_
              refine wl_gval (ov_lss rfl rfl) rfl rfl rfl rfl rfl ?_
              refine wl_spell (d := 67) rfl (bf (by omega)) ?_
              refine wl_val (ov_pick_f rfl rfl) rfl rfl rfl ?_
              refine wl_val (ov_move rfl) rfl rfl rfl ?_
              refine wl_gval (ov_move rfl) rfl rfl rfl rfl rfl ?_
              refine wl_gval (ov_field0 (off := 2) fo42_2 rfl) rfl rfl rfl rfl rfl ?_
              refine wl_gval (ov_loadAt oc26 rfl hb_g10 rfl) rfl rfl rfl rfl rfl ?_
              refine wl_gval (ov_len Try.underlying26 rfl) rfl rfl rfl rfl rfl ?_
              refine wl_gval (ov_gtr rfl rfl) rfl rfl rfl rfl rfl ?_
              refine wl_spell (d := 74) rfl (bf (by omega)) ?_
              refine wl_val (ov_pick_f rfl rfl) rfl rfl rfl ?_
              refine wl_val (ov_move rfl) rfl rfl rfl ?_
              refine wl_gval (ov_move rfl) rfl rfl rfl rfl rfl ?_
              refine wl_gval (ov_field0 (off := 2) fo42_2 rfl) rfl rfl rfl rfl rfl ?_
              refine wl_gval (ov_loadAt oc26 rfl hb_g10 rfl) rfl rfl rfl rfl rfl ?_
              refine wl_gval (ov_len Try.underlying26 rfl) rfl rfl rfl rfl rfl ?_
              refine wl_gval (ov_lss rfl rfl) rfl rfl rfl rfl rfl ?_
              refine wl_case_d (d := 81) rfl (fun h81 => ?_) (fun h81 => ?_)
              · refine wl_gval (ov_move rfl) rfl rfl rfl rfl rfl ?_
                refine wl_gval (ov_move rfl) rfl rfl rfl rfl rfl ?_
                refine wl_gstep (or_call0 cl19 rfl rfl (broom_ok _ _ _ _ _ _ _ _ hb60)) rfl rfl rfl rfl rfl ?_
                rintro v w206 ⟨rfl, he84⟩
                replace ho7 := Own.ext ho7 he84
                replace hrx := hrx.ext he84
                replace hE := hE.tr he84
                replace hrq := hrq.ext he84
                replace hb_g10 := hb_g10.ext he84
                replace hb60 := hb60.ext he84
                have hz_he84 := he84.size
                refine wl_gval (ov_neq rfl rfl) rfl rfl rfl rfl rfl ?_
                refine wl_spell (d := 85) rfl (bf (by simp; omega)) ?_
                refine wl_gval (ov_pick_t rfl rfl) rfl rfl rfl rfl rfl ?_
                refine wl_val (ov_pick_f rfl rfl) rfl rfl rfl ?_
                refine q_nil ?_
                refine k_then ?_
                refine wc_cond_f rfl ?_
                refine q_skip ?_
                refine k_then ?_
                refine wc_regionL ?_
                refine wl_val (ov_move rfl) rfl rfl rfl ?_
                refine wl_val (ov_field0 (off := 2) fo42_2 rfl) rfl rfl rfl ?_
                refine wl_val (ov_loadAt oc26 rfl hb_g10 rfl) rfl rfl rfl ?_
                refine wl_val (ov_move rfl) rfl rfl rfl ?_
                have hcap92 := RdB.cap hrq
                refine wl_step (or_bslice bt26 rfl hrq (bounds_h rfl (by omega) (by omega)) (by omega) (by omega) (by omega) (by omega)) rfl rfl rfl ?_
                rintro v _ ⟨rfl, A92, c92, rfl, hr92, hl92⟩
                have hs92 : (q.drop 0).take ((Int.toNat ((min q.length (m - (ins.drop out).length) : Nat) : Int)) - 0) = (q.take (min q.length (m - (ins.drop out).length))) := (by rw [List.drop_zero, Nat.sub_zero, Int.toNat_natCast])
                rw [hs92] at hr92 hl92; rw [hs92]; clear hs92
                have htk : (q.take (min q.length (m - (ins.drop out).length))).length = (min q.length (m - (ins.drop out).length)) := by simp only [List.length_append, List.length_drop, List.length_take]; omega
                refine wl_step (or_bappend bt26 rfl ho7 rfl hr92 (by omega) (by omega)) rfl rfl rfl ?_
                rintro v w207 ⟨A93, c93, rfl, ho93, hg93, ha93⟩
                have hq93 := fun g e => Own.lt ho7 (g := g) e
                have hz_hg93 := hg93.size
                replace hrx := hrx.gr hg93 (fun g e => by have := hq93 g e; omega)
                replace hE := hE.gr hg93 (fun g e => by have := hq93 g e; omega)
                replace hrq := hrq.gr hg93 (fun g e => by have := hq93 g e; omega)
                replace hb_g10 := hb_g10.gr hg93 (by first | (intro e; have := hq93 _ e; omega) | exact own_blk_ne ho7 hb_g10 (by decide))
                replace hb60 := by first | exact hb60.gr hg93 (fun x e => by have := hq93 x e; omega) (fun x e e2 => by have h1 := hq93 x e; have h2 := hDs60 x e2; omega) | exact hb60.gr hg93 (fun x e => (hsep x e).1) (fun x e => (hsep x e).2)
                replace hr92 := hr92.gr hg93 (fun g e => by have := hq93 g e; omega)
                have hq_ho93 := fun g e => Own.lt ho93 (g := g) e
                replace hsep : ∀ x, blk A93 = some x → x ≠ gn33 ∧ D60 ≠ some x := fun x e => ha93.elim (fun h => hsep x (h ▸ e)) (fun h => by rw [h] at e; cases e; exact ⟨by omega, fun e2 => by have := hDs60 _ e2; omega⟩)
                refine wl_val (ov_assign rfl) rfl rfl rfl ?_
                refine q_nil ?_
                refine k_block ?_
                refine k_cut ((ins ++ q.take (min q.length (m - (ins.drop out).length)), out, A93, c93, D60)) (⟨rfl, rfl, rfl, rfl, rfl, rfl, trivial⟩) (⟨by first | (simp; done) | (simp; omega) | (dsimp only; omega), by first | (simp; done) | (simp; omega) | (dsimp only; omega), ho93, by show Buf _ _ _ D60 m ((ins ++ q.take (min q.length (m - (ins.drop out).length))).drop out) (ins ++ q.take (min q.length (m - (ins.drop out).length))).length out; rw [List.drop_append_of_le_length (by omega), List.length_append]; rw [show (q.take (min q.length (m - (ins.drop out).length))).length = (min q.length (m - (ins.drop out).length)) by simp only [List.length_append, List.length_drop, List.length_take]; omega]; exact hb60, hsep, hrx, hE⟩)
              · refine wl_gval (ov_move rfl) rfl rfl rfl rfl rfl ?_
                refine wl_gskip rfl rfl rfl rfl rfl rfl ?_
                refine wl_gskip rfl rfl rfl rfl rfl rfl ?_
                refine wl_gskip rfl rfl rfl rfl rfl rfl ?_
                refine wl_gval (ov_pick_f rfl rfl) rfl rfl rfl rfl rfl ?_
                refine wl_val (ov_pick_f rfl rfl) rfl rfl rfl ?_
                refine q_nil ?_
                refine k_then ?_
                refine wc_cond_f rfl ?_
                refine q_skip ?_
                refine k_then ?_
                refine wc_regionL ?_
                refine wl_val (ov_move rfl) rfl rfl rfl ?_
                refine wl_val (ov_field0 (off := 2) fo42_2 rfl) rfl rfl rfl ?_
                refine wl_val (ov_loadAt oc26 rfl hb_g10 rfl) rfl rfl rfl ?_
                refine wl_val (ov_move rfl) rfl rfl rfl ?_
                have hcap92 := RdB.cap hrq
                refine wl_step (or_bslice bt26 rfl hrq (bounds_h rfl (by omega) (by omega)) (by omega) (by omega) (by omega) (by omega)) rfl rfl rfl ?_
                rintro v _ ⟨rfl, A92, c92, rfl, hr92, hl92⟩
                have hs92 : (q.drop 0).take ((Int.toNat ((min q.length (m - (ins.drop out).length) : Nat) : Int)) - 0) = (q.take (min q.length (m - (ins.drop out).length))) := (by rw [List.drop_zero, Nat.sub_zero, Int.toNat_natCast])
                rw [hs92] at hr92 hl92; rw [hs92]; clear hs92
                have htk : (q.take (min q.length (m - (ins.drop out).length))).length = (min q.length (m - (ins.drop out).length)) := by simp only [List.length_append, List.length_drop, List.length_take]; omega
                refine wl_step (or_bappend bt26 rfl ho7 rfl hr92 (by omega) (by omega)) rfl rfl rfl ?_
                rintro v w206 ⟨A93, c93, rfl, ho93, hg93, ha93⟩
                have hq93 := fun g e => Own.lt ho7 (g := g) e
                have hz_hg93 := hg93.size
                replace hrx := hrx.gr hg93 (fun g e => by have := hq93 g e; omega)
                replace hE := hE.gr hg93 (fun g e => by have := hq93 g e; omega)
                replace hrq := hrq.gr hg93 (fun g e => by have := hq93 g e; omega)
                replace hb_g10 := hb_g10.gr hg93 (by first | (intro e; have := hq93 _ e; omega) | exact own_blk_ne ho7 hb_g10 (by decide))
                replace hb60 := by first | exact hb60.gr hg93 (fun x e => by have := hq93 x e; omega) (fun x e e2 => by have h1 := hq93 x e; have h2 := hDs60 x e2; omega) | exact hb60.gr hg93 (fun x e => (hsep x e).1) (fun x e => (hsep x e).2)
                replace hr92 := hr92.gr hg93 (fun g e => by have := hq93 g e; omega)
                have hq_ho93 := fun g e => Own.lt ho93 (g := g) e
                replace hsep : ∀ x, blk A93 = some x → x ≠ gn33 ∧ D60 ≠ some x := fun x e => ha93.elim (fun h => hsep x (h ▸ e)) (fun h => by rw [h] at e; cases e; exact ⟨by omega, fun e2 => by have := hDs60 _ e2; omega⟩)
                refine wl_val (ov_assign rfl) rfl rfl rfl ?_
                refine q_nil ?_
                refine k_block ?_
                refine k_cut ((ins ++ q.take (min q.length (m - (ins.drop out).length)), out, A93, c93, D60)) (⟨rfl, rfl, rfl, rfl, rfl, rfl, trivial⟩) (⟨by first | (simp; done) | (simp; omega) | (dsimp only; omega), by first | (simp; done) | (simp; omega) | (dsimp only; omega), ho93, by show Buf _ _ _ D60 m ((ins ++ q.take (min q.length (m - (ins.drop out).length))).drop out) (ins ++ q.take (min q.length (m - (ins.drop out).length))).length out; rw [List.drop_append_of_le_length (by omega), List.length_append]; rw [show (q.take (min q.length (m - (ins.drop out).length))).length = (min q.length (m - (ins.drop out).length)) by simp only [List.length_append, List.length_drop, List.length_take]; omega]; exact hb60, hsep, hrx, hE⟩)
            · refine wc_seq ?_
              refine wc_regionL ?_
              refine wl_val (ov_eql rfl rfl) rfl rfl rfl ?_
              refine wl_val (ov_assign rfl) rfl rfl rfl ?_
              refine q_nil ?_
              refine k_then ?_
              refine wc_cond_d rfl (fun hc6 => ?_) (fun hc6 => ?_)
              · by_cases hfit : m - (ins.drop out).length < q.length
                · refine wc_seq ?_
                  refine wc_regionL ?_
                  refine wl_val (ov_move rfl) rfl rfl rfl ?_
                  refine wl_step (or_call0 cl19 rfl rfl (broom_ok _ _ _ _ _ _ _ _ hbuf)) rfl rfl rfl ?_
                  rintro v w205 ⟨rfl, he97⟩
                  replace ho7 := Own.ext ho7 he97
                  replace hbuf := hbuf.ext he97
                  replace hrx := hrx.ext he97
                  replace hE := hE.tr he97
                  replace hrq := hrq.ext he97
                  replace hb_g10 := hb_g10.ext he97
                  have hz_he97 := he97.size
                  refine wl_val (ov_assign rfl) rfl rfl rfl ?_
                  refine q_nil ?_
                  refine k_then ?_
                  refine wc_seq ?_
                  refine wc_regionL ?_
                  refine wl_val (ov_move rfl) rfl rfl rfl ?_
                  refine wl_val (ov_field0 (off := 2) fo42_2 rfl) rfl rfl rfl ?_
                  refine wl_val (ov_loadAt oc26 rfl hb_g10 rfl) rfl rfl rfl ?_
                  refine wl_step (or_call0 cl17 rfl rfl (bputall_ok _ w.heap.size gn33 D m (ins.drop out) ins.length out hbuf _ _ _ _ q hrq (by omega) (fun x e => by have := hDs x e; omega) (by omega) (by omega))) rfl rfl rfl ?_
                  rintro v w206 ⟨rfl, ⟨D101, hb101, hN101⟩, hC101⟩
                  have hDa101 : ∀ x, D = some x → (w.heap.size ≤ x ∧ x < wq.heap.size) ∧ x < w205.heap.size := fun x e => ⟨hDs x e, (hbuf.lt.2 x e).2⟩
                  have hz_hC101 := hC101.size
                  replace ho7 := hC101.own ho7 (fun x e => by first | exact ⟨by have := hq_ho7 x e; omega, fun e2 => by have h1 := hq_ho7 x e; have h2 := hDa101 x e2; omega⟩ | exact hsep x e)
                  replace hrx := hC101.rd hrx (by omega) (fun x e => by have := hDa101 x e; omega)
                  replace hE := hC101.e0 hE (by omega) (fun x e => by have := hDa101 x e; omega)
                  replace hrq := hC101.rd hrq (by omega) (fun x e => by have := hDa101 x e; omega)
                  replace hb_g10 := hC101.bk hb_g10 (by omega) (fun e2 => by have := hDa101 _ e2; omega)
                  rw [bal_full hfit] at hb101
                  replace hb101 : Buf _ w.heap.size gn33 D101 m (ins.drop out) ins.length out := hb101
                  have hDs101 : ∀ x, D101 = some x → ((w.heap.size ≤ x ∧ x < wq.heap.size) ∨ w205.heap.size ≤ x) ∧ x < w206.heap.size := fun x e => ⟨(hN101 x e).imp (fun h => hDs x h) id, (hb101.lt.2 x e).2⟩
                  have hzb101 := hb101.lt.1
                  have hcp101 := hb101.cap
                  replace hsep : ∀ x, blk A7 = some x → x ≠ gn33 ∧ D101 ≠ some x := fun x e => ⟨(hsep x e).1, fun e2 => (hN101 x e2).elim (hsep x e).2 (fun h => by have := hq_ho7 x e; omega)⟩
                  refine wl_spell (d := 101) rfl (v' := .int .i64 7) (by rw [bal_full hfit]; rfl) ?_
                  refine wl_val (ov_assign rfl) rfl rfl rfl ?_
                  refine q_nil ?_
                  refine k_then ?_
                  refine wc_seq ?_
                  refine wc_seq ?_
                  refine wc_regionL ?_
                  refine wl_val (ov_move rfl) rfl rfl rfl ?_
                  refine wl_val (ov_eql rfl rfl) rfl rfl rfl ?_
                  refine wl_val (ov_field0 (off := 2) fo42_2 rfl) rfl rfl rfl ?_
                  refine wl_val (ov_loadAt oc26 rfl hb_g10 rfl) rfl rfl rfl ?_
                  refine wl_val (ov_len Try.underlying26 rfl) rfl rfl rfl ?_
                  refine wl_val (ov_move rfl) rfl rfl rfl ?_
                  refine wl_val (ov_leq rfl rfl) rfl rfl rfl ?_
                  refine wl_spell (d := 108) rfl (bf (by omega)) ?_
                  refine wl_val (ov_neb Try.underlying4 rfl rfl) rfl rfl rfl ?_
                  refine wl_spell (d := 109) rfl (v' := (.bool false)) (rfl) ?_
                  refine q_nil ?_
                  refine k_then ?_
                  refine wc_cond_f rfl ?_
                  refine q_skip ?_
                  refine k_then ?_
                  refine wc_seq ?_
                  refine wc_regionL ?_
                  refine wl_val (ov_move rfl) rfl rfl rfl ?_
                  refine wl_val (ov_eql rfl rfl) rfl rfl rfl ?_
                  refine q_nil ?_
                  refine k_then ?_
                  refine wc_cond_f rfl ?_
                  refine q_skip ?_
                  refine k_block ?_
                  refine k_cut ((ins, out, A7, c7, D101)) (⟨rfl, rfl, rfl, rfl, rfl, rfl, trivial⟩) (⟨by first | (simp; done) | (simp; omega) | (dsimp only; omega), by first | (simp; done) | (simp; omega) | (dsimp only; omega), ho7, hb101, hsep, hrx, hE⟩)
                · refine wc_seq ?_
                  refine wc_regionL ?_
                  refine wl_val (ov_move rfl) rfl rfl rfl ?_
                  refine wl_step (or_call0 cl19 rfl rfl (broom_ok _ _ _ _ _ _ _ _ hbuf)) rfl rfl rfl ?_
                  rintro v w205 ⟨rfl, he97⟩
                  replace ho7 := Own.ext ho7 he97
                  replace hbuf := hbuf.ext he97
                  replace hrx := hrx.ext he97
                  replace hE := hE.tr he97
                  replace hrq := hrq.ext he97
                  replace hb_g10 := hb_g10.ext he97
                  have hz_he97 := he97.size
                  refine wl_val (ov_assign rfl) rfl rfl rfl ?_
                  refine q_nil ?_
                  refine k_then ?_
                  refine wc_seq ?_
                  refine wc_regionL ?_
                  refine wl_val (ov_move rfl) rfl rfl rfl ?_
                  refine wl_val (ov_field0 (off := 2) fo42_2 rfl) rfl rfl rfl ?_
                  refine wl_val (ov_loadAt oc26 rfl hb_g10 rfl) rfl rfl rfl ?_
                  refine wl_step (or_call0 cl17 rfl rfl (bputall_ok _ w.heap.size gn33 D m (ins.drop out) ins.length out hbuf _ _ _ _ q hrq (by omega) (fun x e => by have := hDs x e; omega) (by omega) (by omega))) rfl rfl rfl ?_
                  rintro v w206 ⟨rfl, ⟨D101, hb101, hN101⟩, hC101⟩
                  have hDa101 : ∀ x, D = some x → (w.heap.size ≤ x ∧ x < wq.heap.size) ∧ x < w205.heap.size := fun x e => ⟨hDs x e, (hbuf.lt.2 x e).2⟩
                  have hz_hC101 := hC101.size
                  replace ho7 := hC101.own ho7 (fun x e => by first | exact ⟨by have := hq_ho7 x e; omega, fun e2 => by have h1 := hq_ho7 x e; have h2 := hDa101 x e2; omega⟩ | exact hsep x e)
                  replace hrx := hC101.rd hrx (by omega) (fun x e => by have := hDa101 x e; omega)
                  replace hE := hC101.e0 hE (by omega) (fun x e => by have := hDa101 x e; omega)
                  replace hrq := hC101.rd hrq (by omega) (fun x e => by have := hDa101 x e; omega)
                  replace hb_g10 := hC101.bk hb_g10 (by omega) (fun e2 => by have := hDa101 _ e2; omega)
                  rw [bal_ok hfit] at hb101
                  replace hb101 : Buf _ w.heap.size gn33 D101 m (ins.drop out ++ q) (ins.length + q.length) out := hb101
                  have hDs101 : ∀ x, D101 = some x → ((w.heap.size ≤ x ∧ x < wq.heap.size) ∨ w205.heap.size ≤ x) ∧ x < w206.heap.size := fun x e => ⟨(hN101 x e).imp (fun h => hDs x h) id, (hb101.lt.2 x e).2⟩
                  have hzb101 := hb101.lt.1
                  have hcp101 := hb101.cap
                  replace hsep : ∀ x, blk A7 = some x → x ≠ gn33 ∧ D101 ≠ some x := fun x e => ⟨(hsep x e).1, fun e2 => (hN101 x e2).elim (hsep x e).2 (fun h => by have := hq_ho7 x e; omega)⟩
                  refine wl_spell (d := 101) rfl (v' := .int .i64 0) (by rw [bal_ok hfit]; rfl) ?_
                  refine wl_val (ov_assign rfl) rfl rfl rfl ?_
                  refine q_nil ?_
                  refine k_then ?_
                  refine wc_seq ?_
                  refine wc_seq ?_
                  refine wc_regionL ?_
                  refine wl_val (ov_move rfl) rfl rfl rfl ?_
                  refine wl_val (ov_eql rfl rfl) rfl rfl rfl ?_
                  refine wl_val (ov_field0 (off := 2) fo42_2 rfl) rfl rfl rfl ?_
                  refine wl_val (ov_loadAt oc26 rfl hb_g10 rfl) rfl rfl rfl ?_
                  refine wl_val (ov_len Try.underlying26 rfl) rfl rfl rfl ?_
                  refine wl_val (ov_move rfl) rfl rfl rfl ?_
                  refine wl_val (ov_leq rfl rfl) rfl rfl rfl ?_
                  refine wl_spell (d := 108) rfl (bt (by omega)) ?_
                  refine wl_val (ov_neb Try.underlying4 rfl rfl) rfl rfl rfl ?_
                  refine wl_spell (d := 109) rfl (v' := (.bool false)) (rfl) ?_
                  refine q_nil ?_
                  refine k_then ?_
                  refine wc_cond_f rfl ?_
                  refine q_skip ?_
                  refine k_then ?_
                  refine wc_seq ?_
                  refine wc_regionL ?_
                  refine wl_val (ov_move rfl) rfl rfl rfl ?_
                  refine wl_val (ov_eql rfl rfl) rfl rfl rfl ?_
                  refine q_nil ?_
                  refine k_then ?_
                  refine wc_cond_t rfl ?_
                  refine wc_regionL ?_
                  refine wl_val (ov_move rfl) rfl rfl rfl ?_
                  refine wl_val (ov_field0 (off := 2) fo42_2 rfl) rfl rfl rfl ?_
                  refine wl_val (ov_loadAt oc26 rfl hb_g10 rfl) rfl rfl rfl ?_
                  refine wl_step (or_bappend bt26 rfl ho7 rfl hrq (by omega) (by omega)) rfl rfl rfl ?_
                  rintro v w207 ⟨A115, c115, rfl, ho115, hg115, ha115⟩
                  have hq115 := fun g e => Own.lt ho7 (g := g) e
                  have hz_hg115 := hg115.size
                  replace hrx := hrx.gr hg115 (fun g e => by have := hq115 g e; omega)
                  replace hE := hE.gr hg115 (fun g e => by have := hq115 g e; omega)
                  replace hrq := hrq.gr hg115 (fun g e => by have := hq115 g e; omega)
                  replace hb_g10 := hb_g10.gr hg115 (by first | (intro e; have := hq115 _ e; omega) | exact own_blk_ne ho7 hb_g10 (by decide))
                  replace hb101 := by first | exact hb101.gr hg115 (fun x e => by have := hq115 x e; omega) (fun x e e2 => by have h1 := hq115 x e; have h2 := hDs101 x e2; omega) | exact hb101.gr hg115 (fun x e => (hsep x e).1) (fun x e => (hsep x e).2)
                  have hq_ho115 := fun g e => Own.lt ho115 (g := g) e
                  replace hsep : ∀ x, blk A115 = some x → x ≠ gn33 ∧ D101 ≠ some x := fun x e => ha115.elim (fun h => hsep x (h ▸ e)) (fun h => by rw [h] at e; cases e; exact ⟨by omega, fun e2 => by have := hDs101 _ e2; omega⟩)
                  refine wl_val (ov_assign rfl) rfl rfl rfl ?_
                  refine q_nil ?_
                  refine k_block ?_
                  refine k_cut ((ins ++ q, out, A115, c115, D101)) (⟨rfl, rfl, rfl, rfl, rfl, rfl, trivial⟩) (⟨by first | (simp; done) | (simp; omega) | (dsimp only; omega), by first | (simp; done) | (simp; omega) | (dsimp only; omega), ho115, by show Buf _ _ _ D101 m ((ins ++ q).drop out) (ins ++ q).length out; rw [List.drop_append_of_le_length (by omega), List.length_append]; exact hb101, hsep, hrx, hE⟩)
              · refine wc_seq ?_
                refine wc_regionL ?_
                refine wl_val (ov_eql rfl rfl) rfl rfl rfl ?_
                refine wl_val (ov_assign rfl) rfl rfl rfl ?_
                refine q_nil ?_
                refine k_then ?_
                refine wc_cond_d rfl (fun hc9 => ?_) (fun hc9 => ?_)
                · by_cases hn : a2 < 0
                  · refine wc_seq ?_
                    refine wc_regionL ?_
                    refine wl_val (ov_move rfl) rfl rfl rfl ?_
                    refine wl_val (ov_field0 (off := 1) fo42_1 rfl) rfl rfl rfl ?_
                    refine wl_val (ov_loadAt oc3 rfl hb_g10 rfl) rfl rfl rfl ?_
                    refine wl_step (or_call0 cl22 rfl rfl (btake_ok _ w.heap.size gn33 D m (ins.drop out) ins.length out hbuf a2 (by omega) (by omega) (by omega) (by omega))) rfl rfl rfl ?_
                    rintro v w205 ⟨A122, c122, rfl, ho122, hb122, hC122⟩
                    have hDa122 : ∀ x, D = some x → (w.heap.size ≤ x ∧ x < wq.heap.size) ∧ x < w204.heap.size := fun x e => ⟨hDs x e, (hbuf.lt.2 x e).2⟩
                    have hz_hC122 := hC122.size
                    replace ho7 := hC122.own ho7 (fun x e => by first | exact ⟨by have := hq_ho7 x e; omega, fun e2 => by have h1 := hq_ho7 x e; have h2 := hDa122 x e2; omega⟩ | exact hsep x e)
                    replace hrx := hC122.rd hrx (by omega) (fun x e => by have := hDa122 x e; omega)
                    replace hE := hC122.e0 hE (by omega) (fun x e => by have := hDa122 x e; omega)
                    replace hrq := hC122.rd hrq (by omega) (fun x e => by have := hDa122 x e; omega)
                    replace hb_g10 := hC122.bk hb_g10 (by omega) (fun e2 => by have := hDa122 _ e2; omega)
                    rw [bpk_neg hn] at hb122
                    replace hb122 : Buf _ w.heap.size gn33 D m (ins.drop out) ins.length out := hb122
                    have hzb122 := hb122.lt.1
                    have hcp122 := hb122.cap
                    have hq_ho122 := fun g e => Own.lt ho122 (g := g) e
                    rw [bpk_neg hn] at ho122
                    have hyl : ([] : List UInt8).length = 0 := rfl
                    refine wl_spell (d := 122) rfl (v' := .tuple #[.slice A122 ([] : List UInt8).length c122, .int .i64 2]) (by rw [bpk_neg hn]; rfl) ?_
                    refine wl_val (ov_move rfl) rfl rfl rfl ?_
                    refine wl_val (ov_extract rfl rfl) rfl rfl rfl ?_
                    refine wl_val (ov_extract rfl rfl) rfl rfl rfl ?_
                    refine wl_val (ov_assign rfl) rfl rfl rfl ?_
                    refine wl_val (ov_assign rfl) rfl rfl rfl ?_
                    refine q_nil ?_
                    refine k_then ?_
                    refine wc_seq ?_
                    refine wc_seq ?_
                    refine wc_draw mixed 26 [(125, eqv (.int .i64 2)), (126, eqv (.bool false)), (127, eqv (.pointer (some ⟨g10, 1, none⟩))), (128, eqv (.int .i64 a2)), (129, eqv (.bool false)), (130, eqv (.bool false)), (131, eqv (.bool false)), (132, eqv (.slice A122 ([] : List UInt8).length c122)), (133, eqv (.int .i64 (↑([] : List UInt8).length : Int))), (134, eqv (.slice A7 ins.length c7)), (135, eqv (.int .i64 (↑ins.length : Int))), (136, eqv (.int .i64 (↑out : Int))), (137, eqv (.int .i64 ((↑ins.length : Int) - (↑out : Int)))), (138, eqv (.bool false)), (139, eqv (.bool false)), (140, eqv (.bool false)), (141, eqv (.slice A122 ([] : List UInt8).length c122)), (142, eqv (.string (strB ([] : List UInt8)))), (143, eqv (.slice A7 ins.length c7)), (144, eqv (.int .i64 (↑out : Int))), (145, eqv (.int .i64 (↑out : Int))), (146, eqv (.slice A122 ([] : List UInt8).length c122)), (147, eqv (.int .i64 (↑([] : List UInt8).length : Int))), (148, eqv (.int .i64 ((↑out : Int) + (↑([] : List UInt8).length : Int)))), (149, isB 0 ([] : List UInt8)), (150, eqv (.string (strB ([] : List UInt8))))] [[], [0], [], [2], [3], [1, 4], [5], [6], [6, 7], [6], [6, 9], [6], [6, 10, 11], [6, 8, 12], [6, 13], [14], [15], [15, 16], [15], [15], [15], [15], [15, 21], [15, 20, 22], [15, 18, 19, 23], [15, 24]] _ [] [] (fun _ _ h => h) trivial (by kernel_rfl) rfl ⟨stb_eqv _, stb_eqv _, stb_eqv _, stb_eqv _, stb_eqv _, stb_eqv _, stb_eqv _, stb_eqv _, stb_eqv _, stb_eqv _, stb_eqv _, stb_eqv _, stb_eqv _, stb_eqv _, stb_eqv _, stb_eqv _, stb_eqv _, stb_eqv _, stb_eqv _, stb_eqv _, stb_eqv _, stb_eqv _, stb_eqv _, stb_eqv _, stb_isB _ _, stb_eqv _, trivial⟩ ⟨?_, ?_, ?_, ?_, ?_, ?_, ?_, ?_, ?_, ?_, ?_, ?_, ?_, ?_, ?_, ?_, ?_, ?_, ?_, ?_, ?_, ?_, ?_, ?_, ?_, ?_, trivial⟩ ?_
                    · intro wd hxE
                      replace ho7 := Own.ext ho7 hxE
                      replace hrx := hrx.ext hxE
                      replace hE := hE.tr hxE
                      replace hrq := hrq.ext hxE
                      replace hb_g10 := hb_g10.ext hxE
                      replace hb122 := hb122.ext hxE
                      replace ho122 := Own.ext ho122 hxE
                      have hz_hxE := hxE.size
                      show OpG _ _ _ _ _ _
                      exact og_plain rfl (ox_val (ov_move rfl))
                    · intro wd hxE
                      replace ho7 := Own.ext ho7 hxE
                      replace hrx := hrx.ext hxE
                      replace hE := hE.tr hxE
                      replace hrq := hrq.ext hxE
                      replace hb_g10 := hb_g10.ext hxE
                      replace hb122 := hb122.ext hxE
                      replace ho122 := Own.ext ho122 hxE
                      have hz_hxE := hxE.size
                      rintro _ rfl
                      show OpG _ _ _ _ _ _
                      exact og_plain rfl (ox_F (by decide) (ov_eql rfl rfl))
                    · intro wd hxE
                      replace ho7 := Own.ext ho7 hxE
                      replace hrx := hrx.ext hxE
                      replace hE := hE.tr hxE
                      replace hrq := hrq.ext hxE
                      replace hb_g10 := hb_g10.ext hxE
                      replace hb122 := hb122.ext hxE
                      replace ho122 := Own.ext ho122 hxE
                      have hz_hxE := hxE.size
                      show OpG _ _ _ _ _ _
                      exact og_plain rfl (ox_val (ov_field0 (off := 1) fo42_1 rfl))
                    · intro wd hxE
                      replace ho7 := Own.ext ho7 hxE
                      replace hrx := hrx.ext hxE
                      replace hE := hE.tr hxE
                      replace hrq := hrq.ext hxE
                      replace hb_g10 := hb_g10.ext hxE
                      replace hb122 := hb122.ext hxE
                      replace ho122 := Own.ext ho122 hxE
                      have hz_hxE := hxE.size
                      rintro _ rfl
                      show OpG _ _ _ _ _ _
                      exact og_plain rfl (ox_val (ov_loadAt oc3 rfl hb_g10 rfl))
                    · intro wd hxE
                      replace ho7 := Own.ext ho7 hxE
                      replace hrx := hrx.ext hxE
                      replace hE := hE.tr hxE
                      replace hrq := hrq.ext hxE
                      replace hb_g10 := hb_g10.ext hxE
                      replace hb122 := hb122.ext hxE
                      replace ho122 := Own.ext ho122 hxE
                      have hz_hxE := hxE.size
                      rintro _ rfl
                      show OpG _ _ _ _ _ _
                      exact og_plain rfl (ox_F (by omega) (ov_geq rfl rfl))
                    · intro wd hxE
                      replace ho7 := Own.ext ho7 hxE
                      replace hrx := hrx.ext hxE
                      replace hE := hE.tr hxE
                      replace hrq := hrq.ext hxE
                      replace hb_g10 := hb_g10.ext hxE
                      replace hb122 := hb122.ext hxE
                      replace ho122 := Own.ext ho122 hxE
                      have hz_hxE := hxE.size
                      rintro _ rfl
                      rintro _ rfl
                      show OpG _ _ _ _ _ _
                      exact og_plain rfl (ox_spell (c := (.bool (false != false))) (rfl) (ov_neb Try.underlying4 rfl rfl))
                    · intro wd hxE
                      replace ho7 := Own.ext ho7 hxE
                      replace hrx := hrx.ext hxE
                      replace hE := hE.tr hxE
                      replace hrq := hrq.ext hxE
                      replace hb_g10 := hb_g10.ext hxE
                      replace hb122 := hb122.ext hxE
                      replace ho122 := Own.ext ho122 hxE
                      have hz_hxE := hxE.size
                      rintro _ rfl
                      show OpG _ _ _ _ _ _
                      exact og_plain rfl (ox_val (ov_move rfl))
                    · intro wd hxE
                      replace ho7 := Own.ext ho7 hxE
                      replace hrx := hrx.ext hxE
                      replace hE := hE.tr hxE
                      replace hrq := hrq.ext hxE
                      replace hb_g10 := hb_g10.ext hxE
                      replace hb122 := hb122.ext hxE
                      replace ho122 := Own.ext ho122 hxE
                      have hz_hxE := hxE.size
                      rintro _ rfl
                      show OpG _ _ _ _ _ _
                      exact og_on rfl rfl rfl (ox_val (ov_move rfl))
                    · intro wd hxE
                      replace ho7 := Own.ext ho7 hxE
                      replace hrx := hrx.ext hxE
                      replace hE := hE.tr hxE
                      replace hrq := hrq.ext hxE
                      replace hb_g10 := hb_g10.ext hxE
                      replace hb122 := hb122.ext hxE
                      replace ho122 := Own.ext ho122 hxE
                      have hz_hxE := hxE.size
                      rintro _ rfl
                      rintro _ rfl
                      show OpG _ _ _ _ _ _
                      exact og_on rfl rfl rfl (ox_val (ov_len Try.underlying26 rfl))
                    · intro wd hxE
                      replace ho7 := Own.ext ho7 hxE
                      replace hrx := hrx.ext hxE
                      replace hE := hE.tr hxE
                      replace hrq := hrq.ext hxE
                      replace hb_g10 := hb_g10.ext hxE
                      replace hb122 := hb122.ext hxE
                      replace ho122 := Own.ext ho122 hxE
                      have hz_hxE := hxE.size
                      rintro _ rfl
                      show OpG _ _ _ _ _ _
                      exact og_on rfl rfl rfl (ox_val (ov_move rfl))
                    · intro wd hxE
                      replace ho7 := Own.ext ho7 hxE
                      replace hrx := hrx.ext hxE
                      replace hE := hE.tr hxE
                      replace hrq := hrq.ext hxE
                      replace hb_g10 := hb_g10.ext hxE
                      replace hb122 := hb122.ext hxE
                      replace ho122 := Own.ext ho122 hxE
                      have hz_hxE := hxE.size
                      rintro _ rfl
                      rintro _ rfl
                      show OpG _ _ _ _ _ _
                      exact og_on rfl rfl rfl (ox_val (ov_len Try.underlying26 rfl))
                    · intro wd hxE
                      replace ho7 := Own.ext ho7 hxE
                      replace hrx := hrx.ext hxE
                      replace hE := hE.tr hxE
                      replace hrq := hrq.ext hxE
                      replace hb_g10 := hb_g10.ext hxE
                      replace hb122 := hb122.ext hxE
                      replace ho122 := Own.ext ho122 hxE
                      have hz_hxE := hxE.size
                      rintro _ rfl
                      show OpG _ _ _ _ _ _
                      exact og_on rfl rfl rfl (ox_val (ov_move rfl))
                    · intro wd hxE
                      replace ho7 := Own.ext ho7 hxE
                      replace hrx := hrx.ext hxE
                      replace hE := hE.tr hxE
                      replace hrq := hrq.ext hxE
                      replace hb_g10 := hb_g10.ext hxE
                      replace hb122 := hb122.ext hxE
                      replace ho122 := Own.ext ho122 hxE
                      have hz_hxE := hxE.size
                      rintro _ rfl
                      rintro _ rfl
                      rintro _ rfl
                      show OpG _ _ _ _ _ _
                      exact og_on rfl rfl rfl (ox_val (ov_sub rfl rfl (wi64 (by omega) (by omega))))
                    · intro wd hxE
                      replace ho7 := Own.ext ho7 hxE
                      replace hrx := hrx.ext hxE
                      replace hE := hE.tr hxE
                      replace hrq := hrq.ext hxE
                      replace hb_g10 := hb_g10.ext hxE
                      replace hb122 := hb122.ext hxE
                      replace ho122 := Own.ext ho122 hxE
                      have hz_hxE := hxE.size
                      rintro _ rfl
                      rintro _ rfl
                      rintro _ rfl
                      show OpG _ _ _ _ _ _
                      exact og_on rfl rfl rfl (ox_F (by simp; omega) (ov_gtr rfl rfl))
                    · intro wd hxE
                      replace ho7 := Own.ext ho7 hxE
                      replace hrx := hrx.ext hxE
                      replace hE := hE.tr hxE
                      replace hrq := hrq.ext hxE
                      replace hb_g10 := hb_g10.ext hxE
                      replace hb122 := hb122.ext hxE
                      replace ho122 := Own.ext ho122 hxE
                      have hz_hxE := hxE.size
                      rintro _ rfl
                      rintro _ rfl
                      show OpG _ _ _ _ _ _
                      exact og_plain rfl (ox_val (ov_pick_f rfl rfl))
                    · intro wd hxE
                      replace ho7 := Own.ext ho7 hxE
                      replace hrx := hrx.ext hxE
                      replace hE := hE.tr hxE
                      replace hrq := hrq.ext hxE
                      replace hb_g10 := hb_g10.ext hxE
                      replace hb122 := hb122.ext hxE
                      replace ho122 := Own.ext ho122 hxE
                      have hz_hxE := hxE.size
                      rintro _ rfl
                      show OpG _ _ _ _ _ _
                      exact og_plain rfl (ox_val (ov_move rfl))
                    · intro wd hxE
                      replace ho7 := Own.ext ho7 hxE
                      replace hrx := hrx.ext hxE
                      replace hE := hE.tr hxE
                      replace hrq := hrq.ext hxE
                      replace hb_g10 := hb_g10.ext hxE
                      replace hb122 := hb122.ext hxE
                      replace ho122 := Own.ext ho122 hxE
                      have hz_hxE := hxE.size
                      rintro _ rfl
                      show OpG _ _ _ _ _ _
                      exact og_on rfl rfl rfl (ox_val (ov_move rfl))
                    · intro wd hxE
                      replace ho7 := Own.ext ho7 hxE
                      replace hrx := hrx.ext hxE
                      replace hE := hE.tr hxE
                      replace hrq := hrq.ext hxE
                      replace hb_g10 := hb_g10.ext hxE
                      replace hb122 := hb122.ext hxE
                      replace ho122 := Own.ext ho122 hxE
                      have hz_hxE := hxE.size
                      rintro _ rfl
                      rintro _ rfl
                      show OpG _ _ _ _ _ _
                      exact og_on rfl rfl rfl (ox_val (ov_bstr bt26 Try.underlying9 rfl (OwnB.rd ho122)))
                    · intro wd hxE
                      replace ho7 := Own.ext ho7 hxE
                      replace hrx := hrx.ext hxE
                      replace hE := hE.tr hxE
                      replace hrq := hrq.ext hxE
                      replace hb_g10 := hb_g10.ext hxE
                      replace hb122 := hb122.ext hxE
                      replace ho122 := Own.ext ho122 hxE
                      have hz_hxE := hxE.size
                      rintro _ rfl
                      show OpG _ _ _ _ _ _
                      exact og_on rfl rfl rfl (ox_val (ov_move rfl))
                    · intro wd hxE
                      replace ho7 := Own.ext ho7 hxE
                      replace hrx := hrx.ext hxE
                      replace hE := hE.tr hxE
                      replace hrq := hrq.ext hxE
                      replace hb_g10 := hb_g10.ext hxE
                      replace hb122 := hb122.ext hxE
                      replace ho122 := Own.ext ho122 hxE
                      have hz_hxE := hxE.size
                      rintro _ rfl
                      show OpG _ _ _ _ _ _
                      exact og_on rfl rfl rfl (ox_val (ov_move rfl))
                    · intro wd hxE
                      replace ho7 := Own.ext ho7 hxE
                      replace hrx := hrx.ext hxE
                      replace hE := hE.tr hxE
                      replace hrq := hrq.ext hxE
                      replace hb_g10 := hb_g10.ext hxE
                      replace hb122 := hb122.ext hxE
                      replace ho122 := Own.ext ho122 hxE
                      have hz_hxE := hxE.size
                      rintro _ rfl
                      show OpG _ _ _ _ _ _
                      exact og_on rfl rfl rfl (ox_val (ov_move rfl))
                    · intro wd hxE
                      replace ho7 := Own.ext ho7 hxE
                      replace hrx := hrx.ext hxE
                      replace hE := hE.tr hxE
                      replace hrq := hrq.ext hxE
                      replace hb_g10 := hb_g10.ext hxE
                      replace hb122 := hb122.ext hxE
                      replace ho122 := Own.ext ho122 hxE
                      have hz_hxE := hxE.size
                      rintro _ rfl
                      show OpG _ _ _ _ _ _
                      exact og_on rfl rfl rfl (ox_val (ov_move rfl))
                    · intro wd hxE
                      replace ho7 := Own.ext ho7 hxE
                      replace hrx := hrx.ext hxE
                      replace hE := hE.tr hxE
                      replace hrq := hrq.ext hxE
                      replace hb_g10 := hb_g10.ext hxE
                      replace hb122 := hb122.ext hxE
                      replace ho122 := Own.ext ho122 hxE
                      have hz_hxE := hxE.size
                      rintro _ rfl
                      rintro _ rfl
                      show OpG _ _ _ _ _ _
                      exact og_on rfl rfl rfl (ox_val (ov_len Try.underlying26 rfl))
                    · intro wd hxE
                      replace ho7 := Own.ext ho7 hxE
                      replace hrx := hrx.ext hxE
                      replace hE := hE.tr hxE
                      replace hrq := hrq.ext hxE
                      replace hb_g10 := hb_g10.ext hxE
                      replace hb122 := hb122.ext hxE
                      replace ho122 := Own.ext ho122 hxE
                      have hz_hxE := hxE.size
                      rintro _ rfl
                      rintro _ rfl
                      rintro _ rfl
                      show OpG _ _ _ _ _ _
                      exact og_on rfl rfl rfl (ox_val (ov_add rfl rfl (wi64 (by omega) (by omega))))
                    · intro wd hxE
                      replace ho7 := Own.ext ho7 hxE
                      replace hrx := hrx.ext hxE
                      replace hE := hE.tr hxE
                      replace hrq := hrq.ext hxE
                      replace hb_g10 := hb_g10.ext hxE
                      replace hb122 := hb122.ext hxE
                      replace ho122 := Own.ext ho122 hxE
                      have hz_hxE := hxE.size
                      rintro _ rfl
                      rintro _ rfl
                      rintro _ rfl
                      rintro _ rfl
                      show OpG _ _ _ _ _ _
                      have hcap149 := RdB.cap (OwnB.rd ho7)
                      refine og_on rfl rfl rfl (OpRun.mono (or_bslice bt26 rfl (OwnB.rd ho7) (bounds_lh rfl rfl (by omega) (by omega) (by omega)) (by omega) (by omega) (by omega) (by omega)) ?_)
                      rintro v _ ⟨rfl, A149, c149, rfl, hr149, hl149⟩
                      have hs149 : (ins.drop (Int.toNat (↑out : Int))).take ((Int.toNat ((↑out : Int) + (↑([] : List UInt8).length : Int))) - (Int.toNat (↑out : Int))) = ([] : List UInt8) := (by simp)
                      rw [hs149] at hr149 hl149; rw [hs149]; clear hs149
                      exact ⟨⟨A149, c149, rfl, (Rd.top hr149).mono (Nat.zero_le _) (Nat.le_refl _)⟩, ext_refl _⟩
                    · intro wd hxE
                      replace ho7 := Own.ext ho7 hxE
                      replace hrx := hrx.ext hxE
                      replace hE := hE.tr hxE
                      replace hrq := hrq.ext hxE
                      replace hb_g10 := hb_g10.ext hxE
                      replace hb122 := hb122.ext hxE
                      replace ho122 := Own.ext ho122 hxE
                      have hz_hxE := hxE.size
                      rintro _ rfl
                      rintro _ ⟨A149, c149, rfl, hr149⟩
                      show OpG _ _ _ _ _ _
                      exact og_on rfl rfl rfl (ox_val (ov_bstr bt26 Try.underlying9 rfl hr149))
                    · intro wf27 hf27
                      replace ho7 := Own.ext ho7 hf27
                      replace hrx := hrx.ext hf27
                      replace hE := hE.tr hf27
                      replace hrq := hrq.ext hf27
                      replace hb_g10 := hb_g10.ext hf27
                      replace hb122 := hb122.ext hf27
                      replace ho122 := Own.ext ho122 hf27
                      have hz_hf27 := hf27.size
                      rintro _ rfl
                      rintro _ rfl
                      rintro _ rfl
                      rintro _ rfl
                      rintro _ rfl
                      rintro _ rfl
                      rintro _ rfl
                      rintro _ rfl
                      rintro _ rfl
                      rintro _ rfl
                      rintro _ rfl
                      rintro _ rfl
                      rintro _ rfl
                      rintro _ rfl
                      rintro _ rfl
                      rintro _ rfl
                      rintro _ rfl
                      rintro _ rfl
                      rintro _ rfl
                      rintro _ rfl
                      rintro _ rfl
                      rintro _ rfl
                      rintro _ rfl
                      rintro _ rfl
                      rintro _ ⟨A149, c149, rfl, hr149⟩
                      rintro _ rfl
                      show WL _ _ _ [_, _] _ _ _
                      refine wl_gval (ov_sne rfl rfl) rfl rfl rfl rfl rfl ?_
                      refine wl_spell (d := 151) rfl (bf (fun h => h rfl)) ?_
                      refine wl_val (ov_pick_f rfl rfl) rfl rfl rfl ?_
                      refine q_nil ?_
                      refine k_then ?_
                      refine wc_cond_f rfl ?_
                      refine q_skip ?_
                      refine k_then ?_
                      refine wc_regionL ?_
                      refine wl_val (ov_move rfl) rfl rfl rfl ?_
                      refine wl_val (ov_move rfl) rfl rfl rfl ?_
                      refine wl_val (ov_len Try.underlying26 rfl) rfl rfl rfl ?_
                      refine wl_val (ov_add rfl rfl (m := ((out + ([] : List UInt8).length : Nat) : Int)) (by rw [← Int.natCast_add]; exact wi64 (by omega) (by omega))) rfl rfl rfl ?_
                      refine wl_val (ov_assign rfl) rfl rfl rfl ?_
                      refine q_nil ?_
                      refine k_block ?_
                      refine k_cut ((ins, out + ([] : List UInt8).length, A7, c7, D)) (⟨rfl, rfl, rfl, rfl, rfl, rfl, trivial⟩) (⟨by first | (simp; done) | (simp; omega) | (dsimp only; omega), by first | (simp; done) | (simp; omega) | (dsimp only; omega), ho7, hb122, hsep, hrx, hE⟩)
                  · refine wc_seq ?_
                    refine wc_regionL ?_
                    refine wl_val (ov_move rfl) rfl rfl rfl ?_
                    refine wl_val (ov_field0 (off := 1) fo42_1 rfl) rfl rfl rfl ?_
                    refine wl_val (ov_loadAt oc3 rfl hb_g10 rfl) rfl rfl rfl ?_
                    refine wl_step (or_call0 cl22 rfl rfl (btake_ok _ w.heap.size gn33 D m (ins.drop out) ins.length out hbuf a2 (by omega) (by omega) (by omega) (by omega))) rfl rfl rfl ?_
                    rintro v w205 ⟨A122, c122, rfl, ho122, hb122, hC122⟩
                    have hDa122 : ∀ x, D = some x → (w.heap.size ≤ x ∧ x < wq.heap.size) ∧ x < w204.heap.size := fun x e => ⟨hDs x e, (hbuf.lt.2 x e).2⟩
                    have hz_hC122 := hC122.size
                    replace ho7 := hC122.own ho7 (fun x e => by first | exact ⟨by have := hq_ho7 x e; omega, fun e2 => by have h1 := hq_ho7 x e; have h2 := hDa122 x e2; omega⟩ | exact hsep x e)
                    replace hrx := hC122.rd hrx (by omega) (fun x e => by have := hDa122 x e; omega)
                    replace hE := hC122.e0 hE (by omega) (fun x e => by have := hDa122 x e; omega)
                    replace hrq := hC122.rd hrq (by omega) (fun x e => by have := hDa122 x e; omega)
                    replace hb_g10 := hC122.bk hb_g10 (by omega) (fun e2 => by have := hDa122 _ e2; omega)
                    rw [bpk_ok hn] at hb122; simp only [List.drop_drop] at hb122
                    replace hb122 : Buf _ w.heap.size gn33 D m (ins.drop (out + ((ins.drop out).take a2.toNat).length)) ins.length (out + ((ins.drop out).take a2.toNat).length) := hb122
                    have hzb122 := hb122.lt.1
                    have hcp122 := hb122.cap
                    have hq_ho122 := fun g e => Own.lt ho122 (g := g) e
                    rw [bpk_ok hn] at ho122
                    refine wl_spell (d := 122) rfl (v' := .tuple #[.slice A122 ((ins.drop out).take a2.toNat).length c122, .int .i64 0]) (by rw [bpk_ok hn]; rfl) ?_
                    have hyl : ((ins.drop out).take a2.toNat).length ≤ ins.length - out := by simp; omega
                    refine wl_val (ov_move rfl) rfl rfl rfl ?_
                    refine wl_val (ov_extract rfl rfl) rfl rfl rfl ?_
                    refine wl_val (ov_extract rfl rfl) rfl rfl rfl ?_
                    refine wl_val (ov_assign rfl) rfl rfl rfl ?_
                    refine wl_val (ov_assign rfl) rfl rfl rfl ?_
                    refine q_nil ?_
                    refine k_then ?_
                    refine wc_seq ?_
                    refine wc_seq ?_
                    refine wc_draw mixed 26 [(125, eqv (.int .i64 0)), (126, eqv (.bool true)), (127, eqv (.pointer (some ⟨g10, 1, none⟩))), (128, eqv (.int .i64 a2)), (129, eqv (.bool true)), (130, eqv (.bool false)), (131, eqv (.bool false)), (132, eqv (.slice A122 ((ins.drop out).take a2.toNat).length c122)), (133, eqv (.int .i64 (↑((ins.drop out).take a2.toNat).length : Int))), (134, eqv (.slice A7 ins.length c7)), (135, eqv (.int .i64 (↑ins.length : Int))), (136, eqv (.int .i64 (↑out : Int))), (137, eqv (.int .i64 ((↑ins.length : Int) - (↑out : Int)))), (138, eqv (.bool false)), (139, eqv (.bool false)), (140, eqv (.bool false)), (141, eqv (.slice A122 ((ins.drop out).take a2.toNat).length c122)), (142, eqv (.string (strB ((ins.drop out).take a2.toNat)))), (143, eqv (.slice A7 ins.length c7)), (144, eqv (.int .i64 (↑out : Int))), (145, eqv (.int .i64 (↑out : Int))), (146, eqv (.slice A122 ((ins.drop out).take a2.toNat).length c122)), (147, eqv (.int .i64 (↑((ins.drop out).take a2.toNat).length : Int))), (148, eqv (.int .i64 ((↑out : Int) + (↑((ins.drop out).take a2.toNat).length : Int)))), (149, isB 0 ((ins.drop out).take a2.toNat)), (150, eqv (.string (strB ((ins.drop out).take a2.toNat))))] [[], [0], [], [2], [3], [1, 4], [5], [6], [6, 7], [6], [6, 9], [6], [6, 10, 11], [6, 8, 12], [6, 13], [14], [15], [15, 16], [15], [15], [15], [15], [15, 21], [15, 20, 22], [15, 18, 19, 23], [15, 24]] _ [] [] (fun _ _ h => h) trivial (by kernel_rfl) rfl ⟨stb_eqv _, stb_eqv _, stb_eqv _, stb_eqv _, stb_eqv _, stb_eqv _, stb_eqv _, stb_eqv _, stb_eqv _, stb_eqv _, stb_eqv _, stb_eqv _, stb_eqv _, stb_eqv _, stb_eqv _, stb_eqv _, stb_eqv _, stb_eqv _, stb_eqv _, stb_eqv _, stb_eqv _, stb_eqv _, stb_eqv _, stb_eqv _, stb_isB _ _, stb_eqv _, trivial⟩ ⟨?_, ?_, ?_, ?_, ?_, ?_, ?_, ?_, ?_, ?_, ?_, ?_, ?_, ?_, ?_, ?_, ?_, ?_, ?_, ?_, ?_, ?_, ?_, ?_, ?_, ?_, trivial⟩ ?_
                    · intro wd hxE
                      replace ho7 := Own.ext ho7 hxE
                      replace hrx := hrx.ext hxE
                      replace hE := hE.tr hxE
                      replace hrq := hrq.ext hxE
                      replace hb_g10 := hb_g10.ext hxE
                      replace hb122 := hb122.ext hxE
                      replace ho122 := Own.ext ho122 hxE
                      have hz_hxE := hxE.size
                      show OpG _ _ _ _ _ _
                      exact og_plain rfl (ox_val (ov_move rfl))
                    · intro wd hxE
                      replace ho7 := Own.ext ho7 hxE
                      replace hrx := hrx.ext hxE
                      replace hE := hE.tr hxE
                      replace hrq := hrq.ext hxE
                      replace hb_g10 := hb_g10.ext hxE
                      replace hb122 := hb122.ext hxE
                      replace ho122 := Own.ext ho122 hxE
                      have hz_hxE := hxE.size
                      rintro _ rfl
                      show OpG _ _ _ _ _ _
                      exact og_plain rfl (ox_T (by decide) (ov_eql rfl rfl))
                    · intro wd hxE
                      replace ho7 := Own.ext ho7 hxE
                      replace hrx := hrx.ext hxE
                      replace hE := hE.tr hxE
                      replace hrq := hrq.ext hxE
                      replace hb_g10 := hb_g10.ext hxE
                      replace hb122 := hb122.ext hxE
                      replace ho122 := Own.ext ho122 hxE
                      have hz_hxE := hxE.size
                      show OpG _ _ _ _ _ _
                      exact og_plain rfl (ox_val (ov_field0 (off := 1) fo42_1 rfl))
                    · intro wd hxE
                      replace ho7 := Own.ext ho7 hxE
                      replace hrx := hrx.ext hxE
                      replace hE := hE.tr hxE
                      replace hrq := hrq.ext hxE
                      replace hb_g10 := hb_g10.ext hxE
                      replace hb122 := hb122.ext hxE
                      replace ho122 := Own.ext ho122 hxE
                      have hz_hxE := hxE.size
                      rintro _ rfl
                      show OpG _ _ _ _ _ _
                      exact og_plain rfl (ox_val (ov_loadAt oc3 rfl hb_g10 rfl))
                    · intro wd hxE
                      replace ho7 := Own.ext ho7 hxE
                      replace hrx := hrx.ext hxE
                      replace hE := hE.tr hxE
                      replace hrq := hrq.ext hxE
                      replace hb_g10 := hb_g10.ext hxE
                      replace hb122 := hb122.ext hxE
                      replace ho122 := Own.ext ho122 hxE
                      have hz_hxE := hxE.size
                      rintro _ rfl
                      show OpG _ _ _ _ _ _
                      exact og_plain rfl (ox_T (by omega) (ov_geq rfl rfl))
                    · intro wd hxE
                      replace ho7 := Own.ext ho7 hxE
                      replace hrx := hrx.ext hxE
                      replace hE := hE.tr hxE
                      replace hrq := hrq.ext hxE
                      replace hb_g10 := hb_g10.ext hxE
                      replace hb122 := hb122.ext hxE
                      replace ho122 := Own.ext ho122 hxE
                      have hz_hxE := hxE.size
                      rintro _ rfl
                      rintro _ rfl
                      show OpG _ _ _ _ _ _
                      exact og_plain rfl (ox_spell (c := (.bool (true != true))) (rfl) (ov_neb Try.underlying4 rfl rfl))
                    · intro wd hxE
                      replace ho7 := Own.ext ho7 hxE
                      replace hrx := hrx.ext hxE
                      replace hE := hE.tr hxE
                      replace hrq := hrq.ext hxE
                      replace hb_g10 := hb_g10.ext hxE
                      replace hb122 := hb122.ext hxE
                      replace ho122 := Own.ext ho122 hxE
                      have hz_hxE := hxE.size
                      rintro _ rfl
                      show OpG _ _ _ _ _ _
                      exact og_plain rfl (ox_val (ov_move rfl))
                    · intro wd hxE
                      replace ho7 := Own.ext ho7 hxE
                      replace hrx := hrx.ext hxE
                      replace hE := hE.tr hxE
                      replace hrq := hrq.ext hxE
                      replace hb_g10 := hb_g10.ext hxE
                      replace hb122 := hb122.ext hxE
                      replace ho122 := Own.ext ho122 hxE
                      have hz_hxE := hxE.size
                      rintro _ rfl
                      show OpG _ _ _ _ _ _
                      exact og_on rfl rfl rfl (ox_val (ov_move rfl))
                    · intro wd hxE
                      replace ho7 := Own.ext ho7 hxE
                      replace hrx := hrx.ext hxE
                      replace hE := hE.tr hxE
                      replace hrq := hrq.ext hxE
                      replace hb_g10 := hb_g10.ext hxE
                      replace hb122 := hb122.ext hxE
                      replace ho122 := Own.ext ho122 hxE
                      have hz_hxE := hxE.size
                      rintro _ rfl
                      rintro _ rfl
                      show OpG _ _ _ _ _ _
                      exact og_on rfl rfl rfl (ox_val (ov_len Try.underlying26 rfl))
                    · intro wd hxE
                      replace ho7 := Own.ext ho7 hxE
                      replace hrx := hrx.ext hxE
                      replace hE := hE.tr hxE
                      replace hrq := hrq.ext hxE
                      replace hb_g10 := hb_g10.ext hxE
                      replace hb122 := hb122.ext hxE
                      replace ho122 := Own.ext ho122 hxE
                      have hz_hxE := hxE.size
                      rintro _ rfl
                      show OpG _ _ _ _ _ _
                      exact og_on rfl rfl rfl (ox_val (ov_move rfl))
                    · intro wd hxE
                      replace ho7 := Own.ext ho7 hxE
                      replace hrx := hrx.ext hxE
                      replace hE := hE.tr hxE
                      replace hrq := hrq.ext hxE
                      replace hb_g10 := hb_g10.ext hxE
                      replace hb122 := hb122.ext hxE
                      replace ho122 := Own.ext ho122 hxE
                      have hz_hxE := hxE.size
                      rintro _ rfl
                      rintro _ rfl
                      show OpG _ _ _ _ _ _
                      exact og_on rfl rfl rfl (ox_val (ov_len Try.underlying26 rfl))
                    · intro wd hxE
                      replace ho7 := Own.ext ho7 hxE
                      replace hrx := hrx.ext hxE
                      replace hE := hE.tr hxE
                      replace hrq := hrq.ext hxE
                      replace hb_g10 := hb_g10.ext hxE
                      replace hb122 := hb122.ext hxE
                      replace ho122 := Own.ext ho122 hxE
                      have hz_hxE := hxE.size
                      rintro _ rfl
                      show OpG _ _ _ _ _ _
                      exact og_on rfl rfl rfl (ox_val (ov_move rfl))
                    · intro wd hxE
                      replace ho7 := Own.ext ho7 hxE
                      replace hrx := hrx.ext hxE
                      replace hE := hE.tr hxE
                      replace hrq := hrq.ext hxE
                      replace hb_g10 := hb_g10.ext hxE
                      replace hb122 := hb122.ext hxE
                      replace ho122 := Own.ext ho122 hxE
                      have hz_hxE := hxE.size
                      rintro _ rfl
                      rintro _ rfl
                      rintro _ rfl
                      show OpG _ _ _ _ _ _
                      exact og_on rfl rfl rfl (ox_val (ov_sub rfl rfl (wi64 (by omega) (by omega))))
                    · intro wd hxE
                      replace ho7 := Own.ext ho7 hxE
                      replace hrx := hrx.ext hxE
                      replace hE := hE.tr hxE
                      replace hrq := hrq.ext hxE
                      replace hb_g10 := hb_g10.ext hxE
                      replace hb122 := hb122.ext hxE
                      replace ho122 := Own.ext ho122 hxE
                      have hz_hxE := hxE.size
                      rintro _ rfl
                      rintro _ rfl
                      rintro _ rfl
                      show OpG _ _ _ _ _ _
                      exact og_on rfl rfl rfl (ox_F (by omega) (ov_gtr rfl rfl))
                    · intro wd hxE
                      replace ho7 := Own.ext ho7 hxE
                      replace hrx := hrx.ext hxE
                      replace hE := hE.tr hxE
                      replace hrq := hrq.ext hxE
                      replace hb_g10 := hb_g10.ext hxE
                      replace hb122 := hb122.ext hxE
                      replace ho122 := Own.ext ho122 hxE
                      have hz_hxE := hxE.size
                      rintro _ rfl
                      rintro _ rfl
                      show OpG _ _ _ _ _ _
                      exact og_plain rfl (ox_val (ov_pick_f rfl rfl))
                    · intro wd hxE
                      replace ho7 := Own.ext ho7 hxE
                      replace hrx := hrx.ext hxE
                      replace hE := hE.tr hxE
                      replace hrq := hrq.ext hxE
                      replace hb_g10 := hb_g10.ext hxE
                      replace hb122 := hb122.ext hxE
                      replace ho122 := Own.ext ho122 hxE
                      have hz_hxE := hxE.size
                      rintro _ rfl
                      show OpG _ _ _ _ _ _
                      exact og_plain rfl (ox_val (ov_move rfl))
                    · intro wd hxE
                      replace ho7 := Own.ext ho7 hxE
                      replace hrx := hrx.ext hxE
                      replace hE := hE.tr hxE
                      replace hrq := hrq.ext hxE
                      replace hb_g10 := hb_g10.ext hxE
                      replace hb122 := hb122.ext hxE
                      replace ho122 := Own.ext ho122 hxE
                      have hz_hxE := hxE.size
                      rintro _ rfl
                      show OpG _ _ _ _ _ _
                      exact og_on rfl rfl rfl (ox_val (ov_move rfl))
                    · intro wd hxE
                      replace ho7 := Own.ext ho7 hxE
                      replace hrx := hrx.ext hxE
                      replace hE := hE.tr hxE
                      replace hrq := hrq.ext hxE
                      replace hb_g10 := hb_g10.ext hxE
                      replace hb122 := hb122.ext hxE
                      replace ho122 := Own.ext ho122 hxE
                      have hz_hxE := hxE.size
                      rintro _ rfl
                      rintro _ rfl
                      show OpG _ _ _ _ _ _
                      exact og_on rfl rfl rfl (ox_val (ov_bstr bt26 Try.underlying9 rfl (OwnB.rd ho122)))
                    · intro wd hxE
                      replace ho7 := Own.ext ho7 hxE
                      replace hrx := hrx.ext hxE
                      replace hE := hE.tr hxE
                      replace hrq := hrq.ext hxE
                      replace hb_g10 := hb_g10.ext hxE
                      replace hb122 := hb122.ext hxE
                      replace ho122 := Own.ext ho122 hxE
                      have hz_hxE := hxE.size
                      rintro _ rfl
                      show OpG _ _ _ _ _ _
                      exact og_on rfl rfl rfl (ox_val (ov_move rfl))
                    · intro wd hxE
                      replace ho7 := Own.ext ho7 hxE
                      replace hrx := hrx.ext hxE
                      replace hE := hE.tr hxE
                      replace hrq := hrq.ext hxE
                      replace hb_g10 := hb_g10.ext hxE
                      replace hb122 := hb122.ext hxE
                      replace ho122 := Own.ext ho122 hxE
                      have hz_hxE := hxE.size
                      rintro _ rfl
                      show OpG _ _ _ _ _ _
                      exact og_on rfl rfl rfl (ox_val (ov_move rfl))
                    · intro wd hxE
                      replace ho7 := Own.ext ho7 hxE
                      replace hrx := hrx.ext hxE
                      replace hE := hE.tr hxE
                      replace hrq := hrq.ext hxE
                      replace hb_g10 := hb_g10.ext hxE
                      replace hb122 := hb122.ext hxE
                      replace ho122 := Own.ext ho122 hxE
                      have hz_hxE := hxE.size
                      rintro _ rfl
                      show OpG _ _ _ _ _ _
                      exact og_on rfl rfl rfl (ox_val (ov_move rfl))
                    · intro wd hxE
                      replace ho7 := Own.ext ho7 hxE
                      replace hrx := hrx.ext hxE
                      replace hE := hE.tr hxE
                      replace hrq := hrq.ext hxE
                      replace hb_g10 := hb_g10.ext hxE
                      replace hb122 := hb122.ext hxE
                      replace ho122 := Own.ext ho122 hxE
                      have hz_hxE := hxE.size
                      rintro _ rfl
                      show OpG _ _ _ _ _ _
                      exact og_on rfl rfl rfl (ox_val (ov_move rfl))
                    · intro wd hxE
                      replace ho7 := Own.ext ho7 hxE
                      replace hrx := hrx.ext hxE
                      replace hE := hE.tr hxE
                      replace hrq := hrq.ext hxE
                      replace hb_g10 := hb_g10.ext hxE
                      replace hb122 := hb122.ext hxE
                      replace ho122 := Own.ext ho122 hxE
                      have hz_hxE := hxE.size
                      rintro _ rfl
                      rintro _ rfl
                      show OpG _ _ _ _ _ _
                      exact og_on rfl rfl rfl (ox_val (ov_len Try.underlying26 rfl))
                    · intro wd hxE
                      replace ho7 := Own.ext ho7 hxE
                      replace hrx := hrx.ext hxE
                      replace hE := hE.tr hxE
                      replace hrq := hrq.ext hxE
                      replace hb_g10 := hb_g10.ext hxE
                      replace hb122 := hb122.ext hxE
                      replace ho122 := Own.ext ho122 hxE
                      have hz_hxE := hxE.size
                      rintro _ rfl
                      rintro _ rfl
                      rintro _ rfl
                      show OpG _ _ _ _ _ _
                      exact og_on rfl rfl rfl (ox_val (ov_add rfl rfl (wi64 (by omega) (by omega))))
                    · intro wd hxE
                      replace ho7 := Own.ext ho7 hxE
                      replace hrx := hrx.ext hxE
                      replace hE := hE.tr hxE
                      replace hrq := hrq.ext hxE
                      replace hb_g10 := hb_g10.ext hxE
                      replace hb122 := hb122.ext hxE
                      replace ho122 := Own.ext ho122 hxE
                      have hz_hxE := hxE.size
                      rintro _ rfl
                      rintro _ rfl
                      rintro _ rfl
                      rintro _ rfl
                      show OpG _ _ _ _ _ _
                      have hcap149 := RdB.cap (OwnB.rd ho7)
                      refine og_on rfl rfl rfl (OpRun.mono (or_bslice bt26 rfl (OwnB.rd ho7) (bounds_lh rfl rfl (by omega) (by omega) (by omega)) (by omega) (by omega) (by omega) (by omega)) ?_)
                      rintro v _ ⟨rfl, A149, c149, rfl, hr149, hl149⟩
                      have hs149 : (ins.drop (Int.toNat (↑out : Int))).take ((Int.toNat ((↑out : Int) + (↑((ins.drop out).take a2.toNat).length : Int))) - (Int.toNat (↑out : Int))) = ((ins.drop out).take a2.toNat) := (by rw [show ((out : Int) + (((ins.drop out).take a2.toNat).length : Int)).toNat - (out : Int).toNat = ((ins.drop out).take a2.toNat).length by omega, Int.toNat_natCast]; exact take_len_take _ _)
                      rw [hs149] at hr149 hl149; rw [hs149]; clear hs149
                      exact ⟨⟨A149, c149, rfl, (Rd.top hr149).mono (Nat.zero_le _) (Nat.le_refl _)⟩, ext_refl _⟩
                    · intro wd hxE
                      replace ho7 := Own.ext ho7 hxE
                      replace hrx := hrx.ext hxE
                      replace hE := hE.tr hxE
                      replace hrq := hrq.ext hxE
                      replace hb_g10 := hb_g10.ext hxE
                      replace hb122 := hb122.ext hxE
                      replace ho122 := Own.ext ho122 hxE
                      have hz_hxE := hxE.size
                      rintro _ rfl
                      rintro _ ⟨A149, c149, rfl, hr149⟩
                      show OpG _ _ _ _ _ _
                      exact og_on rfl rfl rfl (ox_val (ov_bstr bt26 Try.underlying9 rfl hr149))
                    · intro wf27 hf27
                      replace ho7 := Own.ext ho7 hf27
                      replace hrx := hrx.ext hf27
                      replace hE := hE.tr hf27
                      replace hrq := hrq.ext hf27
                      replace hb_g10 := hb_g10.ext hf27
                      replace hb122 := hb122.ext hf27
                      replace ho122 := Own.ext ho122 hf27
                      have hz_hf27 := hf27.size
                      rintro _ rfl
                      rintro _ rfl
                      rintro _ rfl
                      rintro _ rfl
                      rintro _ rfl
                      rintro _ rfl
                      rintro _ rfl
                      rintro _ rfl
                      rintro _ rfl
                      rintro _ rfl
                      rintro _ rfl
                      rintro _ rfl
                      rintro _ rfl
                      rintro _ rfl
                      rintro _ rfl
                      rintro _ rfl
                      rintro _ rfl
                      rintro _ rfl
                      rintro _ rfl
                      rintro _ rfl
                      rintro _ rfl
                      rintro _ rfl
                      rintro _ rfl
                      rintro _ rfl
                      rintro _ ⟨A149, c149, rfl, hr149⟩
                      rintro _ rfl
                      show WL _ _ _ [_, _] _ _ _
                      refine wl_gval (ov_sne rfl rfl) rfl rfl rfl rfl rfl ?_
                      refine wl_spell (d := 151) rfl (bf (fun h => h rfl)) ?_
                      refine wl_val (ov_pick_f rfl rfl) rfl rfl rfl ?_
                      refine q_nil ?_
                      refine k_then ?_
                      refine wc_cond_f rfl ?_
                      refine q_skip ?_
                      refine k_then ?_
                      refine wc_regionL ?_
                      refine wl_val (ov_move rfl) rfl rfl rfl ?_
                      refine wl_val (ov_move rfl) rfl rfl rfl ?_
                      refine wl_val (ov_len Try.underlying26 rfl) rfl rfl rfl ?_
                      refine wl_val (ov_add rfl rfl (m := ((out + ((ins.drop out).take a2.toNat).length : Nat) : Int)) (by rw [← Int.natCast_add]; exact wi64 (by omega) (by omega))) rfl rfl rfl ?_
                      refine wl_val (ov_assign rfl) rfl rfl rfl ?_
                      refine q_nil ?_
                      refine k_block ?_
                      refine k_cut ((ins, out + ((ins.drop out).take a2.toNat).length, A7, c7, D)) (⟨rfl, rfl, rfl, rfl, rfl, rfl, trivial⟩) (⟨by first | (simp; done) | (simp; omega) | (dsimp only; omega), by first | (simp; done) | (simp; omega) | (dsimp only; omega), ho7, hb122, hsep, hrx, hE⟩)
                · refine wc_seq ?_
                  refine wc_regionL ?_
                  refine wl_val (ov_eql rfl rfl) rfl rfl rfl ?_
                  refine wl_val (ov_assign rfl) rfl rfl rfl ?_
                  refine q_nil ?_
                  refine k_then ?_
                  refine wc_cond_d rfl (fun hc11 => ?_) (fun hc11 => ?_)
                  · rcases bsk3 (ins.drop out) a2 with ⟨hn, hbs⟩ | ⟨hn, hn2, hbs⟩ | ⟨hn, hn2, hbs⟩
                    · refine wc_seq ?_
                      refine wc_regionL ?_
                      refine wl_val (ov_move rfl) rfl rfl rfl ?_
                      refine wl_val (ov_field0 (off := 1) fo42_1 rfl) rfl rfl rfl ?_
                      refine wl_val (ov_loadAt oc3 rfl hb_g10 rfl) rfl rfl rfl ?_
                      refine wl_step (or_call0 cl23 rfl rfl (bskipm_ok _ w.heap.size gn33 D m (ins.drop out) ins.length out hbuf a2 (by omega) (by omega) (by omega) (by omega))) rfl rfl rfl ?_
                      rintro v w205 ⟨rfl, hb162, hC162⟩
                      have hDa162 : ∀ x, D = some x → (w.heap.size ≤ x ∧ x < wq.heap.size) ∧ x < w204.heap.size := fun x e => ⟨hDs x e, (hbuf.lt.2 x e).2⟩
                      have hz_hC162 := hC162.size
                      replace ho7 := hC162.own ho7 (fun x e => by first | exact ⟨by have := hq_ho7 x e; omega, fun e2 => by have h1 := hq_ho7 x e; have h2 := hDa162 x e2; omega⟩ | exact hsep x e)
                      replace hrx := hC162.rd hrx (by omega) (fun x e => by have := hDa162 x e; omega)
                      replace hE := hC162.e0 hE (by omega) (fun x e => by have := hDa162 x e; omega)
                      replace hrq := hC162.rd hrq (by omega) (fun x e => by have := hDa162 x e; omega)
                      replace hb_g10 := hC162.bk hb_g10 (by omega) (fun e2 => by have := hDa162 _ e2; omega)
                      rw [hbs] at hb162
                      replace hb162 : Buf _ w.heap.size gn33 D m (ins.drop out) ins.length out := hb162
                      have hzb162 := hb162.lt.1
                      have hcp162 := hb162.cap
                      refine wl_spell (d := 162) rfl (v' := .int .i64 2) (by rw [hbs]; rfl) ?_
                      refine wl_val (ov_eql rfl rfl) rfl rfl rfl ?_
                      refine q_nil ?_
                      refine k_then ?_
                      refine wc_cond_f rfl ?_
                      refine q_skip ?_
                      refine k_block ?_
                      refine k_cut ((ins, out, A7, c7, D)) (⟨rfl, rfl, rfl, rfl, rfl, rfl, trivial⟩) (⟨by first | (simp; done) | (simp; omega) | (dsimp only; omega), by first | (simp; done) | (simp; omega) | (dsimp only; omega), ho7, hb162, hsep, hrx, hE⟩)
                    · refine wc_seq ?_
                      refine wc_regionL ?_
                      refine wl_val (ov_move rfl) rfl rfl rfl ?_
                      refine wl_val (ov_field0 (off := 1) fo42_1 rfl) rfl rfl rfl ?_
                      refine wl_val (ov_loadAt oc3 rfl hb_g10 rfl) rfl rfl rfl ?_
                      refine wl_step (or_call0 cl23 rfl rfl (bskipm_ok _ w.heap.size gn33 D m (ins.drop out) ins.length out hbuf a2 (by omega) (by omega) (by omega) (by omega))) rfl rfl rfl ?_
                      rintro v w205 ⟨rfl, hb162, hC162⟩
                      have hDa162 : ∀ x, D = some x → (w.heap.size ≤ x ∧ x < wq.heap.size) ∧ x < w204.heap.size := fun x e => ⟨hDs x e, (hbuf.lt.2 x e).2⟩
                      have hz_hC162 := hC162.size
                      replace ho7 := hC162.own ho7 (fun x e => by first | exact ⟨by have := hq_ho7 x e; omega, fun e2 => by have h1 := hq_ho7 x e; have h2 := hDa162 x e2; omega⟩ | exact hsep x e)
                      replace hrx := hC162.rd hrx (by omega) (fun x e => by have := hDa162 x e; omega)
                      replace hE := hC162.e0 hE (by omega) (fun x e => by have := hDa162 x e; omega)
                      replace hrq := hC162.rd hrq (by omega) (fun x e => by have := hDa162 x e; omega)
                      replace hb_g10 := hC162.bk hb_g10 (by omega) (fun e2 => by have := hDa162 _ e2; omega)
                      rw [hbs] at hb162
                      replace hb162 : Buf _ w.heap.size gn33 D m (ins.drop out) ins.length out := hb162
                      have hzb162 := hb162.lt.1
                      have hcp162 := hb162.cap
                      refine wl_spell (d := 162) rfl (v' := .int .i64 3) (by rw [hbs]; rfl) ?_
                      refine wl_val (ov_eql rfl rfl) rfl rfl rfl ?_
                      refine q_nil ?_
                      refine k_then ?_
                      refine wc_cond_f rfl ?_
                      refine q_skip ?_
                      refine k_block ?_
                      refine k_cut ((ins, out, A7, c7, D)) (⟨rfl, rfl, rfl, rfl, rfl, rfl, trivial⟩) (⟨by first | (simp; done) | (simp; omega) | (dsimp only; omega), by first | (simp; done) | (simp; omega) | (dsimp only; omega), ho7, hb162, hsep, hrx, hE⟩)
                    · refine wc_seq ?_
                      refine wc_regionL ?_
                      refine wl_val (ov_move rfl) rfl rfl rfl ?_
                      refine wl_val (ov_field0 (off := 1) fo42_1 rfl) rfl rfl rfl ?_
                      refine wl_val (ov_loadAt oc3 rfl hb_g10 rfl) rfl rfl rfl ?_
                      refine wl_step (or_call0 cl23 rfl rfl (bskipm_ok _ w.heap.size gn33 D m (ins.drop out) ins.length out hbuf a2 (by omega) (by omega) (by omega) (by omega))) rfl rfl rfl ?_
                      rintro v w205 ⟨rfl, hb162, hC162⟩
                      have hDa162 : ∀ x, D = some x → (w.heap.size ≤ x ∧ x < wq.heap.size) ∧ x < w204.heap.size := fun x e => ⟨hDs x e, (hbuf.lt.2 x e).2⟩
                      have hz_hC162 := hC162.size
                      replace ho7 := hC162.own ho7 (fun x e => by first | exact ⟨by have := hq_ho7 x e; omega, fun e2 => by have h1 := hq_ho7 x e; have h2 := hDa162 x e2; omega⟩ | exact hsep x e)
                      replace hrx := hC162.rd hrx (by omega) (fun x e => by have := hDa162 x e; omega)
                      replace hE := hC162.e0 hE (by omega) (fun x e => by have := hDa162 x e; omega)
                      replace hrq := hC162.rd hrq (by omega) (fun x e => by have := hDa162 x e; omega)
                      replace hb_g10 := hC162.bk hb_g10 (by omega) (fun e2 => by have := hDa162 _ e2; omega)
                      rw [hbs] at hb162; simp only [List.drop_drop] at hb162
                      replace hb162 : Buf _ w.heap.size gn33 D m (ins.drop (out + a2.toNat)) ins.length (out + a2.toNat) := hb162
                      have hzb162 := hb162.lt.1
                      have hcp162 := hb162.cap
                      refine wl_spell (d := 162) rfl (v' := .int .i64 0) (by rw [hbs]; rfl) ?_
                      refine wl_val (ov_eql rfl rfl) rfl rfl rfl ?_
                      refine q_nil ?_
                      refine k_then ?_
                      refine wc_cond_t rfl ?_
                      refine wc_regionL ?_
                      refine wl_val (ov_move rfl) rfl rfl rfl ?_
                      refine wl_val (ov_field0 (off := 1) fo42_1 rfl) rfl rfl rfl ?_
                      refine wl_val (ov_loadAt oc3 rfl hb_g10 rfl) rfl rfl rfl ?_
                      refine wl_val (ov_add rfl rfl (m := ((out + a2.toNat : Nat) : Int)) (by rw [show (out : Int) + a2 = ((out + a2.toNat : Nat) : Int) by omega]; exact wi64 (by omega) (by omega))) rfl rfl rfl ?_
                      refine wl_val (ov_assign rfl) rfl rfl rfl ?_
                      refine q_nil ?_
                      refine k_block ?_
                      refine k_cut ((ins, out + a2.toNat, A7, c7, D)) (⟨rfl, rfl, rfl, rfl, rfl, rfl, trivial⟩) (⟨by first | (simp; done) | (simp; omega) | (dsimp only; omega), by first | (simp; done) | (simp; omega) | (dsimp only; omega), ho7, hb162, hsep, hrx, hE⟩)
                  · refine wc_seq ?_
                    refine wc_regionL ?_
                    refine wl_val (ov_eql rfl rfl) rfl rfl rfl ?_
                    refine wl_val (ov_assign rfl) rfl rfl rfl ?_
                    refine q_nil ?_
                    refine k_then ?_
                    refine wc_cond_d rfl (fun hc13 => ?_) (fun hc13 => ?_)
                    · refine wc_seq ?_
                      refine wc_regionL ?_
                      refine wl_val (ov_move rfl) rfl rfl rfl ?_
                      refine wl_step (or_call0 cl24 rfl rfl (bclear_ok _ w.heap.size gn33 D m (ins.drop out) ins.length out hbuf (by omega) (by omega))) rfl rfl rfl ?_
                      rintro v w205 ⟨rfl, hb172, hC172⟩
                      have hDa172 : ∀ x, D = some x → (w.heap.size ≤ x ∧ x < wq.heap.size) ∧ x < w204.heap.size := fun x e => ⟨hDs x e, (hbuf.lt.2 x e).2⟩
                      have hz_hC172 := hC172.size
                      replace ho7 := hC172.own ho7 (fun x e => by first | exact ⟨by have := hq_ho7 x e; omega, fun e2 => by have h1 := hq_ho7 x e; have h2 := hDa172 x e2; omega⟩ | exact hsep x e)
                      replace hrx := hC172.rd hrx (by omega) (fun x e => by have := hDa172 x e; omega)
                      replace hE := hC172.e0 hE (by omega) (fun x e => by have := hDa172 x e; omega)
                      replace hrq := hC172.rd hrq (by omega) (fun x e => by have := hDa172 x e; omega)
                      replace hb_g10 := hC172.bk hb_g10 (by omega) (fun e2 => by have := hDa172 _ e2; omega)
                      rw [show out + (ins.drop out).length = ins.length by omega] at hb172
                      replace hb172 : Buf _ w.heap.size gn33 D m [] ins.length ins.length := hb172
                      have hzb172 := hb172.lt.1
                      have hcp172 := hb172.cap
                      refine wl_val (ov_move rfl) rfl rfl rfl ?_
                      refine wl_val (ov_extract rfl rfl) rfl rfl rfl ?_
                      refine wl_val (ov_extract rfl rfl) rfl rfl rfl ?_
                      refine wl_val (ov_assign rfl) rfl rfl rfl ?_
                      refine wl_val (ov_assign rfl) rfl rfl rfl ?_
                      refine q_nil ?_
                      refine k_then ?_
                      refine wc_seq ?_
                      refine wc_seq ?_
                      refine wc_regionL ?_
                      refine wl_val (ov_move rfl) rfl rfl rfl ?_
                      refine wl_val (ov_neq rfl rfl) rfl rfl rfl ?_
                      refine wl_val (ov_move rfl) rfl rfl rfl ?_
                      refine wl_gval (ov_move rfl) rfl rfl rfl rfl rfl ?_
                      refine wl_gval (ov_move rfl) rfl rfl rfl rfl rfl ?_
                      refine wl_gval (ov_len Try.underlying26 rfl) rfl rfl rfl rfl rfl ?_
                      refine wl_gval (ov_move rfl) rfl rfl rfl rfl rfl ?_
                      refine wl_gval (ov_sub rfl rfl (wi64 (by omega) (by omega))) rfl rfl rfl rfl rfl ?_
                      refine wl_gval (ov_neq rfl rfl) rfl rfl rfl rfl rfl ?_
                      refine wl_spell (d := 183) rfl (bf (by omega)) ?_
                      refine wl_val (ov_pick_f rfl rfl) rfl rfl rfl ?_
                      refine q_nil ?_
                      refine k_then ?_
                      refine wc_cond_f rfl ?_
                      refine q_skip ?_
                      refine k_then ?_
                      refine wc_regionL ?_
                      refine wl_val (ov_move rfl) rfl rfl rfl ?_
                      refine wl_val (ov_len Try.underlying26 rfl) rfl rfl rfl ?_
                      refine wl_val (ov_assign rfl) rfl rfl rfl ?_
                      refine q_nil ?_
                      refine k_block ?_
                      refine k_cut ((ins, ins.length, A7, c7, D)) (⟨rfl, rfl, rfl, rfl, rfl, rfl, trivial⟩) (⟨by first | (simp; done) | (simp; omega) | (dsimp only; omega), by first | (simp; done) | (simp; omega) | (dsimp only; omega), ho7, by show Buf _ _ _ D m (ins.drop ins.length) ins.length ins.length; rw [List.drop_length]; exact hb172, hsep, hrx, hE⟩)
                    · refine q_skip ?_
                      refine k_block ?_
                      refine k_cut ((ins, out, A7, c7, D)) (⟨rfl, rfl, rfl, rfl, rfl, rfl, trivial⟩) (⟨by first | (simp; done) | (simp; omega) | (dsimp only; omega), by first | (simp; done) | (simp; omega) | (dsimp only; omega), ho7, hbuf, hsep, hrx, hE⟩)
          · rintro ⟨inz, ouz, A8, c8, D8⟩ wr ⟨hins8, hout8, ho8, hbuf8, hsep8, hrx, hE⟩
            show KQ _ _ _ [(0, (.int .i64 (↑m : Int))), (1, (.slice C xs.length cx)), (5, (.pointer (some ⟨gn33, 0, none⟩))), (7, (.slice A8 inz.length c8)), (8, (.int .i64 (↑ouz : Int))), (9, (.int .i64 (↑k : Int)))] _
            replace hins8 : inz.length ≤ 100 * (k + 1) := hins8
            replace hout8 : ouz ≤ inz.length := hout8
            replace ho8 : OwnB wr w.heap.size 5 A8 c8 inz := ho8
            replace hbuf8 : Buf wr w.heap.size gn33 D8 m (inz.drop ouz) inz.length ouz := hbuf8
            replace hsep8 : ∀ x, blk A8 = some x → x ≠ gn33 ∧ D8 ≠ some x := hsep8
            have hz_E8 := hE.size
            have hcp8 := hbuf8.cap
            have hld8 : (inz.drop ouz).length = inz.length - ouz := List.length_drop
            have hDs8 : ∀ x, D8 = some x → w.heap.size ≤ x ∧ x < wr.heap.size := fun x e => hbuf8.lt.2 x e
            refine k_then ?_
            refine wc_seq ?_
            refine wc_regionL ?_
            refine wl_val (ov_move rfl) rfl rfl rfl ?_
            refine wl_step (or_call0 cl20 rfl rfl (blen_ok _ _ _ _ _ _ _ _ hbuf8)) rfl rfl rfl ?_
            rintro v w205 ⟨rfl, he188⟩
            replace ho8 := Own.ext ho8 he188
            replace hbuf8 := hbuf8.ext he188
            replace hrx := hrx.ext he188
            replace hE := hE.tr he188
            have hz_he188 := he188.size
            refine wl_val (ov_move rfl) rfl rfl rfl ?_
            refine wl_val (ov_gtr rfl rfl) rfl rfl rfl ?_
            refine wl_spell (d := 190) rfl (bf (by omega)) ?_
            refine wl_val (ov_move rfl) rfl rfl rfl ?_
            refine wl_gval (ov_move rfl) rfl rfl rfl rfl rfl ?_
            refine wl_gstep (or_call0 cl20 rfl rfl (blen_ok _ _ _ _ _ _ _ _ hbuf8)) rfl rfl rfl rfl rfl ?_
            rintro v w206 ⟨rfl, he193⟩
            replace ho8 := Own.ext ho8 he193
            replace hbuf8 := hbuf8.ext he193
            replace hrx := hrx.ext he193
            replace hE := hE.tr he193
            have hz_he193 := he193.size
            refine wl_gval (ov_move rfl) rfl rfl rfl rfl rfl ?_
            refine wl_gval (ov_len Try.underlying26 rfl) rfl rfl rfl rfl rfl ?_
            refine wl_gval (ov_move rfl) rfl rfl rfl rfl rfl ?_
            refine wl_gval (ov_sub rfl rfl (wi64 (by omega) (by omega))) rfl rfl rfl rfl rfl ?_
            refine wl_gval (ov_neq rfl rfl) rfl rfl rfl rfl rfl ?_
            refine wl_spell (d := 198) rfl (bf (by omega)) ?_
            refine wl_val (ov_pick_f rfl rfl) rfl rfl rfl ?_
            refine wl_val (ov_move rfl) rfl rfl rfl ?_
            refine wl_gval (ov_move rfl) rfl rfl rfl rfl rfl ?_
            refine wl_gstep (or_call0 cl20 rfl rfl (blen_ok _ _ _ _ _ _ _ _ hbuf8)) rfl rfl rfl rfl rfl ?_
            rintro v w207 ⟨rfl, he202⟩
            replace ho8 := Own.ext ho8 he202
            replace hbuf8 := hbuf8.ext he202
            replace hrx := hrx.ext he202
            replace hE := hE.tr he202
            have hz_he202 := he202.size
            refine wl_gval (ov_move rfl) rfl rfl rfl rfl rfl ?_
            refine wl_gstep (or_call0 cl19 rfl rfl (broom_ok _ _ _ _ _ _ _ _ hbuf8)) rfl rfl rfl rfl rfl ?_
            rintro v w208 ⟨rfl, he204⟩
            replace ho8 := Own.ext ho8 he204
            replace hbuf8 := hbuf8.ext he204
            replace hrx := hrx.ext he204
            replace hE := hE.tr he204
            have hz_he204 := he204.size
            refine wl_gval (ov_add rfl rfl (wi64 (by omega) (by omega))) rfl rfl rfl rfl rfl ?_
            refine wl_gval (ov_move rfl) rfl rfl rfl rfl rfl ?_
            refine wl_gval (ov_neq rfl rfl) rfl rfl rfl rfl rfl ?_
            refine wl_spell (d := 207) rfl (bf (by omega)) ?_
            refine wl_val (ov_pick_f rfl rfl) rfl rfl rfl ?_
            refine wl_val (ov_move rfl) rfl rfl rfl ?_
            refine wl_gval (ov_move rfl) rfl rfl rfl rfl rfl ?_
            refine wl_gval (ov_move rfl) rfl rfl rfl rfl rfl ?_
            refine wl_gval (ov_len Try.underlying26 rfl) rfl rfl rfl rfl rfl ?_
            refine wl_gval (ov_conv Try.underlying3 Try.underlying27 rfl (wu64 (by omega) (by omega))) rfl rfl rfl rfl rfl ?_
            refine wl_gval (ov_move rfl) rfl rfl rfl rfl rfl ?_
            refine wl_gval (ov_conv Try.underlying3 Try.underlying27 rfl (wu64 (by omega) (by omega))) rfl rfl rfl rfl rfl ?_
            refine wl_gstep (or_call0 cl25 rfl rfl (lcounts_ok _ w.heap.size gn33 D8 m (inz.drop ouz) inz.length ouz hbuf8 (inz.length) (ouz) (by omega) (by omega))) rfl rfl rfl rfl rfl ?_
            rintro v w209 ⟨rfl, he216⟩
            replace ho8 := Own.ext ho8 he216
            replace hbuf8 := hbuf8.ext he216
            replace hrx := hrx.ext he216
            replace hE := hE.tr he216
            have hz_he216 := he216.size
            refine wl_gval (ov_not (b := true) rfl) rfl rfl rfl rfl rfl ?_
            refine wl_val (ov_pick_f rfl rfl) rfl rfl rfl ?_
            refine q_nil ?_
            refine k_then ?_
            refine wc_cond_f rfl ?_
            refine q_skip ?_
            refine k_block ?_
            refine k_then ?_
            refine wc_regionL ?_
            refine wl_val (ov_move rfl) rfl rfl rfl ?_
            refine wl_val (ov_add rfl rfl (wi64 (by omega) (by omega))) rfl rfl rfl ?_
            refine wl_val (ov_assign rfl) rfl rfl rfl ?_
            refine q_nil ?_
            refine k_loop ((k + 1, inz, ouz, A8, c8, D8)) (by show xs.length - (k + 1) < xs.length - k; omega) (⟨rfl, rfl, rfl, rfl, rfl, rfl, trivial⟩) (⟨by show k + 1 ≤ _; omega, by show inz.length ≤ 100 * (k + 1); omega, hout8, ho8, hbuf8, hsep8, hrx, hE⟩)
        · refine q_exit ?_
          refine k_thenX ?_
          refine k_thenX ?_
          refine k_blockE ?_
          refine k_then ?_
          refine wc_seq ?_
          refine wc_regionL ?_
          refine wl_step (or_call0 cl16 rfl rfl (known27_any _)) rfl rfl rfl ?_
          rintro v w203 ⟨rfl, he219⟩
          replace ho7 := Own.ext ho7 he219
          replace hbuf := hbuf.ext he219
          replace hrx := hrx.ext he219
          replace hE := hE.tr he219
          have hz_he219 := he219.size
          refine wl_val (ov_assign rfl) rfl rfl rfl ?_
          refine q_nil ?_
          refine k_then ?_
          refine q_ret ?_
          refine e_ret rfl rfl ?_
          exact ⟨rfl, hE⟩
      · refine wl_gval (ov_not (b := false) rfl) rfl rfl rfl rfl rfl ?_
        refine wl_val (ov_pick_f rfl rfl) rfl rfl rfl ?_
        refine q_nil ?_
        refine k_then ?_
        refine wc_cond_t rfl ?_
        refine wc_seq ?_
        refine wc_regionL ?_
        refine wl_step (or_call0 cl16 rfl rfl (known27_any _)) rfl rfl rfl ?_
        rintro v w202 ⟨rfl, he30⟩
        replace hrx := hrx.ext he30
        replace hE := hE.tr he30
        have hz_he30 := he30.size
        refine wl_val (ov_assign rfl) rfl rfl rfl ?_
        refine q_nil ?_
        refine k_then ?_
        refine q_ret ?_
        refine k_thenR ?_
        refine e_ret rfl rfl ?_
        exact ⟨rfl, hE⟩

end Go.Proofs.Ytopfjpkjpmdhaaa
