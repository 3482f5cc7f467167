/-
  The walk of RequestWords.
-/
import Derived.Test.YtohnkjjjejnkpaaDoorKa
namespace Go.Proofs.YtohnkjjjejnkpaaDoor
open Go.RowKit
set_option linter.unusedVariables false
set_option maxRecDepth 4000
theorem cl11 : callable Tryd.prog 11 = true := by kernel_rfl
theorem cl9 : callable Tryd.prog 9 = true := by kernel_rfl

theorem requestWords_walk (w : World) (op : Int) (hop1 : -9223372036854775808 ≤ op) (hop2 : op ≤ 9223372036854775807) (word : List UInt8) (hW : WordsAt w) :
    Fn Tryd.prog 3 #[(.int .i64 op), (.string (strB word))] w (fun v w' => v = .bool true ∧ Ext w w')  := by
  have hE := ext_refl w
  refine fn_enter (args := [(.int .i64 op), (.string (strB word))]) Tryd.func3 rfl rfl rfl ?_
  show WC _ _ _ _ [(0, (.int .i64 op)), (1, (.string (strB word)))] _
  refine wc_seq (wc_regionL ?_)
  refine wl_val (ov_assign rfl) rfl rfl rfl ?_
  refine q_nil (k_then (wc_seq (wc_seq (wc_regionL ?_))))
  refine wl_val (ov_move rfl) rfl rfl rfl ?_
  refine wl_val (ov_slen Tryd.underlying9 rfl) rfl rfl rfl ?_
  refine wl_val (ov_gtr rfl rfl) rfl rfl rfl ?_
  refine q_nil (k_then ?_)
  refine wc_cond_d rfl (fun hc1 => ?_) (fun hc1 => ?_)
  · refine wc_seq (wc_regionL ?_)
    refine wl_step (or_call0 cl9 rfl rfl (known07_any _ (hW.ext hE))) rfl rfl rfl ?_
    rintro v w1 ⟨rfl, he14⟩
    replace hE := hE.tr he14
    have hz_he14 := he14.size
    refine wl_val (ov_assign rfl) rfl rfl rfl ?_
    refine q_nil (k_then (q_ret (k_thenR ?_)))
    refine e_ret rfl rfl ?_
    exact ⟨rfl, hE⟩
  · refine q_skip (k_then (wc_seq (wc_regionL ?_)))
    refine wl_val (ov_move rfl) rfl rfl rfl ?_
    refine wl_val (or_call0 cl10 rfl rfl (word_any _ op (hW.ext hE))) rfl rfl rfl ?_
    refine wl_val (ov_move rfl) rfl rfl rfl ?_
    refine wl_val (ov_extract rfl rfl) rfl rfl rfl ?_
    refine wl_val (ov_extract rfl rfl) rfl rfl rfl ?_
    refine wl_val (ov_assign rfl) rfl rfl rfl ?_
    refine wl_val (ov_assign rfl) rfl rfl rfl ?_
    refine q_nil (k_then (wc_seq (wc_regionL ?_)))
    refine wl_step (or_call0 cl11 rfl rfl (rwords_any _)) rfl rfl rfl ?_
    rintro v w201 ⟨A20, c20, rfl, hr20, he20⟩
    replace hE := hE.tr he20
    have hz_he20 := he20.size
    refine wl_val (ov_assign rfl) rfl rfl rfl ?_
    refine q_nil (k_then (wc_seq (wc_seq (wc_regionL ?_))))
    refine wl_val (ov_move rfl) rfl rfl rfl ?_
    refine wl_val (ov_lss rfl rfl) rfl rfl rfl ?_
    refine wl_case_d (d := 22) rfl (fun h22 => ?_) (fun h22 => ?_)
    · have hwc : wordC op = ([], 2) := if_neg (by omega)
      refine wl_val (ov_move rfl) rfl rfl rfl ?_
      refine wl_gskip rfl rfl rfl rfl rfl rfl ?_
      refine wl_gskip rfl rfl rfl rfl rfl rfl ?_
      refine wl_val (ov_pick_t rfl rfl) rfl rfl rfl ?_
      refine q_nil (k_then ?_)
      refine wc_cond_t rfl ?_
      refine wc_seq (wc_regionL ?_)
      refine wl_val (ov_move rfl) rfl rfl rfl ?_
      refine wl_val (ov_sne rfl rfl) rfl rfl rfl ?_
      refine wl_spell (d := 28) rfl (bf (by rw [hwc]; simp)) ?_
      refine wl_val (ov_move rfl) rfl rfl rfl ?_
      refine wl_gval (ov_move rfl) rfl rfl rfl rfl rfl ?_
      refine wl_gval (ov_neq rfl rfl) rfl rfl rfl rfl rfl ?_
      refine wl_spell (d := 31) rfl (bf (by rw [hwc]; simp)) ?_
      refine wl_val (ov_pick_f rfl rfl) rfl rfl rfl ?_
      refine q_nil (k_then ?_)
      refine wc_cond_f rfl ?_
      refine q_skip (k_then (wc_seq (wc_regionL ?_)))
      refine wl_val (ov_move rfl) rfl rfl rfl ?_
      refine wl_val (or_call0 cl12 rfl rfl (op_any _ word (hW.ext hE))) rfl rfl rfl ?_
      refine wl_val (ov_move rfl) rfl rfl rfl ?_
      refine wl_val (ov_extract rfl rfl) rfl rfl rfl ?_
      refine wl_val (ov_extract rfl rfl) rfl rfl rfl ?_
      refine wl_val (ov_assign rfl) rfl rfl rfl ?_
      refine wl_val (ov_assign rfl) rfl rfl rfl ?_
      refine q_nil (k_then (wc_seq (wc_seq (wc_regionL ?_))))
      refine wl_val (ov_assign rfl) rfl rfl rfl ?_
      refine q_nil (k_then (wc_block ?_))
      refine wc_loop (σ := Nat) (fun k => 16 - k) (fun k => [(1, .string (strB word)), (7, .slice A20 16 c20), (8, .int .i64 ((opC word).1 : Int)), (9, .int .i64 ((opC word).2 : Int)), (10, .int .i64 (k : Int))]) (fun k w' => 1 ≤ k ∧ k ≤ 16 ∧ opC word = opI word k (wordsL.drop k) ∧ RdS w' 0 w'.heap.size A20 c20 wordsL ∧ Ext w w') (1) (⟨by omega, by omega, rfl, (Rd.top hr20).mono (Nat.zero_le _) (Nat.le_refl _), hE⟩) (⟨rfl, rfl, rfl, rfl, rfl, trivial⟩) ?_
      rintro k wq ⟨hk1, hk16, ho, hr20, hE⟩
      show WC _ _ _ _ [(1, (.string (strB word))), (7, (.slice A20 16 c20)), (8, (.int .i64 (↑(opC word).1 : Int))), (9, (.int .i64 (↑(opC word).2 : Int))), (10, (.int .i64 (↑k : Int)))] _
      refine wc_seq (wc_seq (wc_regionL ?_))
      refine wl_val (ov_move rfl) rfl rfl rfl ?_
      refine wl_val (ov_move rfl) rfl rfl rfl ?_
      refine wl_val (ov_len Tryd.underlying27 rfl) rfl rfl rfl ?_
      refine wl_val (ov_lss rfl rfl) rfl rfl rfl ?_
      refine q_nil (k_then ?_)
      refine wc_cond_d rfl (fun hc5 => ?_) (fun hc5 => ?_)
      · obtain ⟨s, hk, hg⟩ := words_at (k := k) (by omega)
        refine q_skip (k_then (wc_seq (wc_block (wc_seq (wc_regionL ?_)))))
        refine wl_val (ov_move rfl) rfl rfl rfl ?_
        refine wl_val (ov_move rfl) rfl rfl rfl ?_
        refine wl_step (or_rindex (m := (k)) sl27 rfl rfl hr20 (fun _ _ => rfl) hk) rfl rfl rfl ?_
        rintro v _ ⟨rfl, p56, rfl, hp56, hpl56, hph56⟩
        refine wl_val (ov_load oc9 rfl (cell_zero hp56 rfl)) rfl rfl rfl ?_
        refine wl_val (ov_move rfl) rfl rfl rfl ?_
        refine wl_val (ov_seq rfl rfl) rfl rfl rfl ?_
        refine q_nil (k_then ?_)
        refine wc_cond_d rfl (fun hc6 => ?_) (fun hc6 => ?_)
        · have hoc : opC word = (k, 0) := by rw [ho, words_drop hk, opI, if_pos hc6]
          refine wc_seq (wc_regionL ?_)
          refine wl_val (ov_move rfl) rfl rfl rfl ?_
          refine wl_val (ov_move rfl) rfl rfl rfl ?_
          refine wl_val (ov_eql rfl rfl) rfl rfl rfl ?_
          refine wl_spell (d := 62) rfl (bt (by rw [hoc])) ?_
          refine wl_val (ov_move rfl) rfl rfl rfl ?_
          refine wl_gval (ov_move rfl) rfl rfl rfl rfl rfl ?_
          refine wl_gval (ov_eql rfl rfl) rfl rfl rfl rfl rfl ?_
          refine wl_spell (d := 65) rfl (bt (by rw [hoc]; rfl)) ?_
          refine wl_val (ov_pick_t rfl rfl) rfl rfl rfl ?_
          refine wl_val (ov_move rfl) rfl rfl rfl ?_
          refine wl_gstep (or_call0 cl9 rfl rfl (known07_any _ (hW.ext hE))) rfl rfl rfl rfl rfl ?_
          rintro v w202 ⟨rfl, he68⟩
          replace hr20 := hr20.ext he68
          replace hE := hE.tr he68
          have hz_he68 := he68.size
          refine wl_val (ov_pick_t rfl rfl) rfl rfl rfl ?_
          refine wl_val (ov_assign rfl) rfl rfl rfl ?_
          refine q_nil (k_then (q_ret (k_blockR (k_thenR (k_thenR (k_blockR (k_thenR ?_)))))))
          refine e_ret rfl rfl ?_
          exact ⟨rfl, hE⟩
        · refine q_skip (k_block (k_then (wc_regionL ?_)))
          refine wl_val (ov_move rfl) rfl rfl rfl ?_
          refine wl_val (ov_add rfl rfl (wi64 (by omega) (by omega))) rfl rfl rfl ?_
          refine wl_val (ov_assign rfl) rfl rfl rfl ?_
          refine q_nil ?_
          refine k_loop (k + 1) (by show 16 - (k + 1) < 16 - k; omega) (⟨rfl, rfl, rfl, rfl, rfl, trivial⟩) (⟨by omega, by omega, by rw [ho, words_drop hk, opI, if_neg hc6], Rd.top hr20, hE⟩)
      · have h16 : k = 16 := by omega
        have hoc : opC word = (0, 6) := by rw [ho, h16]; rfl
        refine q_exit (k_thenX (k_thenX (k_blockE (k_then (wc_seq (wc_regionL ?_))))))
        refine wl_val (ov_move rfl) rfl rfl rfl ?_
        refine wl_val (ov_eql rfl rfl) rfl rfl rfl ?_
        refine wl_spell (d := 71) rfl (bt (by rw [hoc]; rfl)) ?_
        refine wl_val (ov_move rfl) rfl rfl rfl ?_
        refine wl_gval (ov_move rfl) rfl rfl rfl rfl rfl ?_
        refine wl_gval (ov_eql rfl rfl) rfl rfl rfl rfl rfl ?_
        refine wl_spell (d := 74) rfl (bt (by rw [hoc]; rfl)) ?_
        refine wl_val (ov_pick_t rfl rfl) rfl rfl rfl ?_
        refine wl_val (ov_move rfl) rfl rfl rfl ?_
        refine wl_gstep (or_call0 cl9 rfl rfl (known07_any _ (hW.ext hE))) rfl rfl rfl rfl rfl ?_
        rintro v w202 ⟨rfl, he77⟩
        replace hr20 := hr20.ext he77
        replace hE := hE.tr he77
        have hz_he77 := he77.size
        refine wl_val (ov_pick_t rfl rfl) rfl rfl rfl ?_
        refine wl_val (ov_assign rfl) rfl rfl rfl ?_
        refine q_nil (k_then (q_ret ?_))
        refine e_ret rfl rfl ?_
        exact ⟨rfl, hE⟩
    · refine wl_val (ov_move rfl) rfl rfl rfl ?_
      refine wl_gval (ov_move rfl) rfl rfl rfl rfl rfl ?_
      refine wl_gval (ov_gtr rfl rfl) rfl rfl rfl rfl rfl ?_
      refine wl_val (ov_pick_f rfl rfl) rfl rfl rfl ?_
      refine q_nil (k_then ?_)
      refine wc_cond_d rfl (fun hc2 => ?_) (fun hc2 => ?_)
      · have hwc : wordC op = ([], 2) := if_neg (by omega)
        refine wc_seq (wc_regionL ?_)
        refine wl_val (ov_move rfl) rfl rfl rfl ?_
        refine wl_val (ov_sne rfl rfl) rfl rfl rfl ?_
        refine wl_spell (d := 28) rfl (bf (by rw [hwc]; simp)) ?_
        refine wl_val (ov_move rfl) rfl rfl rfl ?_
        refine wl_gval (ov_move rfl) rfl rfl rfl rfl rfl ?_
        refine wl_gval (ov_neq rfl rfl) rfl rfl rfl rfl rfl ?_
        refine wl_spell (d := 31) rfl (bf (by rw [hwc]; simp)) ?_
        refine wl_val (ov_pick_f rfl rfl) rfl rfl rfl ?_
        refine q_nil (k_then ?_)
        refine wc_cond_f rfl ?_
        refine q_skip (k_then (wc_seq (wc_regionL ?_)))
        refine wl_val (ov_move rfl) rfl rfl rfl ?_
        refine wl_val (or_call0 cl12 rfl rfl (op_any _ word (hW.ext hE))) rfl rfl rfl ?_
        refine wl_val (ov_move rfl) rfl rfl rfl ?_
        refine wl_val (ov_extract rfl rfl) rfl rfl rfl ?_
        refine wl_val (ov_extract rfl rfl) rfl rfl rfl ?_
        refine wl_val (ov_assign rfl) rfl rfl rfl ?_
        refine wl_val (ov_assign rfl) rfl rfl rfl ?_
        refine q_nil (k_then (wc_seq (wc_seq (wc_regionL ?_))))
        refine wl_val (ov_assign rfl) rfl rfl rfl ?_
        refine q_nil (k_then (wc_block ?_))
        refine wc_loop (σ := Nat) (fun k => 16 - k) (fun k => [(1, .string (strB word)), (7, .slice A20 16 c20), (8, .int .i64 ((opC word).1 : Int)), (9, .int .i64 ((opC word).2 : Int)), (10, .int .i64 (k : Int))]) (fun k w' => 1 ≤ k ∧ k ≤ 16 ∧ opC word = opI word k (wordsL.drop k) ∧ RdS w' 0 w'.heap.size A20 c20 wordsL ∧ Ext w w') (1) (⟨by omega, by omega, rfl, (Rd.top hr20).mono (Nat.zero_le _) (Nat.le_refl _), hE⟩) (⟨rfl, rfl, rfl, rfl, rfl, trivial⟩) ?_
        rintro k wq ⟨hk1, hk16, ho, hr20, hE⟩
        show WC _ _ _ _ [(1, (.string (strB word))), (7, (.slice A20 16 c20)), (8, (.int .i64 (↑(opC word).1 : Int))), (9, (.int .i64 (↑(opC word).2 : Int))), (10, (.int .i64 (↑k : Int)))] _
        refine wc_seq (wc_seq (wc_regionL ?_))
        refine wl_val (ov_move rfl) rfl rfl rfl ?_
        refine wl_val (ov_move rfl) rfl rfl rfl ?_
        refine wl_val (ov_len Tryd.underlying27 rfl) rfl rfl rfl ?_
        refine wl_val (ov_lss rfl rfl) rfl rfl rfl ?_
        refine q_nil (k_then ?_)
        refine wc_cond_d rfl (fun hc5 => ?_) (fun hc5 => ?_)
        · obtain ⟨s, hk, hg⟩ := words_at (k := k) (by omega)
          refine q_skip (k_then (wc_seq (wc_block (wc_seq (wc_regionL ?_)))))
          refine wl_val (ov_move rfl) rfl rfl rfl ?_
          refine wl_val (ov_move rfl) rfl rfl rfl ?_
          refine wl_step (or_rindex (m := (k)) sl27 rfl rfl hr20 (fun _ _ => rfl) hk) rfl rfl rfl ?_
          rintro v _ ⟨rfl, p56, rfl, hp56, hpl56, hph56⟩
          refine wl_val (ov_load oc9 rfl (cell_zero hp56 rfl)) rfl rfl rfl ?_
          refine wl_val (ov_move rfl) rfl rfl rfl ?_
          refine wl_val (ov_seq rfl rfl) rfl rfl rfl ?_
          refine q_nil (k_then ?_)
          refine wc_cond_d rfl (fun hc6 => ?_) (fun hc6 => ?_)
          · have hoc : opC word = (k, 0) := by rw [ho, words_drop hk, opI, if_pos hc6]
            refine wc_seq (wc_regionL ?_)
            refine wl_val (ov_move rfl) rfl rfl rfl ?_
            refine wl_val (ov_move rfl) rfl rfl rfl ?_
            refine wl_val (ov_eql rfl rfl) rfl rfl rfl ?_
            refine wl_spell (d := 62) rfl (bt (by rw [hoc])) ?_
            refine wl_val (ov_move rfl) rfl rfl rfl ?_
            refine wl_gval (ov_move rfl) rfl rfl rfl rfl rfl ?_
            refine wl_gval (ov_eql rfl rfl) rfl rfl rfl rfl rfl ?_
            refine wl_spell (d := 65) rfl (bt (by rw [hoc]; rfl)) ?_
            refine wl_val (ov_pick_t rfl rfl) rfl rfl rfl ?_
            refine wl_val (ov_move rfl) rfl rfl rfl ?_
            refine wl_gstep (or_call0 cl9 rfl rfl (known07_any _ (hW.ext hE))) rfl rfl rfl rfl rfl ?_
            rintro v w202 ⟨rfl, he68⟩
            replace hr20 := hr20.ext he68
            replace hE := hE.tr he68
            have hz_he68 := he68.size
            refine wl_val (ov_pick_t rfl rfl) rfl rfl rfl ?_
            refine wl_val (ov_assign rfl) rfl rfl rfl ?_
            refine q_nil (k_then (q_ret (k_blockR (k_thenR (k_thenR (k_blockR (k_thenR ?_)))))))
            refine e_ret rfl rfl ?_
            exact ⟨rfl, hE⟩
          · refine q_skip (k_block (k_then (wc_regionL ?_)))
            refine wl_val (ov_move rfl) rfl rfl rfl ?_
            refine wl_val (ov_add rfl rfl (wi64 (by omega) (by omega))) rfl rfl rfl ?_
            refine wl_val (ov_assign rfl) rfl rfl rfl ?_
            refine q_nil ?_
            refine k_loop (k + 1) (by show 16 - (k + 1) < 16 - k; omega) (⟨rfl, rfl, rfl, rfl, rfl, trivial⟩) (⟨by omega, by omega, by rw [ho, words_drop hk, opI, if_neg hc6], Rd.top hr20, hE⟩)
        · have h16 : k = 16 := by omega
          have hoc : opC word = (0, 6) := by rw [ho, h16]; rfl
          refine q_exit (k_thenX (k_thenX (k_blockE (k_then (wc_seq (wc_regionL ?_))))))
          refine wl_val (ov_move rfl) rfl rfl rfl ?_
          refine wl_val (ov_eql rfl rfl) rfl rfl rfl ?_
          refine wl_spell (d := 71) rfl (bt (by rw [hoc]; rfl)) ?_
          refine wl_val (ov_move rfl) rfl rfl rfl ?_
          refine wl_gval (ov_move rfl) rfl rfl rfl rfl rfl ?_
          refine wl_gval (ov_eql rfl rfl) rfl rfl rfl rfl rfl ?_
          refine wl_spell (d := 74) rfl (bt (by rw [hoc]; rfl)) ?_
          refine wl_val (ov_pick_t rfl rfl) rfl rfl rfl ?_
          refine wl_val (ov_move rfl) rfl rfl rfl ?_
          refine wl_gstep (or_call0 cl9 rfl rfl (known07_any _ (hW.ext hE))) rfl rfl rfl rfl rfl ?_
          rintro v w202 ⟨rfl, he77⟩
          replace hr20 := hr20.ext he77
          replace hE := hE.tr he77
          have hz_he77 := he77.size
          refine wl_val (ov_pick_t rfl rfl) rfl rfl rfl ?_
          refine wl_val (ov_assign rfl) rfl rfl rfl ?_
          refine q_nil (k_then (q_ret ?_))
          refine e_ret rfl rfl ?_
          exact ⟨rfl, hE⟩
      · have hwc : wordC op = (wordsL.getD op.toNat [], 0) := if_pos (by omega)
        obtain ⟨s, hk, hg⟩ := words_at (k := op.toNat) (by omega)
        refine wc_seq (wc_regionL ?_)
        refine wl_val (ov_move rfl) rfl rfl rfl ?_
        refine wl_val (ov_move rfl) rfl rfl rfl ?_
        refine wl_val (ov_move rfl) rfl rfl rfl ?_
        refine wl_spell (d := 35) rfl (v' := (.int .i64 (↑op.toNat : Int))) (by rw [Int.toNat_of_nonneg (by omega)]) ?_
        refine wl_step (or_rindex (m := (op.toNat)) sl27 rfl rfl hr20 (fun _ _ => rfl) hk) rfl rfl rfl ?_
        rintro v _ ⟨rfl, p36, rfl, hp36, hpl36, hph36⟩
        refine wl_val (ov_load oc9 rfl (cell_zero hp36 rfl)) rfl rfl rfl ?_
        refine wl_val (ov_sne rfl rfl) rfl rfl rfl ?_
        refine wl_spell (d := 38) rfl (bf (by rw [hwc]; exact Decidable.not_not.2 hg)) ?_
        refine wl_val (ov_move rfl) rfl rfl rfl ?_
        refine wl_gval (ov_move rfl) rfl rfl rfl rfl rfl ?_
        refine wl_gval (ov_neq rfl rfl) rfl rfl rfl rfl rfl ?_
        refine wl_spell (d := 41) rfl (bf (by rw [hwc]; simp)) ?_
        refine wl_val (ov_pick_f rfl rfl) rfl rfl rfl ?_
        refine q_nil (k_then ?_)
        refine wc_cond_f rfl ?_
        refine q_skip (k_then (wc_seq (wc_regionL ?_)))
        refine wl_val (ov_move rfl) rfl rfl rfl ?_
        refine wl_val (or_call0 cl12 rfl rfl (op_any _ word (hW.ext hE))) rfl rfl rfl ?_
        refine wl_val (ov_move rfl) rfl rfl rfl ?_
        refine wl_val (ov_extract rfl rfl) rfl rfl rfl ?_
        refine wl_val (ov_extract rfl rfl) rfl rfl rfl ?_
        refine wl_val (ov_assign rfl) rfl rfl rfl ?_
        refine wl_val (ov_assign rfl) rfl rfl rfl ?_
        refine q_nil (k_then (wc_seq (wc_seq (wc_regionL ?_))))
        refine wl_val (ov_assign rfl) rfl rfl rfl ?_
        refine q_nil (k_then (wc_block ?_))
        refine wc_loop (σ := Nat) (fun k => 16 - k) (fun k => [(1, .string (strB word)), (7, .slice A20 16 c20), (8, .int .i64 ((opC word).1 : Int)), (9, .int .i64 ((opC word).2 : Int)), (10, .int .i64 (k : Int))]) (fun k w' => 1 ≤ k ∧ k ≤ 16 ∧ opC word = opI word k (wordsL.drop k) ∧ RdS w' 0 w'.heap.size A20 c20 wordsL ∧ Ext w w') (1) (⟨by omega, by omega, rfl, (Rd.top hr20).mono (Nat.zero_le _) (Nat.le_refl _), hE⟩) (⟨rfl, rfl, rfl, rfl, rfl, trivial⟩) ?_
        rintro k wq ⟨hk1, hk16, ho, hr20, hE⟩
        show WC _ _ _ _ [(1, (.string (strB word))), (7, (.slice A20 16 c20)), (8, (.int .i64 (↑(opC word).1 : Int))), (9, (.int .i64 (↑(opC word).2 : Int))), (10, (.int .i64 (↑k : Int)))] _
        refine wc_seq (wc_seq (wc_regionL ?_))
        refine wl_val (ov_move rfl) rfl rfl rfl ?_
        refine wl_val (ov_move rfl) rfl rfl rfl ?_
        refine wl_val (ov_len Tryd.underlying27 rfl) rfl rfl rfl ?_
        refine wl_val (ov_lss rfl rfl) rfl rfl rfl ?_
        refine q_nil (k_then ?_)
        refine wc_cond_d rfl (fun hc5 => ?_) (fun hc5 => ?_)
        · obtain ⟨s, hk, hg⟩ := words_at (k := k) (by omega)
          refine q_skip (k_then (wc_seq (wc_block (wc_seq (wc_regionL ?_)))))
          refine wl_val (ov_move rfl) rfl rfl rfl ?_
          refine wl_val (ov_move rfl) rfl rfl rfl ?_
          refine wl_step (or_rindex (m := (k)) sl27 rfl rfl hr20 (fun _ _ => rfl) hk) rfl rfl rfl ?_
          rintro v _ ⟨rfl, p56, rfl, hp56, hpl56, hph56⟩
          refine wl_val (ov_load oc9 rfl (cell_zero hp56 rfl)) rfl rfl rfl ?_
          refine wl_val (ov_move rfl) rfl rfl rfl ?_
          refine wl_val (ov_seq rfl rfl) rfl rfl rfl ?_
          refine q_nil (k_then ?_)
          refine wc_cond_d rfl (fun hc6 => ?_) (fun hc6 => ?_)
          · have hoc : opC word = (k, 0) := by rw [ho, words_drop hk, opI, if_pos hc6]
            refine wc_seq (wc_regionL ?_)
            refine wl_val (ov_move rfl) rfl rfl rfl ?_
            refine wl_val (ov_move rfl) rfl rfl rfl ?_
            refine wl_val (ov_eql rfl rfl) rfl rfl rfl ?_
            refine wl_spell (d := 62) rfl (bt (by rw [hoc])) ?_
            refine wl_val (ov_move rfl) rfl rfl rfl ?_
            refine wl_gval (ov_move rfl) rfl rfl rfl rfl rfl ?_
            refine wl_gval (ov_eql rfl rfl) rfl rfl rfl rfl rfl ?_
            refine wl_spell (d := 65) rfl (bt (by rw [hoc]; rfl)) ?_
            refine wl_val (ov_pick_t rfl rfl) rfl rfl rfl ?_
            refine wl_val (ov_move rfl) rfl rfl rfl ?_
            refine wl_gstep (or_call0 cl9 rfl rfl (known07_any _ (hW.ext hE))) rfl rfl rfl rfl rfl ?_
            rintro v w202 ⟨rfl, he68⟩
            replace hr20 := hr20.ext he68
            replace hE := hE.tr he68
            have hz_he68 := he68.size
            refine wl_val (ov_pick_t rfl rfl) rfl rfl rfl ?_
            refine wl_val (ov_assign rfl) rfl rfl rfl ?_
            refine q_nil (k_then (q_ret (k_blockR (k_thenR (k_thenR (k_blockR (k_thenR ?_)))))))
            refine e_ret rfl rfl ?_
            exact ⟨rfl, hE⟩
          · refine q_skip (k_block (k_then (wc_regionL ?_)))
            refine wl_val (ov_move rfl) rfl rfl rfl ?_
            refine wl_val (ov_add rfl rfl (wi64 (by omega) (by omega))) rfl rfl rfl ?_
            refine wl_val (ov_assign rfl) rfl rfl rfl ?_
            refine q_nil ?_
            refine k_loop (k + 1) (by show 16 - (k + 1) < 16 - k; omega) (⟨rfl, rfl, rfl, rfl, rfl, trivial⟩) (⟨by omega, by omega, by rw [ho, words_drop hk, opI, if_neg hc6], Rd.top hr20, hE⟩)
        · have h16 : k = 16 := by omega
          have hoc : opC word = (0, 6) := by rw [ho, h16]; rfl
          refine q_exit (k_thenX (k_thenX (k_blockE (k_then (wc_seq (wc_regionL ?_))))))
          refine wl_val (ov_move rfl) rfl rfl rfl ?_
          refine wl_val (ov_eql rfl rfl) rfl rfl rfl ?_
          refine wl_spell (d := 71) rfl (bt (by rw [hoc]; rfl)) ?_
          refine wl_val (ov_move rfl) rfl rfl rfl ?_
          refine wl_gval (ov_move rfl) rfl rfl rfl rfl rfl ?_
          refine wl_gval (ov_eql rfl rfl) rfl rfl rfl rfl rfl ?_
          refine wl_spell (d := 74) rfl (bt (by rw [hoc]; rfl)) ?_
          refine wl_val (ov_pick_t rfl rfl) rfl rfl rfl ?_
          refine wl_val (ov_move rfl) rfl rfl rfl ?_
          refine wl_gstep (or_call0 cl9 rfl rfl (known07_any _ (hW.ext hE))) rfl rfl rfl rfl rfl ?_
          rintro v w202 ⟨rfl, he77⟩
          replace hr20 := hr20.ext he77
          replace hE := hE.tr he77
          have hz_he77 := he77.size
          refine wl_val (ov_pick_t rfl rfl) rfl rfl rfl ?_
          refine wl_val (ov_assign rfl) rfl rfl rfl ?_
          refine q_nil (k_then (q_ret ?_))
          refine e_ret rfl rfl ?_
          exact ⟨rfl, hE⟩

end Go.Proofs.YtohnkjjjejnkpaaDoor
