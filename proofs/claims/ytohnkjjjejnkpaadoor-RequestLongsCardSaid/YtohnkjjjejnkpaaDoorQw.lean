/-
  The words of commands. Condition: that the words lie as they were laid.
-/
import Derived.Test.YtohnkjjjejnkpaaDoorReqR
namespace Go.Proofs.YtohnkjjjejnkpaaDoor
open Go.RowKit
set_option linter.unusedVariables false
set_option maxRecDepth 4000


/-- The words, as they lie. -/
def wordsL : List (List UInt8) := [[], [115, 101, 116], [97, 100, 100], [99, 97, 115], [103, 101, 116], [109, 103, 101, 116], [116, 111, 117, 99, 104], [100, 101, 108], [112, 117, 114, 103, 101], [115, 111, 102, 116], [112, 114, 101, 102, 105, 120], [100, 101, 112, 97, 100, 100], [100, 101, 112, 100, 101, 108], [105, 110, 118, 97, 108, 105, 100, 97, 116, 101], [102, 108, 117, 115, 104], [115, 116, 97, 116, 115]]
def WordsAt (w : World) : Prop := ∀ k s, wordsL[k]? = some s → w.cell? ⟨0, k, none⟩ = some (.string (strB s))
theorem WordsAt.ext {w w' : World} (h : WordsAt w) (he : Ext w w') : WordsAt w' := fun k s hk => ext_cell he (h k s hk)
theorem wordsL_len : wordsL.length = 16 := rfl
def wordC (op : Int) : List UInt8 × Nat := if 1 ≤ op ∧ op ≤ 15 then (wordsL.getD op.toNat [], 0) else ([], 2)
/-- The first word from the k-th on that is s. -/
def opI (s : List UInt8) : Nat → List (List UInt8) → Nat × Nat
  | _, [] => (0, 6)
  | k, x :: r => if x = s then (k, 0) else opI s (k + 1) r
def opC (s : List UInt8) : Nat × Nat := opI s 1 (wordsL.drop 1)
theorem words_drop {k : Nat} {s : List UInt8} (h : wordsL[k]? = some s) : wordsL.drop k = s :: wordsL.drop (k + 1) := by
  have hk := (List.getElem?_eq_some_iff.1 h).1
  rw [List.drop_eq_getElem_cons hk]
  congr 1
  have := List.getElem?_eq_getElem hk
  rw [h] at this; exact (Option.some.inj this).symm
theorem words_at {k : Nat} (h : k < 16) : ∃ s, wordsL[k]? = some s ∧ wordsL.getD k [] = s := by
  have hk : k < wordsL.length := h
  exact ⟨wordsL[k], List.getElem?_eq_getElem hk, by rw [List.getD_eq_getElem?_getD, List.getElem?_eq_getElem hk]; rfl⟩
section
variable {P : Program} {L : Env} {w : World} {d : Option Nat} {ty : TypeId} {pos : String} {aft : Array Edge} {gd : Option (Nat × Bool)}
/-- An element of an array behind a pointer. -/
theorem ov_gindex {t e n : Nat} {x y : Operand} {g : Nat} {k : IntKind} {i : Int} (m : Nat) (hu : P.underlying t = some (.array n e)) (hs : (P.info? e).map (·.size) = some 1) (hx : ev L x = some (.pointer (some ⟨g, 0, none⟩))) (hy : ev L y = some (.int k i)) (hi : i = (m : Int)) (h1' : m < n) :
    OpVal P ⟨d, .indexAddr t x y, ty, pos, aft, gd⟩ L w (.pointer (some ⟨g, m, none⟩)) :=
  opVal_of fun ρ h1 _ => by
    obtain ⟨inf, hinf, hsz⟩ := Option.map_eq_some_iff.1 hs
    have h0 : 0 ≤ i := by omega
    have h2 : i < (n : Int) := by omega
    have hm : i.toNat = m := by omega
    simp [execOp, h1 x _ hx, h1 y _ hy, Instr.indexAt, run_underlying hu, asIntOf, Instr.sureAddr, h0, h2, sizeOf_run hinf, hsz, hm, Addr.add]
    intro h; exact h.symm
end

theorem word_any (w : World) (op : Int) (hW : WordsAt w) :
    Fn Tryd.prog 10 #[(.int .i64 op)] w (fun v w' => v = .tuple #[.string (strB (wordC op).1), .int .i64 ((wordC op).2 : Int)] ∧ w' = w)  := by
  refine fn_enter (args := [(.int .i64 op)]) Tryd.func10 rfl rfl rfl ?_
  show WC _ _ _ _ [(0, (.int .i64 op))] _
  refine wc_seq (wc_regionL ?_)
  iterate 2 refine va rfl rfl ?_
  refine q_nil (k_then (wc_seq (wc_seq (wc_regionL ?_))))
  refine vm rfl rfl ?_
  refine wl_val (or_call0 cl27 rfl rfl (valid_any _ op)) rfl rfl rfl ?_
  refine wl_val (ov_not rfl) rfl rfl rfl ?_
  refine q_nil (k_then ?_)
  refine wc_cond rfl (fun hc1 => ?_) (fun hc1 => ?_)
  · have hn : ¬ (1 ≤ op ∧ op ≤ 15) := by simp at hc1; omega
    refine wc_seq (wc_regionL ?_)
    iterate 2 refine va rfl rfl ?_
    refine q_nil (k_then (q_ret (k_thenR ?_)))
    refine e_ret2 rfl rfl rfl ?_
    exact ⟨by unfold wordC; rw [if_neg hn]; rfl, rfl⟩
  · have hy : 1 ≤ op ∧ op ≤ 15 := by simp at hc1; omega
    obtain ⟨s, hk, hg⟩ := words_at (k := op.toNat) (by omega)
    refine q_skip (k_then (wc_seq (wc_regionL ?_)))
    refine vm rfl rfl ?_
    refine wl_val (ov_gindex op.toNat Tryd.underlying58 sz9 rfl rfl (by omega) (by omega)) rfl rfl rfl ?_
    refine wl_val (ov_load oc9 rfl (hW _ _ hk)) rfl rfl rfl ?_
    iterate 2 refine va rfl rfl ?_
    refine q_nil (k_then (q_ret ?_))
    refine e_ret2 rfl rfl rfl ?_
    exact ⟨by unfold wordC; rw [if_pos hy, hg]; rfl, rfl⟩

theorem op_any (w : World) (word : List UInt8) (hW : WordsAt w) :
    Fn Tryd.prog 12 #[(.string (strB word))] w (fun v w' => v = .tuple #[.int .i64 ((opC word).1 : Int), .int .i64 ((opC word).2 : Int)] ∧ w' = w)  := by
  refine fn_enter (args := [(.string (strB word))]) Tryd.func12 rfl rfl rfl ?_
  show WC _ _ _ _ [(0, (.string (strB word)))] _
  refine wc_seq (wc_regionL ?_)
  iterate 2 refine va rfl rfl ?_
  refine q_nil (k_then (wc_seq (wc_seq (wc_regionL ?_))))
  refine va rfl rfl ?_
  refine q_nil (k_then (wc_block ?_))
  refine wc_loop (σ := Nat) (fun k => 16 - k) (fun k => [(0, .string (strB word)), (4, .int .i64 (k : Int))]) (fun k w' => 1 ≤ k ∧ k ≤ 16 ∧ opC word = opI word k (wordsL.drop k) ∧ w' = w) (1) (⟨by omega, by omega, rfl, rfl⟩) (⟨rfl, rfl, trivial⟩) ?_
  rintro k wq ⟨hk1, hk16, ho, rfl⟩
  show WC _ _ _ _ [(0, (.string (strB word))), (4, (.int .i64 (↑k : Int)))] _
  refine wc_seq (wc_seq (wc_regionL ?_))
  refine vm rfl rfl ?_
  refine wl_val (or_call0 cl27 rfl rfl (valid_any _ (↑k : Int))) rfl rfl rfl ?_
  refine q_nil (k_then ?_)
  refine wc_cond rfl (fun hc1 => ?_) (fun hc1 => ?_)
  · have hy : 1 ≤ (k : Int) ∧ (k : Int) ≤ 15 := by simp at hc1; omega
    obtain ⟨s, hks, hg⟩ := words_at (k := k) (by omega)
    refine q_skip (k_then (wc_seq (wc_block (wc_seq (wc_regionL ?_)))))
    refine vm rfl rfl ?_
    refine wl_val (ov_gindex k Tryd.underlying58 sz9 rfl rfl rfl (by omega)) rfl rfl rfl ?_
    refine wl_val (ov_load oc9 rfl (hW _ _ hks)) rfl rfl rfl ?_
    refine vm rfl rfl ?_
    refine wl_val (ov_seq rfl rfl) rfl rfl rfl ?_
    refine q_nil (k_then ?_)
    refine wc_cond_d rfl (fun hc2 => ?_) (fun hc2 => ?_)
    · refine wc_seq (wc_regionL ?_)
      refine vm rfl rfl ?_
      iterate 2 refine va rfl rfl ?_
      refine q_nil (k_then (q_ret (k_blockR (k_thenR (k_thenR (k_blockR (k_thenR ?_)))))))
      refine e_ret2 rfl rfl rfl ?_
      exact ⟨by rw [ho, words_drop hks, opI, if_pos hc2]; rfl, rfl⟩
    · refine q_skip (k_block (k_then (wc_regionL ?_)))
      refine vm rfl rfl ?_
      refine wl_val (ov_add rfl rfl (wi64 (by omega) (by omega))) rfl rfl rfl ?_
      refine va rfl rfl ?_
      refine q_nil ?_
      refine k_loop (k + 1) (by show 16 - (k + 1) < 16 - k; omega) (⟨rfl, rfl, trivial⟩) (⟨by omega, by omega, by rw [ho, words_drop hks, opI, if_neg hc2], rfl⟩)
  · have hn : ¬ (1 ≤ (k : Int) ∧ (k : Int) ≤ 15) := by simp at hc1; omega
    have h16 : k = 16 := by omega
    refine q_exit (k_thenX (k_thenX (k_blockE (k_then (wc_seq (wc_regionL ?_))))))
    iterate 2 refine va rfl rfl ?_
    refine q_nil (k_then (q_ret ?_))
    refine e_ret2 rfl rfl rfl ?_
    exact ⟨by rw [ho, h16]; rfl, rfl⟩

theorem rwords_any (w : World) :
    Fn Tryd.prog 11 #[] w (fun v w' => ∃ A c, v = .slice A 16 c ∧ RdS w' w.heap.size w'.heap.size A c wordsL ∧ Ext w w')  := by
  have hE := ext_refl w
  refine fn_enter (args := []) Tryd.func11 rfl rfl rfl ?_
  show WC _ _ _ _ [] _
  refine wc_seq (wc_regionL ?_)
  refine va rfl rfl ?_
  refine q_nil (k_then (wc_seq (wc_regionL ?_)))
  refine wl_step (or_buildSlice1 (os := [.const (.string (strB [])), .const (.string (strB [115, 101, 116])), .const (.string (strB [97, 100, 100])), .const (.string (strB [99, 97, 115])), .const (.string (strB [103, 101, 116])), .const (.string (strB [109, 103, 101, 116])), .const (.string (strB [116, 111, 117, 99, 104])), .const (.string (strB [100, 101, 108])), .const (.string (strB [112, 117, 114, 103, 101])), .const (.string (strB [115, 111, 102, 116])), .const (.string (strB [112, 114, 101, 102, 105, 120])), .const (.string (strB [100, 101, 112, 97, 100, 100])), .const (.string (strB [100, 101, 112, 100, 101, 108])), .const (.string (strB [105, 110, 118, 97, 108, 105, 100, 97, 116, 101])), .const (.string (strB [102, 108, 117, 115, 104])), .const (.string (strB [115, 116, 97, 116, 115]))]) sl27 rfl rfl rfl (by simp [Value.oneCell']) (by decide)) rfl rfl rfl ?_
  rintro v w1 ⟨g1, rfl, hb_g1, he1, hl1, hu1, _⟩
  replace hE := hE.tr he1
  have hz_he1 := he1.size
  refine va rfl rfl ?_
  refine q_nil (k_then (q_ret ?_))
  refine e_ret rfl rfl ?_
  exact ⟨_, _, rfl, hb_g1.rdL rfl (by decide) (by omega), hE⟩

end Go.Proofs.YtohnkjjjejnkpaaDoor
