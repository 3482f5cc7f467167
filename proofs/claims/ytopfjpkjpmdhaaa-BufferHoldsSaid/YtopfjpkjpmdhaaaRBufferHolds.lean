/-
  The row of BufferHolds: the walk of BufferHolds, led into the given statement.
-/
import Derived.Test.YtopfjpkjpmdhaaaRows
import Derived.Test.YtopfjpkjpmdhaaaLaw
import Derived.Test.YtopfjpkjpmdhaaaBh
namespace Go.Proofs.Ytopfjpkjpmdhaaa
open Go.ChangeShapes Go.WideShapes Go.ChangeAt Go.RowKit
set_option linter.unusedVariables false
set_option maxRecDepth 4000
theorem own_bufferHolds : ownKnob Try.prog.godebug = none := by kernel_rfl
theorem laid_bufferHolds : laidOutB Try.prog = true := by kernel_rfl
theorem cells_3 : Try.prog.cellsOf 3 = 1 := by kernel_rfl
theorem cells_26 : Try.prog.cellsOf 26 = 1 := by kernel_rfl
theorem cells_42 : Try.prog.cellsOf 42 = 3 := by kernel_rfl
theorem crs_42 {H : Type} {enc : TypeId × Value → H} {W : World} {cs : List Value} (h : CR enc Try.prog W 42 cs) : ∃ c0 c1 c2, cs = [c0, c1, c2] ∧ CR enc Try.prog W 3 [c0] ∧ CR enc Try.prog W 3 [c1] ∧ CR enc Try.prog W 26 [c2] := by
  obtain ⟨hl, hf⟩ := cr_struct Try.underlying42 h
  rw [cells_42] at hl
  match cs, hl with
  | [c0, c1, c2], _ =>
    have k0 : CR enc Try.prog W 3 (([c0, c1, c2].drop 0).take (Try.prog.cellsOf 3)) := hf 0 _ rfl
    rw [cells_3] at k0
    have k1 : CR enc Try.prog W 3 (([c0, c1, c2].drop 1).take (Try.prog.cellsOf 3)) := hf 1 _ rfl
    rw [cells_3] at k1
    have k2 : CR enc Try.prog W 26 (([c0, c1, c2].drop 2).take (Try.prog.cellsOf 26)) := hf 2 _ rfl
    rw [cells_26] at k2
    exact ⟨c0, c1, c2, rfl, k0, k1, k2⟩


set_option maxRecDepth 100000 in
theorem bufferHolds_lifted (os : Os) (started : os.Started) (H : Type) (enc : TypeId × Value → H) :
    ReturnsInHanded {} Try.checked os 5 .any (Rows.bufferHoldsSpec.pre6 enc Try.prog Try.f5 Rows.bufferHoldsRow.domain false) (Rows.bufferHoldsSpec.post enc Try.prog Try.f5 false true false false) := by
  refine law_lifted (s := Rows.bufferHoldsSpec) (C := Try.checked) own_bufferHolds started (by kernel_rfl) Try.func5
    (ChangeSpec.witness6 (enc := enc) (C := Try.checked) false ⟨#[], #[.int .i64 0, .slice none 0 0], []⟩ 8 (by kernel_rfl) (by kernel_rfl) (by kernel_rfl) (by kernel_rfl)) laid_bufferHolds (by kernel_rfl) (by kernel_rfl) Try.underlying4 rfl ?_ ?_
  · intro ds hd
    rw [Try.params5] at hd
    match ds, hd with
    | [d0, d1], _ => rfl
  · intro W args ds h
    rw [Try.params5] at h
    obtain ⟨v0, v1, d0, d1, rfl, h0, h1⟩ := comes2 h
    obtain ⟨m, rfl, m_lo, m_hi⟩ := came_i64 Try.underlying3 h0
    obtain ⟨C0, n0, c0, rfl, h1c⟩ := came_slice Try.underlying39 h1
    obtain ⟨C, cx, xs, hcs, hrx, hfx, hQ⟩ := cr_rows act27c (fun a => (-9223372036854775808 ≤ a.2.1 ∧ a.2.1 ≤ 9223372036854775807) ∧ RdB W 0 W.heap.size a.2.2.1 a.2.2.2.1 a.2.2.2.2) Try.underlying39 (by kernel_rfl : Try.prog.cellsOf 42 = 3) (by decide) (fun cs hcs => by
      obtain ⟨x_c0, x_c1, x_c2, e_x, x_k0, x_k1, x_k2⟩ := crs_42 hcs; cases e_x
      obtain ⟨x_What, e_x_What, lo_x_What, hi_x_What⟩ := cr_i64 Try.underlying3 x_k0; cases e_x_What
      obtain ⟨x_N, e_x_N, lo_x_N, hi_x_N⟩ := cr_i64 Try.underlying3 x_k1; cases e_x_N
      obtain ⟨A_x_Data, c_x_Data, x_Data, e_x_Data, hr_x_Data⟩ := cr_bytes Try.underlying26 Try.underlying5 (by kernel_rfl) x_k2; cases e_x_Data
      exact ⟨(x_What, x_N, A_x_Data, c_x_Data, x_Data), rfl, ⟨⟨lo_x_N, hi_x_N⟩, hr_x_Data⟩⟩) h1c
    cases hcs
    exact bufferHolds_walk _ _ _ _ _ _ _ hrx hQ

theorem bufferHolds_holds : Rows.BufferHoldsSaid :=
  OpenClaim.holds_of_wide 5 Try.f5 rfl rfl rfl rfl rfl rfl rfl ⟨rfl, rfl, rfl, rfl, rfl⟩ rfl rfl rfl rfl rfl (by kernel_rfl) Try.func5 (by kernel_rfl)
    (of_decide_eq_true (by kernel_rfl)) (by unfold Func.isWrapper; rw [if_neg (by decide +kernel)]; exact ⟨rfl, rfl⟩)
    (fun os started H enc _ => bufferHolds_lifted os started H enc)

end Go.Proofs.Ytopfjpkjpmdhaaa
