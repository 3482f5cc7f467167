/-
  The row of FrameRows: the walk of FrameRows, led into the given statement.
-/
import Derived.Test.YtfniipfdpoeapaaRows
import Derived.Test.YtfniipfdpoeapaaLaw
import Derived.Test.YtfniipfdpoeapaaFe
import Derived.Test.YtfniipfdpoeapaaItems
namespace Go.Proofs.Ytfniipfdpoeapaa
open Go.ChangeShapes Go.WideShapes Go.ChangeAt Go.RowKit
set_option linter.unusedVariables false
theorem own_frameRows : ownKnob Try.prog.godebug = none := by kernel_rfl
theorem laid_frameRows : laidOutB Try.prog = true := by kernel_rfl
theorem cells_5 : Try.prog.cellsOf 5 = 1 := by kernel_rfl
theorem cells_22 : Try.prog.cellsOf 22 = 1 := by kernel_rfl
theorem cells_25 : Try.prog.cellsOf 25 = 2 := by kernel_rfl
theorem crs_25 {H : Type} {enc : TypeId × Value → H} {W : World} {cs : List Value} (h : CR enc Try.prog W 25 cs) : ∃ c0 c1, cs = [c0, c1] ∧ CR enc Try.prog W 5 [c0] ∧ CR enc Try.prog W 22 [c1] := by
  obtain ⟨hl, hf⟩ := cr_struct Try.underlying25 h
  rw [cells_25] at hl
  match cs, hl with
  | [c0, c1], _ =>
    have k0 : CR enc Try.prog W 5 (([c0, c1].drop 0).take (Try.prog.cellsOf 5)) := hf 0 _ rfl
    rw [cells_5] at k0
    have k1 : CR enc Try.prog W 22 (([c0, c1].drop 1).take (Try.prog.cellsOf 22)) := hf 1 _ rfl
    rw [cells_22] at k1
    exact ⟨c0, c1, rfl, k0, k1⟩


set_option maxRecDepth 100000 in
theorem frameRows_lifted (os : Os) (started : os.Started) (H : Type) (enc : TypeId × Value → H) :
    ReturnsInHanded {} Try.checked os 5 .any (Rows.frameRowsSpec.pre6 enc Try.prog Try.f5 Rows.frameRowsRow.domain false) (Rows.frameRowsSpec.post enc Try.prog Try.f5 false true false false) := by
  refine law_lifted (s := Rows.frameRowsSpec) (C := Try.checked) own_frameRows started (by kernel_rfl) Try.func5
    (ChangeSpec.witness6 (enc := enc) (C := Try.checked) false ⟨#[], #[.slice none 0 0, .int .u8 0], []⟩ 8 (by kernel_rfl) (by kernel_rfl) (by kernel_rfl) (by kernel_rfl)) laid_frameRows (by kernel_rfl) (by kernel_rfl) Try.underlying4 rfl ?_ ?_
  · intro ds hd
    rw [Try.params5] at hd
    match ds, hd with
    | [d0, d1], _ => rfl
  · intro W args ds h
    rw [Try.params5] at h
    obtain ⟨v0, v1, d0, d1, rfl, h0, h1⟩ := comes2 h
    obtain ⟨C0, n0, c0, rfl, h0c⟩ := came_slice Try.underlying39 h0
    obtain ⟨C, cx, xs, hcs, hrx, hfx, hQ⟩ := cr_rows frc (fun f => RdB W 0 W.heap.size f.2.1 f.2.2.1 f.2.2.2) Try.underlying39 (by kernel_rfl : Try.prog.cellsOf 25 = 2) (by decide) (fun cs hcs => by
      obtain ⟨x_c0, x_c1, e_x, x_k0, x_k1⟩ := crs_25 hcs; cases e_x
      obtain ⟨x_Code, e_x_Code⟩ := cr_byte Try.underlying5 x_k0; cases e_x_Code
      obtain ⟨A_x_Payload, c_x_Payload, x_Payload, e_x_Payload, hr_x_Payload⟩ := cr_bytes Try.underlying22 Try.underlying5 (by kernel_rfl) x_k1; cases e_x_Payload
      exact ⟨(x_Code, A_x_Payload, c_x_Payload, x_Payload), rfl, hr_x_Payload⟩) h0c
    cases hcs
    obtain ⟨cut, rfl, cut_hi⟩ := came_u8 Try.underlying5 h1
    exact frameRows_walk _ _ _ _ _ _ _ cut_hi hrx hQ

theorem frameRows_holds : Rows.FrameRowsSaid :=
  OpenClaim.holds_of_wide 5 Try.f5 rfl rfl rfl rfl rfl rfl rfl ⟨rfl, rfl, rfl, rfl, rfl⟩ rfl rfl rfl rfl rfl (by kernel_rfl) Try.func5 (by kernel_rfl)
    (of_decide_eq_true (by kernel_rfl)) (by unfold Func.isWrapper; rw [if_neg (by decide +kernel)]; exact ⟨rfl, rfl⟩)
    (fun os started H enc _ => frameRows_lifted os started H enc)

end Go.Proofs.Ytfniipfdpoeapaa
