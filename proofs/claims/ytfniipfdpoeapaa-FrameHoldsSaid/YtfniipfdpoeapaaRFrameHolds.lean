/-
  The row of FrameHolds: the walk of FrameHolds, led into the given statement.
-/
import Derived.Test.YtfniipfdpoeapaaRows
import Derived.Test.YtfniipfdpoeapaaLaw
import Derived.Test.YtfniipfdpoeapaaFc
import Derived.Test.YtfniipfdpoeapaaItems
namespace Go.Proofs.Ytfniipfdpoeapaa
open Go.ChangeShapes Go.WideShapes Go.ChangeAt Go.RowKit
set_option linter.unusedVariables false
theorem own_frameHolds : ownKnob Try.prog.godebug = none := by kernel_rfl
theorem laid_frameHolds : laidOutB Try.prog = true := by kernel_rfl
theorem cells_5 : Try.prog.cellsOf 5 = 1 := by kernel_rfl
theorem cells_22 : Try.prog.cellsOf 22 = 1 := by kernel_rfl
theorem cells_25 : Try.prog.cellsOf 25 = 2 := by kernel_rfl
theorem crs_25 {H : Type} {enc : TypeId × Value → H} {W : World} {cs : List Value} (h : CR enc Try.prog W 25 cs) : ∃ c0 c1, cs = [c0, c1] ∧ CR enc Try.prog W 5 [c0] ∧ CR enc Try.prog W 22 [c1] := by
  obtain ⟨hl, hf⟩ := cr_struct Try.underlying25 h
  rw [cells_25] at hl
  match cs, hl with
  | [c0, c1], _ =>
    have k0 : CR enc Try.prog W 5 (([c0, c1].drop 0).take (Try.prog.cellsOf 5)) := hf 0 _ rfl
    rw [cells_5] at k0
    have k1 : CR enc Try.prog W 22 (([c0, c1].drop 1).take (Try.prog.cellsOf 22)) := hf 1 _ rfl
    rw [cells_22] at k1
    exact ⟨c0, c1, rfl, k0, k1⟩


set_option maxRecDepth 100000 in
theorem frameHolds_lifted (os : Os) (started : os.Started) (H : Type) (enc : TypeId × Value → H) :
    ReturnsInHanded {} Try.checked os 6 .any (Rows.frameHoldsSpec.pre6 enc Try.prog Try.f6 Rows.frameHoldsRow.domain false) (Rows.frameHoldsSpec.post enc Try.prog Try.f6 false true false false) := by
  refine law_lifted (s := Rows.frameHoldsSpec) (C := Try.checked) own_frameHolds started (by kernel_rfl) Try.func6
    (ChangeSpec.witness6 (enc := enc) (C := Try.checked) false ⟨#[], #[.agg #[.int .u8 0, .slice none 0 0], .slice none 0 0], []⟩ 8 (by kernel_rfl) (by kernel_rfl) (by kernel_rfl) (by kernel_rfl)) laid_frameHolds (by kernel_rfl) (by kernel_rfl) Try.underlying4 rfl ?_ ?_
  · intro ds hd
    rw [Try.params6] at hd
    match ds, hd with
    | [d0, d1], _ => rfl
  · intro W args ds h
    rw [Try.params6] at h
    obtain ⟨v0, v1, d0, d1, rfl, h0, h1⟩ := comes2 h
    obtain ⟨cs0, rfl, h0c⟩ := came_struct Try.underlying25 h0
    obtain ⟨f_c0, f_c1, e_f, f_k0, f_k1⟩ := crs_25 h0c; cases e_f
    obtain ⟨f_Code, e_f_Code⟩ := cr_byte Try.underlying5 f_k0; cases e_f_Code
    obtain ⟨A_f_Payload, c_f_Payload, f_Payload, e_f_Payload, hr_f_Payload⟩ := cr_bytes Try.underlying22 Try.underlying5 (by kernel_rfl) f_k1; cases e_f_Payload
    obtain ⟨A, c, l, rfl, hr⟩ := came_bytes Try.underlying22 Try.underlying5 (by kernel_rfl) h1
    exact frameHolds_walk _ _ _ _ _ _ _ _ _ _ _ _ hr_f_Payload hr

theorem frameHolds_holds : Rows.FrameHoldsSaid :=
  OpenClaim.holds_of_wide 6 Try.f6 rfl rfl rfl rfl rfl rfl rfl ⟨rfl, rfl, rfl, rfl, rfl⟩ rfl rfl rfl rfl rfl (by kernel_rfl) Try.func6 (by kernel_rfl)
    (of_decide_eq_true (by kernel_rfl)) (by unfold Func.isWrapper; rw [if_neg (by decide +kernel)]; exact ⟨rfl, rfl⟩)
    (fun os started H enc _ => frameHolds_lifted os started H enc)

end Go.Proofs.Ytfniipfdpoeapaa
