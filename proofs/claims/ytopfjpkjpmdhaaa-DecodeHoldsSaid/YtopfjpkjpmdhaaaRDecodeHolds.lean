/-
  The row of DecodeHolds: the walk of DecodeHolds, led into the given statement.
-/
import Derived.Test.YtopfjpkjpmdhaaaRows
import Derived.Test.YtopfjpkjpmdhaaaLaw
import Derived.Test.YtopfjpkjpmdhaaaDm
import Derived.Test.YtopfjpkjpmdhaaaItems
namespace Go.Proofs.Ytopfjpkjpmdhaaa
open Go.ChangeShapes Go.WideShapes Go.ChangeAt Go.RowKit
set_option linter.unusedVariables false
set_option maxRecDepth 4000
theorem own_decodeHolds : ownKnob Try.prog.godebug = none := by kernel_rfl
theorem laid_decodeHolds : laidOutB Try.prog = true := by kernel_rfl
theorem cells_5 : Try.prog.cellsOf 5 = 1 := by kernel_rfl
theorem cells_26 : Try.prog.cellsOf 26 = 1 := by kernel_rfl
theorem cells_72 : Try.prog.cellsOf 72 = 2 := by kernel_rfl
theorem crs_72 {H : Type} {enc : TypeId × Value → H} {W : World} {cs : List Value} (h : CR enc Try.prog W 72 cs) : ∃ c0 c1, cs = [c0, c1] ∧ CR enc Try.prog W 5 [c0] ∧ CR enc Try.prog W 26 [c1] := by
  obtain ⟨hl, hf⟩ := cr_struct Try.underlying72 h
  rw [cells_72] at hl
  match cs, hl with
  | [c0, c1], _ =>
    have k0 : CR enc Try.prog W 5 (([c0, c1].drop 0).take (Try.prog.cellsOf 5)) := hf 0 _ rfl
    rw [cells_5] at k0
    have k1 : CR enc Try.prog W 26 (([c0, c1].drop 1).take (Try.prog.cellsOf 26)) := hf 1 _ rfl
    rw [cells_26] at k1
    exact ⟨c0, c1, rfl, k0, k1⟩


set_option maxRecDepth 100000 in
theorem decodeHolds_lifted (os : Os) (started : os.Started) (H : Type) (enc : TypeId × Value → H) :
    ReturnsInHanded {} Try.checked os 10 .any (Rows.decodeHoldsSpec.pre6 enc Try.prog Try.f10 Rows.decodeHoldsRow.domain false) (Rows.decodeHoldsSpec.post enc Try.prog Try.f10 false true false false) := by
  refine law_lifted (s := Rows.decodeHoldsSpec) (C := Try.checked) own_decodeHolds started (by kernel_rfl) Try.func10
    (ChangeSpec.witness6 (enc := enc) (C := Try.checked) false ⟨#[], #[.slice none 0 0, .slice none 0 0], []⟩ 8 (by kernel_rfl) (by kernel_rfl) (by kernel_rfl) (by kernel_rfl)) laid_decodeHolds (by kernel_rfl) (by kernel_rfl) Try.underlying4 rfl ?_ ?_
  · intro ds hd
    rw [Try.params10] at hd
    match ds, hd with
    | [d0, d1], _ => rfl
  · intro W args ds h
    rw [Try.params10] at h
    obtain ⟨v0, v1, d0, d1, rfl, h0, h1⟩ := comes2 h
    obtain ⟨C0, n0, c0, rfl, h0c⟩ := came_slice Try.underlying60 h0
    obtain ⟨C, cx, xs, hcs, hrx, hfx, hQ⟩ := cr_rows fr6c (fun f => RdB W 0 W.heap.size f.2.1 f.2.2.1 f.2.2.2) Try.underlying60 (by kernel_rfl : Try.prog.cellsOf 72 = 2) (by decide) (fun cs hcs => by
      obtain ⟨x_c0, x_c1, e_x, x_k0, x_k1⟩ := crs_72 hcs; cases e_x
      obtain ⟨x_Code, e_x_Code⟩ := cr_byte Try.underlying5 x_k0; cases e_x_Code
      obtain ⟨A_x_Payload, c_x_Payload, x_Payload, e_x_Payload, hr_x_Payload⟩ := cr_bytes Try.underlying26 Try.underlying5 (by kernel_rfl) x_k1; cases e_x_Payload
      exact ⟨(x_Code, A_x_Payload, c_x_Payload, x_Payload), rfl, hr_x_Payload⟩) h0c
    cases hcs
    obtain ⟨Z, cz, z, rfl, hrz⟩ := came_bytes Try.underlying26 Try.underlying5 (by kernel_rfl) h1
    exact decodeHolds_walk _ _ _ _ _ _ hrx hQ _ _ _ _ _ hrz

theorem decodeHolds_holds : Rows.DecodeHoldsSaid :=
  OpenClaim.holds_of_wide 10 Try.f10 rfl rfl rfl rfl rfl rfl rfl ⟨rfl, rfl, rfl, rfl, rfl⟩ rfl rfl rfl rfl rfl (by kernel_rfl) Try.func10 (by kernel_rfl)
    (of_decide_eq_true (by kernel_rfl)) (by unfold Func.isWrapper; rw [if_neg (by decide +kernel)]; exact ⟨rfl, rfl⟩)
    (fun os started H enc _ => decodeHolds_lifted os started H enc)

end Go.Proofs.Ytopfjpkjpmdhaaa
