/-
  The row of VarintHolds: the walk of VarintHolds, led into the given statement.
-/
import Derived.Test.YtfniipfdpoeapaaRows
import Derived.Test.YtfniipfdpoeapaaLaw
import Derived.Test.YtfniipfdpoeapaaLd
namespace Go.Proofs.Ytfniipfdpoeapaa
open Go.ChangeShapes Go.WideShapes Go.ChangeAt Go.RowKit
set_option linter.unusedVariables false
theorem own_varintHolds : ownKnob Try.prog.godebug = none := by kernel_rfl
theorem laid_varintHolds : laidOutB Try.prog = true := by kernel_rfl
theorem cells_22 : Try.prog.cellsOf 22 = 1 := by kernel_rfl
theorem cells_45 : Try.prog.cellsOf 45 = 1 := by kernel_rfl
theorem cells_77 : Try.prog.cellsOf 77 = 2 := by kernel_rfl
theorem crs_77 {H : Type} {enc : TypeId × Value → H} {W : World} {cs : List Value} (h : CR enc Try.prog W 77 cs) : ∃ c0 c1, cs = [c0, c1] ∧ CR enc Try.prog W 45 [c0] ∧ CR enc Try.prog W 22 [c1] := by
  obtain ⟨hl, hf⟩ := cr_struct Try.underlying77 h
  rw [cells_77] at hl
  match cs, hl with
  | [c0, c1], _ =>
    have k0 : CR enc Try.prog W 45 (([c0, c1].drop 0).take (Try.prog.cellsOf 45)) := hf 0 _ rfl
    rw [cells_45] at k0
    have k1 : CR enc Try.prog W 22 (([c0, c1].drop 1).take (Try.prog.cellsOf 22)) := hf 1 _ rfl
    rw [cells_22] at k1
    exact ⟨c0, c1, rfl, k0, k1⟩


set_option maxRecDepth 100000 in
theorem varintHolds_lifted (os : Os) (started : os.Started) (H : Type) (enc : TypeId × Value → H) :
    ReturnsInHanded {} Try.checked os 13 .any (Rows.varintHoldsSpec.pre6 enc Try.prog Try.f13 Rows.varintHoldsRow.domain false) (Rows.varintHoldsSpec.post enc Try.prog Try.f13 false true false false) := by
  refine law_lifted (s := Rows.varintHoldsSpec) (C := Try.checked) own_varintHolds started (by kernel_rfl) Try.func13
    (ChangeSpec.witness6 (enc := enc) (C := Try.checked) false ⟨#[], #[.slice none 0 0, .slice none 0 0], []⟩ 8 (by kernel_rfl) (by kernel_rfl) (by kernel_rfl) (by kernel_rfl)) laid_varintHolds (by kernel_rfl) (by kernel_rfl) Try.underlying4 rfl ?_ ?_
  · intro ds hd
    rw [Try.params13] at hd
    match ds, hd with
    | [d0, d1], _ => rfl
  · intro W args ds h
    rw [Try.params13] at h
    obtain ⟨v0, v1, d0, d1, rfl, h0, h1⟩ := comes2 h
    obtain ⟨C0, n0, c0, rfl, h0c⟩ := came_slice Try.underlying75 h0
    obtain ⟨C, cx, xs, hcs, hrx, hfx, hQ⟩ := cr_rows thc (fun x => x.1 < 18446744073709551616 ∧ RdB W 0 W.heap.size x.2.1 x.2.2.1 x.2.2.2) Try.underlying75 (by kernel_rfl : Try.prog.cellsOf 77 = 2) (by decide) (fun cs hcs => by
      obtain ⟨x_c0, x_c1, e_x, x_k0, x_k1⟩ := crs_77 hcs; cases e_x
      obtain ⟨x_Number, e_x_Number, hi_x_Number⟩ := cr_u64 Try.underlying45 x_k0; cases e_x_Number
      obtain ⟨A_x_Bytes, c_x_Bytes, x_Bytes, e_x_Bytes, hr_x_Bytes⟩ := cr_bytes Try.underlying22 Try.underlying5 (by kernel_rfl) x_k1; cases e_x_Bytes
      exact ⟨(x_Number, A_x_Bytes, c_x_Bytes, x_Bytes), rfl, ⟨hi_x_Number, hr_x_Bytes⟩⟩) h0c
    cases hcs
    obtain ⟨A, c, l, rfl, hr⟩ := came_bytes Try.underlying22 Try.underlying5 (by kernel_rfl) h1
    exact varintHolds_walk _ _ _ _ _ _ _ _ _ _ _ hr hrx hQ

theorem varintHolds_holds : Rows.VarintHoldsSaid :=
  OpenClaim.holds_of_wide 13 Try.f13 rfl rfl rfl rfl rfl rfl rfl ⟨rfl, rfl, rfl, rfl, rfl⟩ rfl rfl rfl rfl rfl (by kernel_rfl) Try.func13 (by kernel_rfl)
    (of_decide_eq_true (by kernel_rfl)) (by unfold Func.isWrapper; rw [if_neg (by decide +kernel)]; exact ⟨rfl, rfl⟩)
    (fun os started H enc _ => varintHolds_lifted os started H enc)

end Go.Proofs.Ytfniipfdpoeapaa
