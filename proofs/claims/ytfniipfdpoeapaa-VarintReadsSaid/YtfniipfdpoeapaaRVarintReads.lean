/-
  The row of VarintReads: the walk of VarintReads, led into the given statement.
-/
import Derived.Test.YtfniipfdpoeapaaRows
import Derived.Test.YtfniipfdpoeapaaLaw
import Derived.Test.YtfniipfdpoeapaaLc
namespace Go.Proofs.Ytfniipfdpoeapaa
open Go.ChangeShapes Go.WideShapes Go.ChangeAt Go.RowKit
set_option linter.unusedVariables false
theorem own_varintReads : ownKnob Try.prog.godebug = none := by kernel_rfl
theorem laid_varintReads : laidOutB Try.prog = true := by kernel_rfl
theorem cells_3 : Try.prog.cellsOf 3 = 1 := by kernel_rfl
theorem cells_65 : Try.prog.cellsOf 65 = 2 := by kernel_rfl
theorem crs_65 {H : Type} {enc : TypeId × Value → H} {W : World} {cs : List Value} (h : CR enc Try.prog W 65 cs) : ∃ c0 c1, cs = [c0, c1] ∧ CR enc Try.prog W 3 [c0] ∧ CR enc Try.prog W 3 [c1] := by
  obtain ⟨hl, hf⟩ := cr_struct Try.underlying65 h
  rw [cells_65] at hl
  match cs, hl with
  | [c0, c1], _ =>
    have k0 : CR enc Try.prog W 3 (([c0, c1].drop 0).take (Try.prog.cellsOf 3)) := hf 0 _ rfl
    rw [cells_3] at k0
    have k1 : CR enc Try.prog W 3 (([c0, c1].drop 1).take (Try.prog.cellsOf 3)) := hf 1 _ rfl
    rw [cells_3] at k1
    exact ⟨c0, c1, rfl, k0, k1⟩


set_option maxRecDepth 100000 in
theorem varintReads_lifted (os : Os) (started : os.Started) (H : Type) (enc : TypeId × Value → H) :
    ReturnsInHanded {} Try.checked os 11 .any (Rows.varintReadsSpec.pre6 enc Try.prog Try.f11 Rows.varintReadsRow.domain false) (Rows.varintReadsSpec.post enc Try.prog Try.f11 false true false false) := by
  refine law_lifted (s := Rows.varintReadsSpec) (C := Try.checked) own_varintReads started (by kernel_rfl) Try.func11
    (ChangeSpec.witness6 (enc := enc) (C := Try.checked) false ⟨#[], #[.slice none 0 0, .slice none 0 0], []⟩ 8 (by kernel_rfl) (by kernel_rfl) (by kernel_rfl) (by kernel_rfl)) laid_varintReads (by kernel_rfl) (by kernel_rfl) Try.underlying4 rfl ?_ ?_
  · intro ds hd
    rw [Try.params11] at hd
    match ds, hd with
    | [d0, d1], _ => rfl
  · intro W args ds h
    rw [Try.params11] at h
    obtain ⟨v0, v1, d0, d1, rfl, h0, h1⟩ := comes2 h
    obtain ⟨A, c, l, rfl, hr⟩ := came_bytes Try.underlying22 Try.underlying5 (by kernel_rfl) h0
    obtain ⟨C0, n0, c0, rfl, h1c⟩ := came_slice Try.underlying61 h1
    obtain ⟨C, cx, xs, hcs, hrx, hfx, hQ⟩ := cr_rows actc (fun x => x.2 ≤ 9223372036854775807) Try.underlying61 (by kernel_rfl : Try.prog.cellsOf 65 = 2) (by decide) (fun cs hcs => by
      obtain ⟨x_c0, x_c1, e_x, x_k0, x_k1⟩ := crs_65 hcs; cases e_x
      obtain ⟨x_What, e_x_What, lo_x_What, hi_x_What⟩ := cr_i64 Try.underlying3 x_k0; cases e_x_What
      obtain ⟨x_Most, e_x_Most, lo_x_Most, hi_x_Most⟩ := cr_i64 Try.underlying3 x_k1; cases e_x_Most
      exact ⟨(x_What, x_Most), rfl, hi_x_Most⟩) h1c
    cases hcs
    exact varintReads_walk _ _ _ _ _ _ _ _ _ _ _ hr hrx hQ

theorem varintReads_holds : Rows.VarintReadsSaid :=
  OpenClaim.holds_of_wide 11 Try.f11 rfl rfl rfl rfl rfl rfl rfl ⟨rfl, rfl, rfl, rfl, rfl⟩ rfl rfl rfl rfl rfl (by kernel_rfl) Try.func11 (by kernel_rfl)
    (of_decide_eq_true (by kernel_rfl)) (by unfold Func.isWrapper; rw [if_neg (by decide +kernel)]; exact ⟨rfl, rfl⟩)
    (fun os started H enc _ => varintReads_lifted os started H enc)

end Go.Proofs.Ytfniipfdpoeapaa
