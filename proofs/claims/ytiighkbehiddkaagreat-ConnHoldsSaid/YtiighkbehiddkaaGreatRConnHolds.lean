/-
  The row of ConnHolds: the walk of ConnHolds, led into the given statement.
-/
import Derived.Test.YtiighkbehiddkaaGreatRows
import Derived.Test.YtiighkbehiddkaaGreatLaw
import Derived.Test.YtiighkbehiddkaaGreatCq
import Derived.Test.YtiighkbehiddkaaGreatItems
namespace Go.Proofs.YtiighkbehiddkaaGreat
open Go.ChangeShapes Go.WideShapes Go.ChangeAt Go.RowKit
set_option linter.unusedVariables false
set_option maxRecDepth 4000
theorem own_connHolds : ownKnob Tryz.prog.godebug = none := by kernel_rfl
theorem laid_connHolds : laidOutB Tryz.prog = true := by kernel_rfl
theorem cells_3 : Tryz.prog.cellsOf 3 = 1 := by kernel_rfl
theorem cells_23 : Tryz.prog.cellsOf 23 = 3 := by kernel_rfl
theorem crs_23 {H : Type} {enc : TypeId × Value → H} {W : World} {cs : List Value} (h : CR enc Tryz.prog W 23 cs) : ∃ c0 c1 c2, cs = [c0, c1, c2] ∧ CR enc Tryz.prog W 3 [c0] ∧ CR enc Tryz.prog W 3 [c1] ∧ CR enc Tryz.prog W 3 [c2] := by
  obtain ⟨hl, hf⟩ := cr_struct Tryz.underlying23 h
  rw [cells_23] at hl
  match cs, hl with
  | [c0, c1, c2], _ =>
    have k0 : CR enc Tryz.prog W 3 (([c0, c1, c2].drop 0).take (Tryz.prog.cellsOf 3)) := hf 0 _ rfl
    rw [cells_3] at k0
    have k1 : CR enc Tryz.prog W 3 (([c0, c1, c2].drop 1).take (Tryz.prog.cellsOf 3)) := hf 1 _ rfl
    rw [cells_3] at k1
    have k2 : CR enc Tryz.prog W 3 (([c0, c1, c2].drop 2).take (Tryz.prog.cellsOf 3)) := hf 2 _ rfl
    rw [cells_3] at k2
    exact ⟨c0, c1, c2, rfl, k0, k1, k2⟩
set_option maxRecDepth 100000 in
theorem connHolds_lifted (os : Os) (started : os.Started) (H : Type) (enc : TypeId × Value → H) :
    ReturnsInHanded {} Tryz.checked os 7 .any (Rows.connHoldsSpec.pre6 enc Tryz.prog Tryz.f7 Rows.connHoldsRow.domain false) (Rows.connHoldsSpec.post enc Tryz.prog Tryz.f7 false true false false) := by
  refine law_lifted (s := Rows.connHoldsSpec) (C := Tryz.checked) own_connHolds started (by kernel_rfl) Tryz.func7
    (ChangeSpec.witness6 (enc := enc) (C := Tryz.checked) false ⟨#[], #[.agg #[.int .i64 0, .int .i64 0, .int .i64 0], .slice none 0 0, .slice none 0 0], []⟩ 8 (by kernel_rfl) (by kernel_rfl) (by kernel_rfl) (by kernel_rfl)) laid_connHolds (by kernel_rfl) (by kernel_rfl) Tryz.underlying4 rfl ?_ ?_
  · intro ds hd
    rw [Tryz.params7] at hd
    match ds, hd with
    | [d0, d1, d2], _ => rfl
  · intro W args ds h
    rw [Tryz.params7] at h
    obtain ⟨v0, v1, v2, d0, d1, d2, rfl, h0, h1, h2⟩ := comes3 h
    obtain ⟨cs0, rfl, h0c⟩ := came_struct Tryz.underlying23 h0
    obtain ⟨f_c0, f_c1, f_c2, e_f, f_k0, f_k1, f_k2⟩ := crs_23 h0c; cases e_f
    obtain ⟨f_In, e_f_In, lo_f_In, hi_f_In⟩ := cr_i64 Tryz.underlying3 f_k0; cases e_f_In
    obtain ⟨f_Out, e_f_Out, lo_f_Out, hi_f_Out⟩ := cr_i64 Tryz.underlying3 f_k1; cases e_f_Out
    obtain ⟨f_Payload, e_f_Payload, lo_f_Payload, hi_f_Payload⟩ := cr_i64 Tryz.underlying3 f_k2; cases e_f_Payload
    obtain ⟨B1, c1, b, rfl, hr1⟩ := came_bytes Tryz.underlying32 Tryz.underlying5 (by kernel_rfl) h1
    obtain ⟨B2, c2, zs, rfl, hr2⟩ := came_bytes Tryz.underlying32 Tryz.underlying5 (by kernel_rfl) h2
    exact connHolds_walk _ _ _ _ lo_f_In hi_f_In lo_f_Out hi_f_Out lo_f_Payload hi_f_Payload _ _ _ _ _ hr1 _ _ _ _ _ hr2
theorem connHolds_holds : Rows.ConnHoldsSaid :=
  OpenClaim.holds_of_wide 7 Tryz.f7 rfl rfl rfl rfl rfl rfl rfl ⟨rfl, rfl, rfl, rfl, rfl⟩ rfl rfl rfl rfl rfl (by kernel_rfl) Tryz.func7 (by kernel_rfl)
    (of_decide_eq_true (by kernel_rfl)) (by unfold Func.isWrapper; rw [if_neg (by decide +kernel)]; exact ⟨rfl, rfl⟩)
    (fun os started H enc _ => connHolds_lifted os started H enc)
end Go.Proofs.YtiighkbehiddkaaGreat
