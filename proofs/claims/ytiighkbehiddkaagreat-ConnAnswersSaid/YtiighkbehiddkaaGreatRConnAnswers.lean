/-
  The row of ConnAnswers: the walk of ConnAnswers, led into the given statement.
-/
import Derived.Test.YtiighkbehiddkaaGreatRows
import Derived.Test.YtiighkbehiddkaaGreatLaw
import Derived.Test.YtiighkbehiddkaaGreatCk
import Derived.Test.YtiighkbehiddkaaGreatItems
namespace Go.Proofs.YtiighkbehiddkaaGreat
open Go.ChangeShapes Go.WideShapes Go.ChangeAt Go.RowKit
set_option linter.unusedVariables false
set_option maxRecDepth 4000
theorem own_connAnswers : ownKnob Tryz.prog.godebug = none := by kernel_rfl
theorem laid_connAnswers : laidOutB Tryz.prog = true := by kernel_rfl
set_option maxRecDepth 100000 in
theorem connAnswers_lifted (os : Os) (started : os.Started) (H : Type) (enc : TypeId × Value → H) :
    ReturnsInHanded {} Tryz.checked os 6 .any (Rows.connAnswersSpec.pre6 enc Tryz.prog Tryz.f6 Rows.connAnswersRow.domain false) (Rows.connAnswersSpec.post enc Tryz.prog Tryz.f6 false true false false) := by
  refine law_lifted (s := Rows.connAnswersSpec) (C := Tryz.checked) own_connAnswers started (by kernel_rfl) Tryz.func6
    (ChangeSpec.witness6 (enc := enc) (C := Tryz.checked) false ⟨#[], #[.int .i64 0, .int .i64 0, .int .u8 0, .int .u8 0], []⟩ 8 (by kernel_rfl) (by kernel_rfl) (by kernel_rfl) (by kernel_rfl)) laid_connAnswers (by kernel_rfl) (by kernel_rfl) Tryz.underlying4 rfl ?_ ?_
  · intro ds hd
    rw [Tryz.params6] at hd
    match ds, hd with
    | [d0, d1, d2, d3], _ => rfl
  · intro W args ds h
    rw [Tryz.params6] at h
    obtain ⟨v0, v1, v2, v3, d0, d1, d2, d3, rfl, h0, h1, h2, h3⟩ := comes4 h
    obtain ⟨o, rfl, o_lo, o_hi⟩ := came_i64 Tryz.underlying3 h0
    obtain ⟨n, rfl, n_lo, n_hi⟩ := came_i64 Tryz.underlying3 h1
    obtain ⟨m, rfl, m_hi⟩ := came_u8 Tryz.underlying5 h2
    obtain ⟨k, rfl, k_hi⟩ := came_u8 Tryz.underlying5 h3
    exact connAnswers_walk _ _ _ _ _ (by omega) (by omega) (by omega)
theorem connAnswers_holds : Rows.ConnAnswersSaid :=
  OpenClaim.holds_of_wide 6 Tryz.f6 rfl rfl rfl rfl rfl rfl rfl ⟨rfl, rfl, rfl, rfl, rfl⟩ rfl rfl rfl rfl rfl (by kernel_rfl) Tryz.func6 (by kernel_rfl)
    (of_decide_eq_true (by kernel_rfl)) (by unfold Func.isWrapper; rw [if_neg (by decide +kernel)]; exact ⟨rfl, rfl⟩)
    (fun os started H enc _ => connAnswers_lifted os started H enc)
end Go.Proofs.YtiighkbehiddkaaGreat
