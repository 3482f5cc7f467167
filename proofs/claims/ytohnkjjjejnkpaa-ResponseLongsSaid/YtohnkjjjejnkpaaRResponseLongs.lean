/-
  The row of ResponseLongs: the walk of ResponseLongs, led into the given statement.
-/
import Derived.Test.YtohnkjjjejnkpaaRows
import Derived.Test.YtohnkjjjejnkpaaLaw
import Derived.Test.YtohnkjjjejnkpaaRw
namespace Go.Proofs.Ytohnkjjjejnkpaa
open Go.ChangeShapes Go.WideShapes Go.ChangeAt Go.RowKit
set_option linter.unusedVariables false
set_option maxRecDepth 4000
theorem own_responseLongs : ownKnob Try.prog.godebug = none := by kernel_rfl
theorem laid_responseLongs : laidOutB Try.prog = true := by kernel_rfl


set_option maxRecDepth 100000 in
theorem responseLongs_lifted (os : Os) (started : os.Started) (H : Type) (enc : TypeId × Value → H) :
    ReturnsInHanded {} Try.checked os 6 .any (Rows.responseLongsSpec.pre6 enc Try.prog Try.f6 Rows.responseLongsRow.domain false) (Rows.responseLongsSpec.post enc Try.prog Try.f6 false true false false) := by
  refine law_lifted (s := Rows.responseLongsSpec) (C := Try.checked) own_responseLongs started (by kernel_rfl) Try.func6
    (ChangeSpec.witness6 (enc := enc) (C := Try.checked) false ⟨#[], #[.int .i64 0, .int .i64 0, .int .i64 0], []⟩ 8 (by kernel_rfl) (by kernel_rfl) (by kernel_rfl) (by kernel_rfl)) laid_responseLongs (by kernel_rfl) (by kernel_rfl) Try.underlying4 rfl ?_ ?_
  · intro ds hd
    rw [Try.params6] at hd
    match ds, hd with
    | [d0, d1, d2], _ => rfl
  · intro W args ds h
    rw [Try.params6] at h
    obtain ⟨v0, v1, v2, d0, d1, d2, rfl, h0, h1, h2⟩ := comes3 h
    obtain ⟨m, rfl, m_lo, m_hi⟩ := came_i64 Try.underlying3 h0
    obtain ⟨p, rfl, p_lo, p_hi⟩ := came_i64 Try.underlying3 h1
    obtain ⟨q, rfl, q_lo, q_hi⟩ := came_i64 Try.underlying3 h2
    exact responseLongs_walk _ _ _ _

theorem responseLongs_holds : Rows.ResponseLongsSaid :=
  OpenClaim.holds_of_wide 6 Try.f6 rfl rfl rfl rfl rfl rfl rfl ⟨rfl, rfl, rfl, rfl, rfl⟩ rfl rfl rfl rfl rfl (by kernel_rfl) Try.func6 (by kernel_rfl)
    (of_decide_eq_true (by kernel_rfl)) (by unfold Func.isWrapper; rw [if_neg (by decide +kernel)]; exact ⟨rfl, rfl⟩)
    (fun os started H enc _ => responseLongs_lifted os started H enc)

end Go.Proofs.Ytohnkjjjejnkpaa
