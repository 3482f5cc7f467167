/-
  The row of BufferNone: the walk of BufferNone, led into the given statement.
-/
import Derived.Test.YtopfjpkjpmdhaaaRows
import Derived.Test.YtopfjpkjpmdhaaaLaw
import Derived.Test.YtopfjpkjpmdhaaaBd
namespace Go.Proofs.Ytopfjpkjpmdhaaa
open Go.ChangeShapes Go.WideShapes Go.ChangeAt Go.RowKit
set_option linter.unusedVariables false
theorem own_bufferNone : ownKnob Try.prog.godebug = none := by kernel_rfl
theorem laid_bufferNone : laidOutB Try.prog = true := by kernel_rfl


set_option maxRecDepth 100000 in
theorem bufferNone_lifted (os : Os) (started : os.Started) (H : Type) (enc : TypeId × Value → H) :
    ReturnsInHanded {} Try.checked os 7 .any (Rows.bufferNoneSpec.pre6 enc Try.prog Try.f7 Rows.bufferNoneRow.domain false) (Rows.bufferNoneSpec.post enc Try.prog Try.f7 false true false false) := by
  refine law_lifted (s := Rows.bufferNoneSpec) (C := Try.checked) own_bufferNone started (by kernel_rfl) Try.func7
    (ChangeSpec.witness6 (enc := enc) (C := Try.checked) false ⟨#[], #[.slice none 0 0, .int .i64 0], []⟩ 8 (by kernel_rfl) (by kernel_rfl) (by kernel_rfl) (by kernel_rfl)) laid_bufferNone (by kernel_rfl) (by kernel_rfl) Try.underlying4 rfl ?_ ?_
  · intro ds hd
    rw [Try.params7] at hd
    match ds, hd with
    | [d0, d1], _ => rfl
  · intro W args ds h
    rw [Try.params7] at h
    obtain ⟨v0, v1, d0, d1, rfl, h0, h1⟩ := comes2 h
    obtain ⟨A, c, l, rfl, hr⟩ := came_bytes Try.underlying26 Try.underlying5 (by kernel_rfl) h0
    obtain ⟨m, rfl, m_lo, m_hi⟩ := came_i64 Try.underlying3 h1
    exact bufferNone_walk _ _ _ _ _ _ _ m_lo m_hi hr

theorem bufferNone_holds : Rows.BufferNoneSaid :=
  OpenClaim.holds_of_wide 7 Try.f7 rfl rfl rfl rfl rfl rfl rfl ⟨rfl, rfl, rfl, rfl, rfl⟩ rfl rfl rfl rfl rfl (by kernel_rfl) Try.func7 (by kernel_rfl)
    (of_decide_eq_true (by kernel_rfl)) (by unfold Func.isWrapper; rw [if_neg (by decide +kernel)]; exact ⟨rfl, rfl⟩)
    (fun os started H enc _ => bufferNone_lifted os started H enc)

end Go.Proofs.Ytopfjpkjpmdhaaa
