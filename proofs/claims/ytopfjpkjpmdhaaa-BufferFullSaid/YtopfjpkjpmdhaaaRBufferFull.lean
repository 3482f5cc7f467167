/-
  The row of BufferFull: the walk of BufferFull, led into the given statement.
-/
import Derived.Test.YtopfjpkjpmdhaaaRows
import Derived.Test.YtopfjpkjpmdhaaaLaw
import Derived.Test.YtopfjpkjpmdhaaaBc
namespace Go.Proofs.Ytopfjpkjpmdhaaa
open Go.ChangeShapes Go.WideShapes Go.ChangeAt Go.RowKit
set_option linter.unusedVariables false
theorem own_bufferFull : ownKnob Try.prog.godebug = none := by kernel_rfl
theorem laid_bufferFull : laidOutB Try.prog = true := by kernel_rfl


set_option maxRecDepth 100000 in
theorem bufferFull_lifted (os : Os) (started : os.Started) (H : Type) (enc : TypeId × Value → H) :
    ReturnsInHanded {} Try.checked os 4 .any (Rows.bufferFullSpec.pre6 enc Try.prog Try.f4 Rows.bufferFullRow.domain false) (Rows.bufferFullSpec.post enc Try.prog Try.f4 false true false false) := by
  refine law_lifted (s := Rows.bufferFullSpec) (C := Try.checked) own_bufferFull started (by kernel_rfl) Try.func4
    (ChangeSpec.witness6 (enc := enc) (C := Try.checked) false ⟨#[], #[.int .i64 0], []⟩ 8 (by kernel_rfl) (by kernel_rfl) (by kernel_rfl) (by kernel_rfl)) laid_bufferFull (by kernel_rfl) (by kernel_rfl) Try.underlying4 rfl ?_ ?_
  · intro ds hd
    rw [Try.params4] at hd
    match ds, hd with
    | [d0], _ => rfl
  · intro W args ds h
    rw [Try.params4] at h
    obtain ⟨v0, d0, rfl, h0⟩ := comes1 h
    obtain ⟨m, rfl, m_lo, m_hi⟩ := came_i64 Try.underlying3 h0
    exact bufferFull_walk _ _

theorem bufferFull_holds : Rows.BufferFullSaid :=
  OpenClaim.holds_of_wide 4 Try.f4 rfl rfl rfl rfl rfl rfl rfl ⟨rfl, rfl, rfl, rfl, rfl⟩ rfl rfl rfl rfl rfl (by kernel_rfl) Try.func4 (by kernel_rfl)
    (of_decide_eq_true (by kernel_rfl)) (by unfold Func.isWrapper; rw [if_neg (by decide +kernel)]; exact ⟨rfl, rfl⟩)
    (fun os started H enc _ => bufferFull_lifted os started H enc)

end Go.Proofs.Ytopfjpkjpmdhaaa
