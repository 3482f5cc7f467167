/-
  The row of BufferNew: the walk of BufferNew, led into the given statement.
-/
import Derived.Test.YtopfjpkjpmdhaaaRows
import Derived.Test.YtopfjpkjpmdhaaaLaw
import Derived.Test.YtopfjpkjpmdhaaaBb
namespace Go.Proofs.Ytopfjpkjpmdhaaa
open Go.ChangeShapes Go.WideShapes Go.ChangeAt Go.RowKit
set_option linter.unusedVariables false
theorem own_bufferNew : ownKnob Try.prog.godebug = none := by kernel_rfl
theorem laid_bufferNew : laidOutB Try.prog = true := by kernel_rfl


set_option maxRecDepth 100000 in
theorem bufferNew_lifted (os : Os) (started : os.Started) (H : Type) (enc : TypeId × Value → H) :
    ReturnsInHanded {} Try.checked os 3 .any (Rows.bufferNewSpec.pre6 enc Try.prog Try.f3 Rows.bufferNewRow.domain false) (Rows.bufferNewSpec.post enc Try.prog Try.f3 false true false false) := by
  refine law_lifted (s := Rows.bufferNewSpec) (C := Try.checked) own_bufferNew started (by kernel_rfl) Try.func3
    (ChangeSpec.witness6 (enc := enc) (C := Try.checked) false ⟨#[], #[.int .i64 0], []⟩ 8 (by kernel_rfl) (by kernel_rfl) (by kernel_rfl) (by kernel_rfl)) laid_bufferNew (by kernel_rfl) (by kernel_rfl) Try.underlying4 rfl ?_ ?_
  · intro ds hd
    rw [Try.params3] at hd
    match ds, hd with
    | [d0], _ => rfl
  · intro W args ds h
    rw [Try.params3] at h
    obtain ⟨v0, d0, rfl, h0⟩ := comes1 h
    obtain ⟨m, rfl, m_lo, m_hi⟩ := came_i64 Try.underlying3 h0
    exact bufferNew_walk _ _

theorem bufferNew_holds : Rows.BufferNewSaid :=
  OpenClaim.holds_of_wide 3 Try.f3 rfl rfl rfl rfl rfl rfl rfl ⟨rfl, rfl, rfl, rfl, rfl⟩ rfl rfl rfl rfl rfl (by kernel_rfl) Try.func3 (by kernel_rfl)
    (of_decide_eq_true (by kernel_rfl)) (by unfold Func.isWrapper; rw [if_neg (by decide +kernel)]; exact ⟨rfl, rfl⟩)
    (fun os started H enc _ => bufferNew_lifted os started H enc)

end Go.Proofs.Ytopfjpkjpmdhaaa
