/-
  The row of VarintNil: the walk of VarintNil, led into the given statement.
-/
import Derived.Test.YtfniipfdpoeapaaRows
import Derived.Test.YtfniipfdpoeapaaLaw
import Derived.Test.YtfniipfdpoeapaaLc
namespace Go.Proofs.Ytfniipfdpoeapaa
open Go.ChangeShapes Go.WideShapes Go.ChangeAt Go.RowKit
set_option linter.unusedVariables false
theorem own_varintNil : ownKnob Try.prog.godebug = none := by kernel_rfl
theorem laid_varintNil : laidOutB Try.prog = true := by kernel_rfl


set_option maxRecDepth 100000 in
theorem varintNil_lifted (os : Os) (started : os.Started) (H : Type) (enc : TypeId × Value → H) :
    ReturnsInHanded {} Try.checked os 12 .any (Rows.varintNilSpec.pre6 enc Try.prog Try.f12 Rows.varintNilRow.domain false) (Rows.varintNilSpec.post enc Try.prog Try.f12 false true false false) := by
  refine law_lifted (s := Rows.varintNilSpec) (C := Try.checked) own_varintNil started (by kernel_rfl) Try.func12
    (ChangeSpec.witness6 (enc := enc) (C := Try.checked) false ⟨#[], #[.int .i64 0], []⟩ 8 (by kernel_rfl) (by kernel_rfl) (by kernel_rfl) (by kernel_rfl)) laid_varintNil (by kernel_rfl) (by kernel_rfl) Try.underlying4 rfl ?_ ?_
  · intro ds hd
    rw [Try.params12] at hd
    match ds, hd with
    | [d0], _ => rfl
  · intro W args ds h
    rw [Try.params12] at h
    obtain ⟨v0, d0, rfl, h0⟩ := comes1 h
    obtain ⟨m, rfl, m_lo, m_hi⟩ := came_i64 Try.underlying3 h0
    exact varintNil_walk _ _ m_hi

theorem varintNil_holds : Rows.VarintNilSaid :=
  OpenClaim.holds_of_wide 12 Try.f12 rfl rfl rfl rfl rfl rfl rfl ⟨rfl, rfl, rfl, rfl, rfl⟩ rfl rfl rfl rfl rfl (by kernel_rfl) Try.func12 (by kernel_rfl)
    (of_decide_eq_true (by kernel_rfl)) (by unfold Func.isWrapper; rw [if_neg (by decide +kernel)]; exact ⟨rfl, rfl⟩)
    (fun os started H enc _ => varintNil_lifted os started H enc)

end Go.Proofs.Ytfniipfdpoeapaa
