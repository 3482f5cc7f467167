/-
  The row of VarintGets: the walk of VarintGets, led into the given statement.
-/
import Derived.Test.YtfniipfdpoeapaaRows
import Derived.Test.YtfniipfdpoeapaaLaw
import Derived.Test.YtfniipfdpoeapaaLb
namespace Go.Proofs.Ytfniipfdpoeapaa
open Go.ChangeShapes Go.WideShapes Go.ChangeAt Go.RowKit
set_option linter.unusedVariables false
theorem own_varintGets : ownKnob Try.prog.godebug = none := by kernel_rfl
theorem laid_varintGets : laidOutB Try.prog = true := by kernel_rfl


set_option maxRecDepth 100000 in
theorem varintGets_lifted (os : Os) (started : os.Started) (H : Type) (enc : TypeId × Value → H) :
    ReturnsInHanded {} Try.checked os 9 .any (Rows.varintGetsSpec.pre6 enc Try.prog Try.f9 Rows.varintGetsRow.domain false) (Rows.varintGetsSpec.post enc Try.prog Try.f9 false true false false) := by
  refine law_lifted (s := Rows.varintGetsSpec) (C := Try.checked) own_varintGets started (by kernel_rfl) Try.func9
    (ChangeSpec.witness6 (enc := enc) (C := Try.checked) false ⟨#[], #[.slice none 0 0], []⟩ 8 (by kernel_rfl) (by kernel_rfl) (by kernel_rfl) (by kernel_rfl)) laid_varintGets (by kernel_rfl) (by kernel_rfl) Try.underlying4 rfl ?_ ?_
  · intro ds hd
    rw [Try.params9] at hd
    match ds, hd with
    | [d0], _ => rfl
  · intro W args ds h
    rw [Try.params9] at h
    obtain ⟨v0, d0, rfl, h0⟩ := comes1 h
    obtain ⟨A, c, l, rfl, hr⟩ := came_bytes Try.underlying22 Try.underlying5 (by kernel_rfl) h0
    exact varintGets_walk _ _ _ _ _ _ hr

theorem varintGets_holds : Rows.VarintGetsSaid :=
  OpenClaim.holds_of_wide 9 Try.f9 rfl rfl rfl rfl rfl rfl rfl ⟨rfl, rfl, rfl, rfl, rfl⟩ rfl rfl rfl rfl rfl (by kernel_rfl) Try.func9 (by kernel_rfl)
    (of_decide_eq_true (by kernel_rfl)) (by unfold Func.isWrapper; rw [if_neg (by decide +kernel)]; exact ⟨rfl, rfl⟩)
    (fun os started H enc _ => varintGets_lifted os started H enc)

end Go.Proofs.Ytfniipfdpoeapaa
