/-
  The row of VarintParts: the walk of VarintParts, led into the given statement.
-/
import Derived.Test.YtfniipfdpoeapaaRows
import Derived.Test.YtfniipfdpoeapaaLaw
import Derived.Test.YtfniipfdpoeapaaLb
namespace Go.Proofs.Ytfniipfdpoeapaa
open Go.ChangeShapes Go.WideShapes Go.ChangeAt Go.RowKit
set_option linter.unusedVariables false
theorem own_varintParts : ownKnob Try.prog.godebug = none := by kernel_rfl
theorem laid_varintParts : laidOutB Try.prog = true := by kernel_rfl


set_option maxRecDepth 100000 in
theorem varintParts_lifted (os : Os) (started : os.Started) (H : Type) (enc : TypeId × Value → H) :
    ReturnsInHanded {} Try.checked os 10 .any (Rows.varintPartsSpec.pre6 enc Try.prog Try.f10 Rows.varintPartsRow.domain false) (Rows.varintPartsSpec.post enc Try.prog Try.f10 false true false false) := by
  refine law_lifted (s := Rows.varintPartsSpec) (C := Try.checked) own_varintParts started (by kernel_rfl) Try.func10
    (ChangeSpec.witness6 (enc := enc) (C := Try.checked) false ⟨#[], #[.slice none 0 0, .int .i64 0], []⟩ 8 (by kernel_rfl) (by kernel_rfl) (by kernel_rfl) (by kernel_rfl)) laid_varintParts (by kernel_rfl) (by kernel_rfl) Try.underlying4 rfl ?_ ?_
  · intro ds hd
    rw [Try.params10] at hd
    match ds, hd with
    | [d0, d1], _ => rfl
  · intro W args ds h
    rw [Try.params10] at h
    obtain ⟨v0, v1, d0, d1, rfl, h0, h1⟩ := comes2 h
    obtain ⟨A, c, l, rfl, hr⟩ := came_bytes Try.underlying22 Try.underlying5 (by kernel_rfl) h0
    obtain ⟨m, rfl, hm_lo, hm_hi⟩ := came_int Try.underlying3 h1; simp only [IntKind.min, IntKind.max, IntKind.signed, IntKind.bits] at hm_lo hm_hi; simp at hm_lo hm_hi
    exact varintParts_walk _ _ _ _ _ _ _ hm_hi hr

theorem varintParts_holds : Rows.VarintPartsSaid :=
  OpenClaim.holds_of_wide 10 Try.f10 rfl rfl rfl rfl rfl rfl rfl ⟨rfl, rfl, rfl, rfl, rfl⟩ rfl rfl rfl rfl rfl (by kernel_rfl) Try.func10 (by kernel_rfl)
    (of_decide_eq_true (by kernel_rfl)) (by unfold Func.isWrapper; rw [if_neg (by decide +kernel)]; exact ⟨rfl, rfl⟩)
    (fun os started H enc _ => varintParts_lifted os started H enc)

end Go.Proofs.Ytfniipfdpoeapaa
