/-
  The row of VarintPuts: the walk of VarintPuts, led into the given statement.
-/
import Derived.Test.YtfniipfdpoeapaaRows
import Derived.Test.YtfniipfdpoeapaaLaw
import Derived.Test.YtfniipfdpoeapaaLb
namespace Go.Proofs.Ytfniipfdpoeapaa
open Go.ChangeShapes Go.WideShapes Go.ChangeAt Go.RowKit
set_option linter.unusedVariables false
theorem own_varintPuts : ownKnob Try.prog.godebug = none := by kernel_rfl
theorem laid_varintPuts : laidOutB Try.prog = true := by kernel_rfl


set_option maxRecDepth 100000 in
theorem varintPuts_lifted (os : Os) (started : os.Started) (H : Type) (enc : TypeId × Value → H) :
    ReturnsInHanded {} Try.checked os 8 .any (Rows.varintPutsSpec.pre6 enc Try.prog Try.f8 Rows.varintPutsRow.domain false) (Rows.varintPutsSpec.post enc Try.prog Try.f8 false true false false) := by
  refine law_lifted (s := Rows.varintPutsSpec) (C := Try.checked) own_varintPuts started (by kernel_rfl) Try.func8
    (ChangeSpec.witness6 (enc := enc) (C := Try.checked) false ⟨#[], #[.slice none 0 0, .int .u64 0, .slice none 0 0], []⟩ 8 (by kernel_rfl) (by kernel_rfl) (by kernel_rfl) (by kernel_rfl)) laid_varintPuts (by kernel_rfl) (by kernel_rfl) Try.underlying4 rfl ?_ ?_
  · intro ds hd
    rw [Try.params8] at hd
    match ds, hd with
    | [d0, d1, d2], _ => rfl
  · intro W args ds h
    rw [Try.params8] at h
    obtain ⟨v0, v1, v2, d0, d1, d2, rfl, h0, h1, h2⟩ := comes3 h
    obtain ⟨A, c, l, rfl, hr⟩ := came_bytes Try.underlying22 Try.underlying5 (by kernel_rfl) h0
    obtain ⟨nI, rfl, hn_lo, hn_hi⟩ := came_int Try.underlying45 h1; simp only [IntKind.min, IntKind.max, IntKind.signed, IntKind.bits] at hn_lo hn_hi; simp at hn_lo hn_hi; obtain ⟨n, rfl⟩ := Int.eq_ofNat_of_zero_le hn_lo
    obtain ⟨B, c2, m, rfl, hr2⟩ := came_bytes Try.underlying22 Try.underlying5 (by kernel_rfl) h2
    exact varintPuts_walk _ _ _ _ _ _ _ _ _ _ _ _ (by omega) hr hr2

theorem varintPuts_holds : Rows.VarintPutsSaid :=
  OpenClaim.holds_of_wide 8 Try.f8 rfl rfl rfl rfl rfl rfl rfl ⟨rfl, rfl, rfl, rfl, rfl⟩ rfl rfl rfl rfl rfl (by kernel_rfl) Try.func8 (by kernel_rfl)
    (of_decide_eq_true (by kernel_rfl)) (by unfold Func.isWrapper; rw [if_neg (by decide +kernel)]; exact ⟨rfl, rfl⟩)
    (fun os started H enc _ => varintPuts_lifted os started H enc)

end Go.Proofs.Ytfniipfdpoeapaa
