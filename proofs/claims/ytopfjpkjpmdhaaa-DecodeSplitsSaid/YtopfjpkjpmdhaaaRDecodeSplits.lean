/-
  The row of DecodeSplits: the walk of DecodeSplits, led into the given statement.
-/
import Derived.Test.YtopfjpkjpmdhaaaRows
import Derived.Test.YtopfjpkjpmdhaaaLaw
import Derived.Test.YtopfjpkjpmdhaaaDo
import Derived.Test.YtopfjpkjpmdhaaaItems
namespace Go.Proofs.Ytopfjpkjpmdhaaa
open Go.ChangeShapes Go.WideShapes Go.ChangeAt Go.RowKit
set_option linter.unusedVariables false
set_option maxRecDepth 4000
theorem own_decodeSplits : ownKnob Try.prog.godebug = none := by kernel_rfl
theorem laid_decodeSplits : laidOutB Try.prog = true := by kernel_rfl


set_option maxRecDepth 100000 in
theorem decodeSplits_lifted (os : Os) (started : os.Started) (H : Type) (enc : TypeId × Value → H) :
    ReturnsInHanded {} Try.checked os 9 .any (Rows.decodeSplitsSpec.pre6 enc Try.prog Try.f9 Rows.decodeSplitsRow.domain false) (Rows.decodeSplitsSpec.post enc Try.prog Try.f9 false true false false) := by
  refine law_lifted (s := Rows.decodeSplitsSpec) (C := Try.checked) own_decodeSplits started (by kernel_rfl) Try.func9
    (ChangeSpec.witness6 (enc := enc) (C := Try.checked) false ⟨#[], #[.slice none 0 0, .int .i64 0, .slice none 0 0, .slice none 0 0], []⟩ 8 (by kernel_rfl) (by kernel_rfl) (by kernel_rfl) (by kernel_rfl)) laid_decodeSplits (by kernel_rfl) (by kernel_rfl) Try.underlying4 rfl ?_ ?_
  · intro ds hd
    rw [Try.params9] at hd
    match ds, hd with
    | [d0, d1, d2, d3], _ => rfl
  · intro W args ds h
    rw [Try.params9] at h
    obtain ⟨v0, v1, v2, v3, d0, d1, d2, d3, rfl, h0, h1, h2, h3⟩ := comes4 h
    obtain ⟨A, c, l, rfl, hr⟩ := came_bytes Try.underlying26 Try.underlying5 (by kernel_rfl) h0
    obtain ⟨m, rfl, m_lo, m_hi⟩ := came_i64 Try.underlying3 h1
    obtain ⟨Z, cz, z, rfl, hrz⟩ := came_bytes Try.underlying26 Try.underlying5 (by kernel_rfl) h2
    obtain ⟨K, ck, kk, rfl, hrc⟩ := came_bytes Try.underlying26 Try.underlying5 (by kernel_rfl) h3
    exact decodeSplits_walk _ _ _ _ _ _ hr _ _ _ _ _ _ hrz _ _ _ _ _ hrc

theorem decodeSplits_holds : Rows.DecodeSplitsSaid :=
  OpenClaim.holds_of_wide 9 Try.f9 rfl rfl rfl rfl rfl rfl rfl ⟨rfl, rfl, rfl, rfl, rfl⟩ rfl rfl rfl rfl rfl (by kernel_rfl) Try.func9 (by kernel_rfl)
    (of_decide_eq_true (by kernel_rfl)) (by unfold Func.isWrapper; rw [if_neg (by decide +kernel)]; exact ⟨rfl, rfl⟩)
    (fun os started H enc _ => decodeSplits_lifted os started H enc)

end Go.Proofs.Ytopfjpkjpmdhaaa
