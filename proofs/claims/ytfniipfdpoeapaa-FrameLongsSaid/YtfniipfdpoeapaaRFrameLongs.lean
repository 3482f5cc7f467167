/-
  The row of FrameLongs: the walk of FrameLongs, led into the given statement.
-/
import Derived.Test.YtfniipfdpoeapaaRows
import Derived.Test.YtfniipfdpoeapaaLaw
import Derived.Test.YtfniipfdpoeapaaFd
import Derived.Test.YtfniipfdpoeapaaItems
namespace Go.Proofs.Ytfniipfdpoeapaa
open Go.ChangeShapes Go.WideShapes Go.ChangeAt Go.RowKit
set_option linter.unusedVariables false
theorem own_frameLongs : ownKnob Try.prog.godebug = none := by kernel_rfl
theorem laid_frameLongs : laidOutB Try.prog = true := by kernel_rfl


set_option maxRecDepth 100000 in
theorem frameLongs_lifted (os : Os) (started : os.Started) (H : Type) (enc : TypeId × Value → H) :
    ReturnsInHanded {} Try.checked os 4 .any (Rows.frameLongsSpec.pre6 enc Try.prog Try.f4 Rows.frameLongsRow.domain false) (Rows.frameLongsSpec.post enc Try.prog Try.f4 false true false false) := by
  refine law_lifted (s := Rows.frameLongsSpec) (C := Try.checked) own_frameLongs started (by kernel_rfl) Try.func4
    (ChangeSpec.witness6 (enc := enc) (C := Try.checked) false ⟨#[], #[.int .i64 0, .int .i64 0], []⟩ 8 (by kernel_rfl) (by kernel_rfl) (by kernel_rfl) (by kernel_rfl)) laid_frameLongs (by kernel_rfl) (by kernel_rfl) Try.underlying4 rfl ?_ ?_
  · intro ds hd
    rw [Try.params4] at hd
    match ds, hd with
    | [d0, d1], _ => rfl
  · intro W args ds h
    rw [Try.params4] at h
    obtain ⟨v0, v1, d0, d1, rfl, h0, h1⟩ := comes2 h
    obtain ⟨m, rfl, m_lo, m_hi⟩ := came_i64 Try.underlying3 h0
    obtain ⟨n, rfl, n_lo, n_hi⟩ := came_i64 Try.underlying3 h1
    exact frameLongs_walk _ _ _

theorem frameLongs_holds : Rows.FrameLongsSaid :=
  OpenClaim.holds_of_wide 4 Try.f4 rfl rfl rfl rfl rfl rfl rfl ⟨rfl, rfl, rfl, rfl, rfl⟩ rfl rfl rfl rfl rfl (by kernel_rfl) Try.func4 (by kernel_rfl)
    (of_decide_eq_true (by kernel_rfl)) (by unfold Func.isWrapper; rw [if_neg (by decide +kernel)]; exact ⟨rfl, rfl⟩)
    (fun os started H enc _ => frameLongs_lifted os started H enc)

end Go.Proofs.Ytfniipfdpoeapaa
