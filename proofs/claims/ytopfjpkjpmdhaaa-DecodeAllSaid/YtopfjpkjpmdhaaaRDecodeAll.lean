/-
  The row of DecodeAll: the walk of DecodeAll, led into the given statement.
-/
import Derived.Test.YtopfjpkjpmdhaaaRows
import Derived.Test.YtopfjpkjpmdhaaaLaw
import Derived.Test.YtopfjpkjpmdhaaaDj
import Derived.Test.YtopfjpkjpmdhaaaItems
namespace Go.Proofs.Ytopfjpkjpmdhaaa
open Go.ChangeShapes Go.WideShapes Go.ChangeAt Go.RowKit
set_option linter.unusedVariables false
set_option maxRecDepth 4000
theorem own_decodeAll : ownKnob Try.prog.godebug = none := by kernel_rfl
theorem laid_decodeAll : laidOutB Try.prog = true := by kernel_rfl


set_option maxRecDepth 100000 in
theorem decodeAll_lifted (os : Os) (started : os.Started) (H : Type) (enc : TypeId × Value → H) :
    ReturnsInHanded {} Try.checked os 8 .any (Rows.decodeAllSpec.pre6 enc Try.prog Try.f8 Rows.decodeAllRow.domain false) (Rows.decodeAllSpec.post enc Try.prog Try.f8 false true false false) := by
  refine law_lifted (s := Rows.decodeAllSpec) (C := Try.checked) own_decodeAll started (by kernel_rfl) Try.func8
    (ChangeSpec.witness6 (enc := enc) (C := Try.checked) false ⟨#[], #[.slice none 0 0, .int .i64 0], []⟩ 8 (by kernel_rfl) (by kernel_rfl) (by kernel_rfl) (by kernel_rfl)) laid_decodeAll (by kernel_rfl) (by kernel_rfl) Try.underlying4 rfl ?_ ?_
  · intro ds hd
    rw [Try.params8] at hd
    match ds, hd with
    | [d0, d1], _ => rfl
  · intro W args ds h
    rw [Try.params8] at h
    obtain ⟨v0, v1, d0, d1, rfl, h0, h1⟩ := comes2 h
    obtain ⟨A, c, l, rfl, hr⟩ := came_bytes Try.underlying26 Try.underlying5 (by kernel_rfl) h0
    obtain ⟨m, rfl, m_lo, m_hi⟩ := came_i64 Try.underlying3 h1
    exact decodeAll_walk _ _ _ _ _ _ hr _

theorem decodeAll_holds : Rows.DecodeAllSaid :=
  OpenClaim.holds_of_wide 8 Try.f8 rfl rfl rfl rfl rfl rfl rfl ⟨rfl, rfl, rfl, rfl, rfl⟩ rfl rfl rfl rfl rfl (by kernel_rfl) Try.func8 (by kernel_rfl)
    (of_decide_eq_true (by kernel_rfl)) (by unfold Func.isWrapper; rw [if_neg (by decide +kernel)]; exact ⟨rfl, rfl⟩)
    (fun os started H enc _ => decodeAll_lifted os started H enc)

end Go.Proofs.Ytopfjpkjpmdhaaa
