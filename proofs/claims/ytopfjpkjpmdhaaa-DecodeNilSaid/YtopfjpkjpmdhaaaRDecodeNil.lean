/-
  The row of DecodeNil: the walk of DecodeNil, led into the given statement.
-/
import Derived.Test.YtopfjpkjpmdhaaaRows
import Derived.Test.YtopfjpkjpmdhaaaLaw
import Derived.Test.YtopfjpkjpmdhaaaDh
import Derived.Test.YtopfjpkjpmdhaaaItems
namespace Go.Proofs.Ytopfjpkjpmdhaaa
open Go.ChangeShapes Go.WideShapes Go.ChangeAt Go.RowKit
set_option linter.unusedVariables false
set_option maxRecDepth 4000
theorem own_decodeNil : ownKnob Try.prog.godebug = none := by kernel_rfl
theorem laid_decodeNil : laidOutB Try.prog = true := by kernel_rfl


set_option maxRecDepth 100000 in
theorem decodeNil_lifted (os : Os) (started : os.Started) (H : Type) (enc : TypeId × Value → H) :
    ReturnsInHanded {} Try.checked os 12 .any (Rows.decodeNilSpec.pre6 enc Try.prog Try.f12 Rows.decodeNilRow.domain false) (Rows.decodeNilSpec.post enc Try.prog Try.f12 false true false false) := by
  refine law_lifted (s := Rows.decodeNilSpec) (C := Try.checked) own_decodeNil started (by kernel_rfl) Try.func12
    (ChangeSpec.witness6 (enc := enc) (C := Try.checked) false ⟨#[], #[.slice none 0 0], []⟩ 8 (by kernel_rfl) (by kernel_rfl) (by kernel_rfl) (by kernel_rfl)) laid_decodeNil (by kernel_rfl) (by kernel_rfl) Try.underlying4 rfl ?_ ?_
  · intro ds hd
    rw [Try.params12] at hd
    match ds, hd with
    | [d0], _ => rfl
  · intro W args ds h
    rw [Try.params12] at h
    obtain ⟨v0, d0, rfl, h0⟩ := comes1 h
    obtain ⟨A, c, l, rfl, hr⟩ := came_bytes Try.underlying26 Try.underlying5 (by kernel_rfl) h0
    exact decodeNil_walk _ _ _ _ _ _ hr

theorem decodeNil_holds : Rows.DecodeNilSaid :=
  OpenClaim.holds_of_wide 12 Try.f12 rfl rfl rfl rfl rfl rfl rfl ⟨rfl, rfl, rfl, rfl, rfl⟩ rfl rfl rfl rfl rfl (by kernel_rfl) Try.func12 (by kernel_rfl)
    (of_decide_eq_true (by kernel_rfl)) (by unfold Func.isWrapper; rw [if_neg (by decide +kernel)]; exact ⟨rfl, rfl⟩)
    (fun os started H enc _ => decodeNil_lifted os started H enc)

end Go.Proofs.Ytopfjpkjpmdhaaa
