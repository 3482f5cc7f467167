/-
  The row of ResponseWrites: the walk of ResponseWrites, led into the given statement.
-/
import Derived.Test.YtohnkjjjejnkpaaRows
import Derived.Test.YtohnkjjjejnkpaaLaw
import Derived.Test.YtohnkjjjejnkpaaRs
import Derived.Test.YtohnkjjjejnkpaaRspCame
namespace Go.Proofs.Ytohnkjjjejnkpaa
open Go.ChangeShapes Go.WideShapes Go.ChangeAt Go.RowKit
set_option linter.unusedVariables false
set_option maxRecDepth 4000
theorem own_responseWrites : ownKnob Try.prog.godebug = none := by kernel_rfl
theorem laid_responseWrites : laidOutB Try.prog = true := by kernel_rfl


set_option maxRecDepth 100000 in
theorem responseWrites_lifted (os : Os) (started : os.Started) (H : Type) (enc : TypeId × Value → H) :
    ReturnsInHanded {} Try.checked os 3 .any (Rows.responseWritesSpec.pre6 enc Try.prog Try.f3 Rows.responseWritesRow.domain false) (Rows.responseWritesSpec.post enc Try.prog Try.f3 false true false false) := by
  refine law_lifted (s := Rows.responseWritesSpec) (C := Try.checked) own_responseWrites started (by kernel_rfl) Try.func3
    (ChangeSpec.witness6 (enc := enc) (C := Try.checked) false ⟨#[], #[.agg #[.int .i64 0, .int .i64 0, .slice none 0 0, .int .u64 0, .int .i64 0, .slice none 0 0]], []⟩ 8 (by kernel_rfl) (by kernel_rfl) (by kernel_rfl) (by kernel_rfl)) laid_responseWrites (by kernel_rfl) (by kernel_rfl) Try.underlying4 rfl ?_ ?_
  · intro ds hd
    rw [Try.params3] at hd
    match ds, hd with
    | [d0], _ => rfl
  · intro W args ds h
    rw [Try.params3] at h
    obtain ⟨v0, d0, rfl, h0⟩ := comes1 h
    obtain ⟨r, xs, X, cx, N, cn, rfl, hv, hx, hn, hor, lo_r, hi_r, hc_r⟩ := came_rsp h0
    exact responseWrites_walk _ _ _ hv _ _ _ _ _ _ hx hn hor

theorem responseWrites_holds : Rows.ResponseWritesSaid :=
  OpenClaim.holds_of_wide 3 Try.f3 rfl rfl rfl rfl rfl rfl rfl ⟨rfl, rfl, rfl, rfl, rfl⟩ rfl rfl rfl rfl rfl (by kernel_rfl) Try.func3 (by kernel_rfl)
    (of_decide_eq_true (by kernel_rfl)) (by unfold Func.isWrapper; rw [if_neg (by decide +kernel)]; exact ⟨rfl, rfl⟩)
    (fun os started H enc _ => responseWrites_lifted os started H enc)

end Go.Proofs.Ytohnkjjjejnkpaa
