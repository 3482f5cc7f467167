/-
  The row of ResponseValid: the walk of ResponseValid, led into the given statement.
-/
import Derived.Test.YtohnkjjjejnkpaaRows
import Derived.Test.YtohnkjjjejnkpaaLaw
import Derived.Test.YtohnkjjjejnkpaaRo
import Derived.Test.YtohnkjjjejnkpaaRspCame
namespace Go.Proofs.Ytohnkjjjejnkpaa
open Go.ChangeShapes Go.WideShapes Go.ChangeAt Go.RowKit
set_option linter.unusedVariables false
set_option maxRecDepth 4000
theorem own_responseValid : ownKnob Try.prog.godebug = none := by kernel_rfl
theorem laid_responseValid : laidOutB Try.prog = true := by kernel_rfl


set_option maxRecDepth 100000 in
theorem responseValid_lifted (os : Os) (started : os.Started) (H : Type) (enc : TypeId × Value → H) :
    ReturnsInHanded {} Try.checked os 5 .any (Rows.responseValidSpec.pre6 enc Try.prog Try.f5 Rows.responseValidRow.domain false) (Rows.responseValidSpec.post enc Try.prog Try.f5 false true false false) := by
  refine law_lifted (s := Rows.responseValidSpec) (C := Try.checked) own_responseValid started (by kernel_rfl) Try.func5
    (ChangeSpec.witness6 (enc := enc) (C := Try.checked) false ⟨#[], #[.agg #[.int .i64 0, .int .i64 0, .slice none 0 0, .int .u64 0, .int .i64 0, .slice none 0 0], .agg #[.int .i64 0, .int .i64 0, .slice none 0 0, .int .u64 0, .int .i64 0, .slice none 0 0], .int .i64 0, .int .i64 0], []⟩ 8 (by kernel_rfl) (by kernel_rfl) (by kernel_rfl) (by kernel_rfl)) laid_responseValid (by kernel_rfl) (by kernel_rfl) Try.underlying4 rfl ?_ ?_
  · intro ds hd
    rw [Try.params5] at hd
    match ds, hd with
    | [d0, d1, d2, d3], _ => rfl
  · intro W args ds h
    rw [Try.params5] at h
    obtain ⟨v0, v1, v2, v3, d0, d1, d2, d3, rfl, h0, h1, h2, h3⟩ := comes4 h
    obtain ⟨a, xs, X, cx, N, cn, rfl, hv, hx, hn, hoa, lo_a, hi_a, hc_a⟩ := came_rsp h0
    obtain ⟨b, xs2, X2, cx2, N2, cn2, rfl, hv2, hx2, hn2, hob, lo_b, hi_b, hc_b⟩ := came_rsp h1
    obtain ⟨op, rfl, op_lo, op_hi⟩ := came_i64 Try.underlying22 h2
    obtain ⟨e, rfl, e_lo, e_hi⟩ := came_i64 Try.underlying23 h3
    exact responseValid_walk _ _ _ hv _ _ _ _ _ _ hx hn _ _ hv2 _ _ _ _ _ _ hx2 hn2 _ _ hoa hob

theorem responseValid_holds : Rows.ResponseValidSaid :=
  OpenClaim.holds_of_wide 5 Try.f5 rfl rfl rfl rfl rfl rfl rfl ⟨rfl, rfl, rfl, rfl, rfl⟩ rfl rfl rfl rfl rfl (by kernel_rfl) Try.func5 (by kernel_rfl)
    (of_decide_eq_true (by kernel_rfl)) (by unfold Func.isWrapper; rw [if_neg (by decide +kernel)]; exact ⟨rfl, rfl⟩)
    (fun os started H enc _ => responseValid_lifted os started H enc)

end Go.Proofs.Ytohnkjjjejnkpaa
