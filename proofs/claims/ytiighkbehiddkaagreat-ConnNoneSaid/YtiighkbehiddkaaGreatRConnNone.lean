/-
  The row of ConnNone: the walk of ConnNone, led into the given statement.
-/
import Derived.Test.YtiighkbehiddkaaGreatRows
import Derived.Test.YtiighkbehiddkaaGreatLaw
import Derived.Test.YtiighkbehiddkaaGreatCi
import Derived.Test.YtiighkbehiddkaaGreatRspCame
import Derived.Test.YtiighkbehiddkaaGreatItems
namespace Go.Proofs.YtiighkbehiddkaaGreat
open Go.ChangeShapes Go.WideShapes Go.ChangeAt Go.RowKit
set_option linter.unusedVariables false
set_option maxRecDepth 4000
theorem own_connNone : ownKnob Tryz.prog.godebug = none := by kernel_rfl
theorem laid_connNone : laidOutB Tryz.prog = true := by kernel_rfl
set_option maxRecDepth 100000 in
theorem connNone_lifted (os : Os) (started : os.Started) (H : Type) (enc : TypeId × Value → H) :
    ReturnsInHanded {} Tryz.checked os 4 .any (Rows.connNoneSpec.pre6 enc Tryz.prog Tryz.f4 Rows.connNoneRow.domain false) (Rows.connNoneSpec.post enc Tryz.prog Tryz.f4 false true false false) := by
  refine law_lifted (s := Rows.connNoneSpec) (C := Tryz.checked) own_connNone started (by kernel_rfl) Tryz.func4
    (ChangeSpec.witness6 (enc := enc) (C := Tryz.checked) false ⟨#[], #[.slice none 0 0, .agg #[.int .i64 0, .int .i64 0, .slice none 0 0, .int .u64 0, .int .i64 0, .slice none 0 0], .int .i64 0], []⟩ 8 (by kernel_rfl) (by kernel_rfl) (by kernel_rfl) (by kernel_rfl)) laid_connNone (by kernel_rfl) (by kernel_rfl) Tryz.underlying4 rfl ?_ ?_
  · intro ds hd
    rw [Tryz.params4] at hd
    match ds, hd with
    | [d0, d1, d2], _ => rfl
  · intro W args ds h
    rw [Tryz.params4] at h
    obtain ⟨v0, v1, v2, d0, d1, d2, rfl, h0, h1, h2⟩ := comes3 h
    obtain ⟨B, c2, q, rfl, hr2⟩ := came_bytes Tryz.underlying32 Tryz.underlying5 (by kernel_rfl) h0
    obtain ⟨r, xs9, X9, cx9, N9, cn9, rfl, hv9, hx9, hn9, hor, lo_r, hi_r, hc_r⟩ := came_rsp h1
    obtain ⟨n, rfl, n_lo, n_hi⟩ := came_i64 Tryz.underlying3 h2
    exact connNone_walk _ _ _ _ _ _ hr2 _ _ hv9 _ _ _ _ _ _ hx9 hn9 _ hor.len
theorem connNone_holds : Rows.ConnNoneSaid :=
  OpenClaim.holds_of_wide 4 Tryz.f4 rfl rfl rfl rfl rfl rfl rfl ⟨rfl, rfl, rfl, rfl, rfl⟩ rfl rfl rfl rfl rfl (by kernel_rfl) Tryz.func4 (by kernel_rfl)
    (of_decide_eq_true (by kernel_rfl)) (by unfold Func.isWrapper; rw [if_neg (by decide +kernel)]; exact ⟨rfl, rfl⟩)
    (fun os started H enc _ => connNone_lifted os started H enc)
end Go.Proofs.YtiighkbehiddkaaGreat
