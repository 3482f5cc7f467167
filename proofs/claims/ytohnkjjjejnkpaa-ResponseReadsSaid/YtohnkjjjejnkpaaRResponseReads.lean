/-
  The row of ResponseReads: the walk of ResponseReads, led into the given statement.
-/
import Derived.Test.YtohnkjjjejnkpaaRows
import Derived.Test.YtohnkjjjejnkpaaLaw
import Derived.Test.YtohnkjjjejnkpaaRv
import Derived.Test.YtohnkjjjejnkpaaItems
namespace Go.Proofs.Ytohnkjjjejnkpaa
open Go.ChangeShapes Go.WideShapes Go.ChangeAt Go.RowKit
set_option linter.unusedVariables false
set_option maxRecDepth 4000
theorem own_responseReads : ownKnob Try.prog.godebug = none := by kernel_rfl
theorem laid_responseReads : laidOutB Try.prog = true := by kernel_rfl
theorem cells_5 : Try.prog.cellsOf 5 = 1 := by kernel_rfl
theorem cells_32 : Try.prog.cellsOf 32 = 1 := by kernel_rfl
theorem cells_34 : Try.prog.cellsOf 34 = 2 := by kernel_rfl
theorem crs_34 {H : Type} {enc : TypeId × Value → H} {W : World} {cs : List Value} (h : CR enc Try.prog W 34 cs) : ∃ c0 c1, cs = [c0, c1] ∧ CR enc Try.prog W 5 [c0] ∧ CR enc Try.prog W 32 [c1] := by
  obtain ⟨hl, hf⟩ := cr_struct Try.underlying34 h
  rw [cells_34] at hl
  match cs, hl with
  | [c0, c1], _ =>
    have k0 : CR enc Try.prog W 5 (([c0, c1].drop 0).take (Try.prog.cellsOf 5)) := hf 0 _ rfl
    rw [cells_5] at k0
    have k1 : CR enc Try.prog W 32 (([c0, c1].drop 1).take (Try.prog.cellsOf 32)) := hf 1 _ rfl
    rw [cells_32] at k1
    exact ⟨c0, c1, rfl, k0, k1⟩


set_option maxRecDepth 100000 in
theorem responseReads_lifted (os : Os) (started : os.Started) (H : Type) (enc : TypeId × Value → H) :
    ReturnsInHanded {} Try.checked os 4 .any (Rows.responseReadsSpec.pre6 enc Try.prog Try.f4 Rows.responseReadsRow.domain false) (Rows.responseReadsSpec.post enc Try.prog Try.f4 false true false false) := by
  refine law_lifted (s := Rows.responseReadsSpec) (C := Try.checked) own_responseReads started (by kernel_rfl) Try.func4
    (ChangeSpec.witness6 (enc := enc) (C := Try.checked) false ⟨#[], #[.agg #[.int .u8 0, .slice none 0 0]], []⟩ 8 (by kernel_rfl) (by kernel_rfl) (by kernel_rfl) (by kernel_rfl)) laid_responseReads (by kernel_rfl) (by kernel_rfl) Try.underlying4 rfl ?_ ?_
  · intro ds hd
    rw [Try.params4] at hd
    match ds, hd with
    | [d0], _ => rfl
  · intro W args ds h
    rw [Try.params4] at h
    obtain ⟨v0, d0, rfl, h0⟩ := comes1 h
    obtain ⟨cs0, rfl, h0c⟩ := came_struct Try.underlying34 h0
    obtain ⟨f_c0, f_c1, e_f, f_k0, f_k1⟩ := crs_34 h0c; cases e_f
    obtain ⟨f_Code, e_f_Code⟩ := cr_byte Try.underlying5 f_k0; cases e_f_Code
    obtain ⟨A_f_Payload, c_f_Payload, f_Payload, e_f_Payload, hr_f_Payload⟩ := cr_bytes Try.underlying32 Try.underlying5 (by kernel_rfl) f_k1; cases e_f_Payload
    exact responseReads_walk _ _ _ _ _ _ _ hr_f_Payload

theorem responseReads_holds : Rows.ResponseReadsSaid :=
  OpenClaim.holds_of_wide 4 Try.f4 rfl rfl rfl rfl rfl rfl rfl ⟨rfl, rfl, rfl, rfl, rfl⟩ rfl rfl rfl rfl rfl (by kernel_rfl) Try.func4 (by kernel_rfl)
    (of_decide_eq_true (by kernel_rfl)) (by unfold Func.isWrapper; rw [if_neg (by decide +kernel)]; exact ⟨rfl, rfl⟩)
    (fun os started H enc _ => responseReads_lifted os started H enc)

end Go.Proofs.Ytohnkjjjejnkpaa
