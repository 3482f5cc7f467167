/-
  The row of DecodePlays: the walk of DecodePlays, led into the given statement.
-/
import Derived.Test.YtopfjpkjpmdhaaaRows
import Derived.Test.YtopfjpkjpmdhaaaLaw
import Derived.Test.YtopfjpkjpmdhaaaDl
namespace Go.Proofs.Ytopfjpkjpmdhaaa
open Go.ChangeShapes Go.WideShapes Go.ChangeAt Go.RowKit
set_option linter.unusedVariables false
set_option maxRecDepth 4000
theorem own_decodePlays : ownKnob Try.prog.godebug = none := by kernel_rfl
theorem laid_decodePlays : laidOutB Try.prog = true := by kernel_rfl
theorem cells_3 : Try.prog.cellsOf 3 = 1 := by kernel_rfl
theorem cells_26 : Try.prog.cellsOf 26 = 1 := by kernel_rfl
theorem cells_83 : Try.prog.cellsOf 83 = 2 := by kernel_rfl
theorem crs_83 {H : Type} {enc : TypeId × Value → H} {W : World} {cs : List Value} (h : CR enc Try.prog W 83 cs) : ∃ c0 c1, cs = [c0, c1] ∧ CR enc Try.prog W 3 [c0] ∧ CR enc Try.prog W 26 [c1] := by
  obtain ⟨hl, hf⟩ := cr_struct Try.underlying83 h
  rw [cells_83] at hl
  match cs, hl with
  | [c0, c1], _ =>
    have k0 : CR enc Try.prog W 3 (([c0, c1].drop 0).take (Try.prog.cellsOf 3)) := hf 0 _ rfl
    rw [cells_3] at k0
    have k1 : CR enc Try.prog W 26 (([c0, c1].drop 1).take (Try.prog.cellsOf 26)) := hf 1 _ rfl
    rw [cells_26] at k1
    exact ⟨c0, c1, rfl, k0, k1⟩


set_option maxRecDepth 100000 in
theorem decodePlays_lifted (os : Os) (started : os.Started) (H : Type) (enc : TypeId × Value → H) :
    ReturnsInHanded {} Try.checked os 11 .any (Rows.decodePlaysSpec.pre6 enc Try.prog Try.f11 Rows.decodePlaysRow.domain false) (Rows.decodePlaysSpec.post enc Try.prog Try.f11 false true false false) := by
  refine law_lifted (s := Rows.decodePlaysSpec) (C := Try.checked) own_decodePlays started (by kernel_rfl) Try.func11
    (ChangeSpec.witness6 (enc := enc) (C := Try.checked) false ⟨#[], #[.int .i64 0, .slice none 0 0], []⟩ 8 (by kernel_rfl) (by kernel_rfl) (by kernel_rfl) (by kernel_rfl)) laid_decodePlays (by kernel_rfl) (by kernel_rfl) Try.underlying4 rfl ?_ ?_
  · intro ds hd
    rw [Try.params11] at hd
    match ds, hd with
    | [d0, d1], _ => rfl
  · intro W args ds h
    rw [Try.params11] at h
    obtain ⟨v0, v1, d0, d1, rfl, h0, h1⟩ := comes2 h
    obtain ⟨m, rfl, m_lo, m_hi⟩ := came_i64 Try.underlying3 h0
    obtain ⟨C0, n0, c0, rfl, h1c⟩ := came_slice Try.underlying80 h1
    obtain ⟨C, cx, xs, hcs, hrx, hfx, hQ⟩ := cr_rows act06c (fun a => RdB W 0 W.heap.size a.2.1 a.2.2.1 a.2.2.2) Try.underlying80 (by kernel_rfl : Try.prog.cellsOf 83 = 2) (by decide) (fun cs hcs => by
      obtain ⟨x_c0, x_c1, e_x, x_k0, x_k1⟩ := crs_83 hcs; cases e_x
      obtain ⟨x_What, e_x_What, lo_x_What, hi_x_What⟩ := cr_i64 Try.underlying3 x_k0; cases e_x_What
      obtain ⟨A_x_Bytes, c_x_Bytes, x_Bytes, e_x_Bytes, hr_x_Bytes⟩ := cr_bytes Try.underlying26 Try.underlying5 (by kernel_rfl) x_k1; cases e_x_Bytes
      exact ⟨(x_What, A_x_Bytes, c_x_Bytes, x_Bytes), rfl, hr_x_Bytes⟩) h1c
    cases hcs
    exact decodePlays_walk _ _ _ _ _ _ _ hrx hQ

theorem decodePlays_holds : Rows.DecodePlaysSaid :=
  OpenClaim.holds_of_wide 11 Try.f11 rfl rfl rfl rfl rfl rfl rfl ⟨rfl, rfl, rfl, rfl, rfl⟩ rfl rfl rfl rfl rfl (by kernel_rfl) Try.func11 (by kernel_rfl)
    (of_decide_eq_true (by kernel_rfl)) (by unfold Func.isWrapper; rw [if_neg (by decide +kernel)]; exact ⟨rfl, rfl⟩)
    (fun os started H enc _ => decodePlays_lifted os started H enc)

end Go.Proofs.Ytopfjpkjpmdhaaa
