/-
  The row of RequestHolds and its card: the walk of RequestHolds, led into the given statement. Condition, paid by the tie: the package variable that holds the words reads as listed.
-/
import Derived.Test.YtohnkjjjejnkpaaDoorRows
import Derived.Test.YtohnkjjjejnkpaaDoorCards
import Derived.Test.YtohnkjjjejnkpaaDoorTie
import Derived.Test.YtohnkjjjejnkpaaDoorWordsAt
import Derived.Test.YtohnkjjjejnkpaaDoorKf
import Derived.Test.YtohnkjjjejnkpaaDoorCmdCame
import Derived.Test.YtohnkjjjejnkpaaDoorItems
import Derived.SevenTiedAt
namespace Go.Proofs.YtohnkjjjejnkpaaDoor
open Go Go.ChangeShapes Go.WideShapes Go.ChangeAt Go.RowKit
set_option linter.unusedVariables false
set_option maxRecDepth 4000
theorem own_requestHolds : ownKnob Tryd.prog.godebug = none := by kernel_rfl
theorem laid_requestHolds : laidOutB Tryd.prog = true := by kernel_rfl
theorem cells_5 : Tryd.prog.cellsOf 5 = 1 := by kernel_rfl
theorem cells_32 : Tryd.prog.cellsOf 32 = 1 := by kernel_rfl
theorem cells_40 : Tryd.prog.cellsOf 40 = 2 := by kernel_rfl
theorem crs_40 {H : Type} {enc : TypeId × Value → H} {W : World} {cs : List Value} (h : CR enc Tryd.prog W 40 cs) : ∃ c0 c1, cs = [c0, c1] ∧ CR enc Tryd.prog W 5 [c0] ∧ CR enc Tryd.prog W 32 [c1] := by
  obtain ⟨hl, hf⟩ := cr_struct Tryd.underlying40 h
  rw [cells_40] at hl
  match cs, hl with
  | [c0, c1], _ =>
    have k0 : CR enc Tryd.prog W 5 (([c0, c1].drop 0).take (Tryd.prog.cellsOf 5)) := hf 0 _ rfl
    rw [cells_5] at k0
    have k1 : CR enc Tryd.prog W 32 (([c0, c1].drop 1).take (Tryd.prog.cellsOf 32)) := hf 1 _ rfl
    rw [cells_32] at k1
    exact ⟨c0, c1, rfl, k0, k1⟩


set_option maxRecDepth 100000 in
theorem requestHolds_lifted (os : Os) (started : os.Started) (H : Type) (enc : TypeId × Value → H) :
    ReturnsInHanded {} Tryd.checked os 8 .any (fun w args => (Rows.requestHoldsSpec.pre enc Tryd.prog Tryd.f8 [] false w args ∧ laidMetH Tryd.prog laidW w) ∧ sizedMet enc Tryd.prog Tryd.f8 (OpenSpec.ofChange Rows.requestHoldsSpec) false w args)
      (Rows.requestHoldsSpec.post enc Tryd.prog Tryd.f8 false true false false) := by
  refine law_lifted_laid (laid := laidW) (s := Rows.requestHoldsSpec) (C := Tryd.checked) own_requestHolds started (by kernel_rfl) Tryd.func8
    (ChangeSpec.witness_shaped (enc := enc) (C := Tryd.checked) (os := os) (X := fun w _ => laidMetH Tryd.prog laidW w) false (World.doorLaid Tryd.prog 4000 os) #[.agg #[.int .i64 0, .string ⟨#[]⟩, .slice none 0 0, .slice none 0 0, .slice none 0 0, .int .u64 0, .int .u64 0, .string ⟨#[]⟩, .string ⟨#[]⟩, .string ⟨#[]⟩], .agg #[.int .u8 0, .slice none 0 0]] 8 rfl (World.shaped_of_RefB (by kernel_rfl) (by kernel_rfl)) (by kernel_rfl) (by kernel_rfl) (by kernel_rfl) (door_met os _)) laid_requestHolds (by kernel_rfl) (by kernel_rfl) Tryd.underlying4 rfl ?_ ?_
  · intro ds hd
    rw [Tryd.params8] at hd
    match ds, hd with
    | [d0, d1], _ => rfl
  · intro W args ds hL h
    have hWd := words_of_laid hL
    rw [Tryd.params8] at h
    obtain ⟨v0, v1, d0, d1, rfl, h0, h1⟩ := comes2 h
    obtain ⟨a, K, ck, V, cv, T, ct, rfl, hK, hV, hT, hoa, lo_a, hi_a⟩ := came_cmd h0
    obtain ⟨cs1, rfl, h1c⟩ := came_struct Tryd.underlying40 h1
    obtain ⟨f_c0, f_c1, e_f, f_k0, f_k1⟩ := crs_40 h1c; cases e_f
    obtain ⟨f_Code, e_f_Code⟩ := cr_byte Tryd.underlying5 f_k0; cases e_f_Code
    obtain ⟨A_f_Payload, c_f_Payload, f_Payload, e_f_Payload, hr_f_Payload⟩ := cr_bytes Tryd.underlying32 Tryd.underlying5 (by kernel_rfl) f_k1; cases e_f_Payload
    exact requestHolds_walk _ hWd _ _ _ _ _ _ _ _ _ hK hV hT hoa _ _ _ _ _ _ hr_f_Payload

theorem requestHolds_row : Rows.RequestHoldsSaid :=
  OpenClaim.holds_of_wide 8 Tryd.f8 rfl rfl rfl rfl rfl rfl rfl ⟨rfl, rfl, rfl, rfl, rfl⟩ rfl rfl rfl rfl rfl (by kernel_rfl) Tryd.func8 (by kernel_rfl)
    (of_decide_eq_true (by kernel_rfl)) (by unfold Func.isWrapper; rw [if_neg (by decide +kernel)]; exact ⟨rfl, rfl⟩)
    (fun os started H enc _ => requestHolds_lifted os started H enc)

theorem requestHolds_holds : Rows.RequestHoldsCardSaid :=
  Claim7.holds_tied_plain_at .later [] [.data] true (true, "69e58cbe590e0ef324aa19ab7882ad146e66d5c11c916435f0e3080a569bf2dd") false
    requestHolds_row (fun _ h => by cases h) (by kernel_rfl) (fun _ h => by cases h) requestHolds_row_tie rfl ⟨rfl, rfl⟩ (by kernel_rfl) rfl
    (fun f fn hf hfn => by
      obtain rfl : f = 8 := Option.some.inj ((show Tryd.prog.funcNamed "tagcache/tagcachelaw07.RequestHolds" = some 8 by kernel_rfl).symm.trans hf) |>.symm
      obtain rfl : fn = Tryd.f8 := (Option.some.inj (Tryd.func8.symm.trans hfn)).symm
      exact ⟨by kernel_rfl, fun j t ht => by
        rw [Tryd.params8] at ht
        have h3 : t = 36 ∨ t = 40 := by
          rcases j with _ | j
          · simp at ht; subst ht; exact .inl rfl
          rcases j with _ | j
          · simp at ht; subst ht; exact .inr (rfl)
          simp at ht
        rcases h3 with rfl | rfl
        · exact (show Tryd.prog.wantsStandIn 36 = false by kernel_rfl)
        · exact (show Tryd.prog.wantsStandIn 40 = false by kernel_rfl)⟩)
    (by kernel_rfl)

end Go.Proofs.YtohnkjjjejnkpaaDoor
