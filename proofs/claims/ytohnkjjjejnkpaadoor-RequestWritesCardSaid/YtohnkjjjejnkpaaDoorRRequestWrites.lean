/-
  The row of RequestWrites and its card: the walk of RequestWrites, led into the given statement. Condition, paid by the tie: the package variable that holds the words reads as listed.
-/
import Derived.Test.YtohnkjjjejnkpaaDoorRows
import Derived.Test.YtohnkjjjejnkpaaDoorCards
import Derived.Test.YtohnkjjjejnkpaaDoorTie
import Derived.Test.YtohnkjjjejnkpaaDoorWordsAt
import Derived.Test.YtohnkjjjejnkpaaDoorKh
import Derived.Test.YtohnkjjjejnkpaaDoorCmdCame
import Derived.SevenTiedAt
namespace Go.Proofs.YtohnkjjjejnkpaaDoor
open Go Go.ChangeShapes Go.WideShapes Go.ChangeAt Go.RowKit
set_option linter.unusedVariables false
set_option maxRecDepth 4000
theorem own_requestWrites : ownKnob Tryd.prog.godebug = none := by kernel_rfl
theorem laid_requestWrites : laidOutB Tryd.prog = true := by kernel_rfl


set_option maxRecDepth 100000 in
theorem requestWrites_lifted (os : Os) (started : os.Started) (H : Type) (enc : TypeId × Value → H) :
    ReturnsInHanded {} Tryd.checked os 4 .any (fun w args => (Rows.requestWritesSpec.pre enc Tryd.prog Tryd.f4 [] false w args ∧ laidMetH Tryd.prog laidW w) ∧ sizedMet enc Tryd.prog Tryd.f4 (OpenSpec.ofChange Rows.requestWritesSpec) false w args)
      (Rows.requestWritesSpec.post enc Tryd.prog Tryd.f4 false true false false) := by
  refine law_lifted_laid (laid := laidW) (s := Rows.requestWritesSpec) (C := Tryd.checked) own_requestWrites started (by kernel_rfl) Tryd.func4
    (ChangeSpec.witness_shaped (enc := enc) (C := Tryd.checked) (os := os) (X := fun w _ => laidMetH Tryd.prog laidW w) false (World.doorLaid Tryd.prog 4000 os) #[.agg #[.int .i64 0, .string ⟨#[]⟩, .slice none 0 0, .slice none 0 0, .slice none 0 0, .int .u64 0, .int .u64 0, .string ⟨#[]⟩, .string ⟨#[]⟩, .string ⟨#[]⟩]] 8 rfl (World.shaped_of_RefB (by kernel_rfl) (by kernel_rfl)) (by kernel_rfl) (by kernel_rfl) (by kernel_rfl) (door_met os _)) laid_requestWrites (by kernel_rfl) (by kernel_rfl) Tryd.underlying4 rfl ?_ ?_
  · intro ds hd
    rw [Tryd.params4] at hd
    match ds, hd with
    | [d0], _ => rfl
  · intro W args ds hL h
    have hWd := words_of_laid hL
    rw [Tryd.params4] at h
    obtain ⟨v0, d0, rfl, h0⟩ := comes1 h
    obtain ⟨a, K, ck, V, cv, T, ct, rfl, hK, hV, hT, hoa, lo_a, hi_a⟩ := came_cmd h0
    exact requestWrites_walk _ hWd _ _ _ _ _ _ _ _ _ hK hV hT hoa

theorem requestWrites_row : Rows.RequestWritesSaid :=
  OpenClaim.holds_of_wide 4 Tryd.f4 rfl rfl rfl rfl rfl rfl rfl ⟨rfl, rfl, rfl, rfl, rfl⟩ rfl rfl rfl rfl rfl (by kernel_rfl) Tryd.func4 (by kernel_rfl)
    (of_decide_eq_true (by kernel_rfl)) (by unfold Func.isWrapper; rw [if_neg (by decide +kernel)]; exact ⟨rfl, rfl⟩)
    (fun os started H enc _ => requestWrites_lifted os started H enc)

theorem requestWrites_holds : Rows.RequestWritesCardSaid :=
  Claim7.holds_tied_plain_at .later [] [.data] true (true, "69e58cbe590e0ef324aa19ab7882ad146e66d5c11c916435f0e3080a569bf2dd") false
    requestWrites_row (fun _ h => by cases h) (by kernel_rfl) (fun _ h => by cases h) requestWrites_row_tie rfl ⟨rfl, rfl⟩ (by kernel_rfl) rfl
    (fun f fn hf hfn => by
      obtain rfl : f = 4 := Option.some.inj ((show Tryd.prog.funcNamed "tagcache/tagcachelaw07.RequestWrites" = some 4 by kernel_rfl).symm.trans hf) |>.symm
      obtain rfl : fn = Tryd.f4 := (Option.some.inj (Tryd.func4.symm.trans hfn)).symm
      exact ⟨by kernel_rfl, fun j t ht => by
        rw [Tryd.params4] at ht
        have h3 : t = 36 := by
          rcases j with _ | j
          · simp at ht; subst ht; exact rfl
          simp at ht
        rcases h3 with rfl
        · exact (show Tryd.prog.wantsStandIn 36 = false by kernel_rfl)⟩)
    (by kernel_rfl)

end Go.Proofs.YtohnkjjjejnkpaaDoor
