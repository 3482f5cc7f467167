/-
  The row of RequestValid and its card: the walk of RequestValid, led into the given statement. Condition, paid by the tie: the package variable that holds the words reads as listed.
-/
import Derived.Test.YtohnkjjjejnkpaaDoorRows
import Derived.Test.YtohnkjjjejnkpaaDoorCards
import Derived.Test.YtohnkjjjejnkpaaDoorTie
import Derived.Test.YtohnkjjjejnkpaaDoorWordsAt
import Derived.Test.YtohnkjjjejnkpaaDoorKd
import Derived.Test.YtohnkjjjejnkpaaDoorCmdCame
import Derived.SevenTiedAt
namespace Go.Proofs.YtohnkjjjejnkpaaDoor
open Go Go.ChangeShapes Go.WideShapes Go.ChangeAt Go.RowKit
set_option linter.unusedVariables false
set_option maxRecDepth 4000
theorem own_requestValid : ownKnob Tryd.prog.godebug = none := by kernel_rfl
theorem laid_requestValid : laidOutB Tryd.prog = true := by kernel_rfl


set_option maxRecDepth 100000 in
theorem requestValid_lifted (os : Os) (started : os.Started) (H : Type) (enc : TypeId × Value → H) :
    ReturnsInHanded {} Tryd.checked os 6 .any (fun w args => (Rows.requestValidSpec.pre enc Tryd.prog Tryd.f6 [] false w args ∧ laidMetH Tryd.prog laidW w) ∧ sizedMet enc Tryd.prog Tryd.f6 (OpenSpec.ofChange Rows.requestValidSpec) false w args)
      (Rows.requestValidSpec.post enc Tryd.prog Tryd.f6 false true false false) := by
  refine law_lifted_laid (laid := laidW) (s := Rows.requestValidSpec) (C := Tryd.checked) own_requestValid started (by kernel_rfl) Tryd.func6
    (ChangeSpec.witness_shaped (enc := enc) (C := Tryd.checked) (os := os) (X := fun w _ => laidMetH Tryd.prog laidW w) false (World.doorLaid Tryd.prog 4000 os) #[.agg #[.int .i64 0, .string ⟨#[]⟩, .slice none 0 0, .slice none 0 0, .slice none 0 0, .int .u64 0, .int .u64 0, .string ⟨#[]⟩, .string ⟨#[]⟩, .string ⟨#[]⟩], .agg #[.int .i64 0, .string ⟨#[]⟩, .slice none 0 0, .slice none 0 0, .slice none 0 0, .int .u64 0, .int .u64 0, .string ⟨#[]⟩, .string ⟨#[]⟩, .string ⟨#[]⟩]] 8 rfl (World.shaped_of_RefB (by kernel_rfl) (by kernel_rfl)) (by kernel_rfl) (by kernel_rfl) (by kernel_rfl) (door_met os _)) laid_requestValid (by kernel_rfl) (by kernel_rfl) Tryd.underlying4 rfl ?_ ?_
  · intro ds hd
    rw [Tryd.params6] at hd
    match ds, hd with
    | [d0, d1], _ => rfl
  · intro W args ds hL h
    have hWd := words_of_laid hL
    rw [Tryd.params6] at h
    obtain ⟨v0, v1, d0, d1, rfl, h0, h1⟩ := comes2 h
    obtain ⟨a, K, ck, V, cv, T, ct, rfl, hK, hV, hT, hoa, lo_a, hi_a⟩ := came_cmd h0
    obtain ⟨b, K2, ck2, V2, cv2, T2, ct2, rfl, hK2, hV2, hT2, hob, lo_b, hi_b⟩ := came_cmd h1
    exact requestValid_walk _ hWd _ _ _ _ _ _ _ _ _ hK hV hT _ _ _ _ _ _ _ _ _ hK2 hV2 hT2 hoa hob

theorem requestValid_row : Rows.RequestValidSaid :=
  OpenClaim.holds_of_wide 6 Tryd.f6 rfl rfl rfl rfl rfl rfl rfl ⟨rfl, rfl, rfl, rfl, rfl⟩ rfl rfl rfl rfl rfl (by kernel_rfl) Tryd.func6 (by kernel_rfl)
    (of_decide_eq_true (by kernel_rfl)) (by unfold Func.isWrapper; rw [if_neg (by decide +kernel)]; exact ⟨rfl, rfl⟩)
    (fun os started H enc _ => requestValid_lifted os started H enc)

theorem requestValid_holds : Rows.RequestValidCardSaid :=
  Claim7.holds_tied_plain_at .later [] [.data] true (true, "69e58cbe590e0ef324aa19ab7882ad146e66d5c11c916435f0e3080a569bf2dd") false
    requestValid_row (fun _ h => by cases h) (by kernel_rfl) (fun _ h => by cases h) requestValid_row_tie rfl ⟨rfl, rfl⟩ (by kernel_rfl) rfl
    (fun f fn hf hfn => by
      obtain rfl : f = 6 := Option.some.inj ((show Tryd.prog.funcNamed "tagcache/tagcachelaw07.RequestValid" = some 6 by kernel_rfl).symm.trans hf) |>.symm
      obtain rfl : fn = Tryd.f6 := (Option.some.inj (Tryd.func6.symm.trans hfn)).symm
      exact ⟨by kernel_rfl, fun j t ht => by
        rw [Tryd.params6] at ht
        have h3 : t = 36 := by
          rcases j with _ | j
          · simp at ht; subst ht; exact rfl
          rcases j with _ | j
          · simp at ht; subst ht; exact rfl
          simp at ht
        rcases h3 with rfl
        · exact (show Tryd.prog.wantsStandIn 36 = false by kernel_rfl)⟩)
    (by kernel_rfl)

end Go.Proofs.YtohnkjjjejnkpaaDoor
