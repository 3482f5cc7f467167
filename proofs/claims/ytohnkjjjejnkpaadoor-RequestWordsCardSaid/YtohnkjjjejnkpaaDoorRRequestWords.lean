/-
  The row of RequestWords and its card: the walk of RequestWords, led into the given statement. Condition, paid by the tie: the package variable that holds the words reads as listed.
-/
import Derived.Test.YtohnkjjjejnkpaaDoorRows
import Derived.Test.YtohnkjjjejnkpaaDoorCards
import Derived.Test.YtohnkjjjejnkpaaDoorTie
import Derived.Test.YtohnkjjjejnkpaaDoorWordsAt
import Derived.Test.YtohnkjjjejnkpaaDoorKb
import Derived.SevenTiedAt
namespace Go.Proofs.YtohnkjjjejnkpaaDoor
open Go Go.ChangeShapes Go.WideShapes Go.ChangeAt Go.RowKit
set_option linter.unusedVariables false
set_option maxRecDepth 4000
theorem own_requestWords : ownKnob Tryd.prog.godebug = none := by kernel_rfl
theorem laid_requestWords : laidOutB Tryd.prog = true := by kernel_rfl


set_option maxRecDepth 100000 in
theorem requestWords_lifted (os : Os) (started : os.Started) (H : Type) (enc : TypeId × Value → H) :
    ReturnsInHanded {} Tryd.checked os 3 .any (fun w args => (Rows.requestWordsSpec.pre enc Tryd.prog Tryd.f3 [] false w args ∧ laidMetH Tryd.prog laidW w) ∧ sizedMet enc Tryd.prog Tryd.f3 (OpenSpec.ofChange Rows.requestWordsSpec) false w args)
      (Rows.requestWordsSpec.post enc Tryd.prog Tryd.f3 false true false false) := by
  refine law_lifted_laid (laid := laidW) (s := Rows.requestWordsSpec) (C := Tryd.checked) own_requestWords started (by kernel_rfl) Tryd.func3
    (ChangeSpec.witness_shaped (enc := enc) (C := Tryd.checked) (os := os) (X := fun w _ => laidMetH Tryd.prog laidW w) false (World.doorLaid Tryd.prog 4000 os) #[.int .i64 0, .string ⟨#[]⟩] 8 rfl (World.shaped_of_RefB (by kernel_rfl) (by kernel_rfl)) (by kernel_rfl) (by kernel_rfl) (by kernel_rfl) (door_met os _)) laid_requestWords (by kernel_rfl) (by kernel_rfl) Tryd.underlying4 rfl ?_ ?_
  · intro ds hd
    rw [Tryd.params3] at hd
    match ds, hd with
    | [d0, d1], _ => rfl
  · intro W args ds hL h
    have hWd := words_of_laid hL
    rw [Tryd.params3] at h
    obtain ⟨v0, v1, d0, d1, rfl, h0, h1⟩ := comes2 h
    obtain ⟨op, rfl, op_lo, op_hi⟩ := came_i64 Tryd.underlying22 h0
    obtain ⟨word, rfl, word_hi⟩ := came_str Tryd.underlying9 h1
    exact requestWords_walk _ _ op_lo op_hi _ hWd

theorem requestWords_row : Rows.RequestWordsSaid :=
  OpenClaim.holds_of_wide 3 Tryd.f3 rfl rfl rfl rfl rfl rfl rfl ⟨rfl, rfl, rfl, rfl, rfl⟩ rfl rfl rfl rfl rfl (by kernel_rfl) Tryd.func3 (by kernel_rfl)
    (of_decide_eq_true (by kernel_rfl)) (by unfold Func.isWrapper; rw [if_neg (by decide +kernel)]; exact ⟨rfl, rfl⟩)
    (fun os started H enc _ => requestWords_lifted os started H enc)

theorem requestWords_holds : Rows.RequestWordsCardSaid :=
  Claim7.holds_tied_plain_at .later [] [.data] true (true, "69e58cbe590e0ef324aa19ab7882ad146e66d5c11c916435f0e3080a569bf2dd") false
    requestWords_row (fun _ h => by cases h) (by kernel_rfl) (fun _ h => by cases h) requestWords_row_tie rfl ⟨rfl, rfl⟩ (by kernel_rfl) rfl
    (fun f fn hf hfn => by
      obtain rfl : f = 3 := Option.some.inj ((show Tryd.prog.funcNamed "tagcache/tagcachelaw07.RequestWords" = some 3 by kernel_rfl).symm.trans hf) |>.symm
      obtain rfl : fn = Tryd.f3 := (Option.some.inj (Tryd.func3.symm.trans hfn)).symm
      exact ⟨by kernel_rfl, fun j t ht => by
        rw [Tryd.params3] at ht
        have h3 : t = 9 ∨ t = 22 := by
          rcases j with _ | j
          · simp at ht; subst ht; exact .inr (rfl)
          rcases j with _ | j
          · simp at ht; subst ht; exact .inl rfl
          simp at ht
        rcases h3 with rfl | rfl
        · exact (show Tryd.prog.wantsStandIn 9 = false by kernel_rfl)
        · exact (show Tryd.prog.wantsStandIn 22 = false by kernel_rfl)⟩)
    (by kernel_rfl)

end Go.Proofs.YtohnkjjjejnkpaaDoor
