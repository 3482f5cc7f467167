/-
  The row of RequestLongs and its card: the walk of RequestLongs, led into the given statement. Condition, paid by the tie: the package variable that holds the words reads as listed.
-/
import Derived.Test.YtohnkjjjejnkpaaDoorRows
import Derived.Test.YtohnkjjjejnkpaaDoorCards
import Derived.Test.YtohnkjjjejnkpaaDoorTie
import Derived.Test.YtohnkjjjejnkpaaDoorWordsAt
import Derived.Test.YtohnkjjjejnkpaaDoorKj
import Derived.SevenTiedAt
namespace Go.Proofs.YtohnkjjjejnkpaaDoor
open Go Go.ChangeShapes Go.WideShapes Go.ChangeAt Go.RowKit
set_option linter.unusedVariables false
set_option maxRecDepth 4000
theorem own_requestLongs : ownKnob Tryd.prog.godebug = none := by kernel_rfl
theorem laid_requestLongs : laidOutB Tryd.prog = true := by kernel_rfl


set_option maxRecDepth 100000 in
theorem requestLongs_lifted (os : Os) (started : os.Started) (H : Type) (enc : TypeId × Value → H) :
    ReturnsInHanded {} Tryd.checked os 7 .any (fun w args => (Rows.requestLongsSpec.pre enc Tryd.prog Tryd.f7 [] false w args ∧ laidMetH Tryd.prog laidW w) ∧ sizedMet enc Tryd.prog Tryd.f7 (OpenSpec.ofChange Rows.requestLongsSpec) false w args)
      (Rows.requestLongsSpec.post enc Tryd.prog Tryd.f7 false true false false) := by
  refine law_lifted_laid (laid := laidW) (s := Rows.requestLongsSpec) (C := Tryd.checked) own_requestLongs started (by kernel_rfl) Tryd.func7
    (ChangeSpec.witness_shaped (enc := enc) (C := Tryd.checked) (os := os) (X := fun w _ => laidMetH Tryd.prog laidW w) false (World.doorLaid Tryd.prog 4000 os) #[.int .i64 0, .int .i64 0] 8 rfl (World.shaped_of_RefB (by kernel_rfl) (by kernel_rfl)) (by kernel_rfl) (by kernel_rfl) (by kernel_rfl) (door_met os _)) laid_requestLongs (by kernel_rfl) (by kernel_rfl) Tryd.underlying4 rfl ?_ ?_
  · intro ds hd
    rw [Tryd.params7] at hd
    match ds, hd with
    | [d0, d1], _ => rfl
  · intro W args ds hL h
    have hWd := words_of_laid hL
    rw [Tryd.params7] at h
    obtain ⟨v0, v1, d0, d1, rfl, h0, h1⟩ := comes2 h
    obtain ⟨m, rfl, m_lo, m_hi⟩ := came_i64 Tryd.underlying3 h0
    obtain ⟨n, rfl, n_lo, n_hi⟩ := came_i64 Tryd.underlying3 h1
    exact requestLongs_walk _ hWd _ _

theorem requestLongs_row : Rows.RequestLongsSaid :=
  OpenClaim.holds_of_wide 7 Tryd.f7 rfl rfl rfl rfl rfl rfl rfl ⟨rfl, rfl, rfl, rfl, rfl⟩ rfl rfl rfl rfl rfl (by kernel_rfl) Tryd.func7 (by kernel_rfl)
    (of_decide_eq_true (by kernel_rfl)) (by unfold Func.isWrapper; rw [if_neg (by decide +kernel)]; exact ⟨rfl, rfl⟩)
    (fun os started H enc _ => requestLongs_lifted os started H enc)

theorem requestLongs_holds : Rows.RequestLongsCardSaid :=
  Claim7.holds_tied_plain_at .later [] [.data] true (true, "69e58cbe590e0ef324aa19ab7882ad146e66d5c11c916435f0e3080a569bf2dd") false
    requestLongs_row (fun _ h => by cases h) (by kernel_rfl) (fun _ h => by cases h) requestLongs_row_tie rfl ⟨rfl, rfl⟩ (by kernel_rfl) rfl
    (fun f fn hf hfn => by
      obtain rfl : f = 7 := Option.some.inj ((show Tryd.prog.funcNamed "tagcache/tagcachelaw07.RequestLongs" = some 7 by kernel_rfl).symm.trans hf) |>.symm
      obtain rfl : fn = Tryd.f7 := (Option.some.inj (Tryd.func7.symm.trans hfn)).symm
      exact ⟨by kernel_rfl, fun j t ht => by
        rw [Tryd.params7] at ht
        have h3 : t = 3 := by
          rcases j with _ | j
          · simp at ht; subst ht; exact rfl
          rcases j with _ | j
          · simp at ht; subst ht; exact rfl
          simp at ht
        rcases h3 with rfl
        · exact (show Tryd.prog.wantsStandIn 3 = false by kernel_rfl)⟩)
    (by kernel_rfl)

end Go.Proofs.YtohnkjjjejnkpaaDoor
