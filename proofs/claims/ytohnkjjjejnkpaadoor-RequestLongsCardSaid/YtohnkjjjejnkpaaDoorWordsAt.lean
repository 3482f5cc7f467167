/-
  The laid variable, opened: the words of commands lie where the walks read them; the door's own heap meets the condition. Condition: that the variable reads as listed.
-/
import Derived.Test.YtohnkjjjejnkpaaDoorRows
import Derived.Test.YtohnkjjjejnkpaaDoorLawL
import Derived.Test.YtohnkjjjejnkpaaDoorQw
namespace Go.Proofs.YtohnkjjjejnkpaaDoor
open Go.ChangeShapes Go.WideShapes Go.ChangeAt Go.RowKit
set_option maxRecDepth 100000

theorem gWords : Tryd.prog.globalNamed "tagcache/request.words" = some 0 := by kernel_rfl
theorem tWords : (Tryd.prog.globals[0]?).map (·.type) = some 58 := by kernel_rfl
theorem cellsStr : Tryd.prog.cellsOf 9 = 1 := by kernel_rfl
abbrev laidW : List (String × DataW Unit) := [("tagcache/request.words", Rows.laid_tagcache_request_words)]
/-- The door's own heap meets the condition. -/
theorem door_met (os : Os) (args : Array Value) : laidMetH Tryd.prog laidW ((World.doorLaid Tryd.prog 4000 os).forCall (fun _ _ => 0) ⟨#[], args, []⟩).memory :=
  laidMetH_of_parts3 (fuel := 8) (laidMet_of_run' 8 (by kernel_rfl) (by kernel_rfl)) (by kernel_rfl) (by kernel_rfl)
theorem words_of_laid {W : World} (h : laidMetH Tryd.prog laidW W) : WordsAt W := by
  rw [MakeChecks.laidMetH_plain _ _ _ (by kernel_rfl)] at h
  obtain ⟨ps, ⟨g0, t0, cs0, f0, p0, q0, hg0, ht0, hv0, hd0, _, _⟩, _, _⟩ := h
  obtain rfl := Option.some.inj (gWords.symm.trans hg0)
  obtain rfl := Option.some.inj (tWords.symm.trans ht0)
  obtain ⟨xs, m, _, hx1, hlen, hn, hel⟩ := DataW.trod_array Tryd.underlying58 hd0
  rw [cellsStr] at hel
  intro k s hk
  have hk16 : k < 16 := (List.getElem?_eq_some_iff.1 hk).1
  have h1 := hel k hk16
  have hkx : k < xs.length := by rw [hn]; exact hk16
  rw [List.getElem?_eq_getElem hkx] at h1
  obtain ⟨b, e1, e2, _⟩ := DataW.trod_string Tryd.underlying9 h1
  have hc : cs0[k]? = some (.string b) := by
    rw [Nat.mul_one] at e1
    have := congrArg (fun l => l[0]?) e1
    simpa using this
  have hd : (xs.map (·.1))[k]? = some (.lit (.string b.data.toList)) := by rw [List.getElem?_map, List.getElem?_eq_getElem hkx, e2]; rfl
  have hL : DataW.agg (xs.map (·.1)) = (Rows.laid_tagcache_request_words : DataW Unit) := (congrArg Prod.fst hx1).symm
  have hL2 : (Rows.laid_tagcache_request_words : DataW Unit) = .agg (wordsL.map fun s => .lit (.string s)) := by rfl
  rw [hL2] at hL
  have hL3 : xs.map (·.1) = wordsL.map fun s => DataW.lit (.string s) := by injection hL
  rw [hL3, List.getElem?_map, hk] at hd
  have hb : s = b.data.toList := by
    simp only [Option.map_some, Option.some.injEq] at hd
    injection hd with hd
    injection hd
  subst hb
  rw [World.var?_cell hg0 hv0 k, hc]

end Go.Proofs.YtohnkjjjejnkpaaDoor
