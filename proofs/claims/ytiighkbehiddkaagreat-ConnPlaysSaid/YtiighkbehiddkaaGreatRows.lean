/-
  No cell of these rows narrows 'for every input' (looked for: loops, veiled, ifaces, maps, wideKeys, modest, calm, conditions, laid).
  DERIVED. THE GIVEN ROWS OF THIS SEAT. 5 by the template 'for every input the law returns true; each argument reads behind the call as it read before'; 0 by the template 'total and deterministic' (their statements: YtiighkbehiddkaaGreatTotals.lean).
  GIVEN WITH THE SEED: the statements are not yours to turn. If you find one false, say at which input.
  Laid BY PROGRAM, IN A SANDBOX (cutbox-rows.mjs): the forced cells as the released guide's own fill.sh prints them over the translation 161e707264766d09… (all of the seat's roots in one cut). By AI agents, Wed Nov 11 2026. No macro, syntax, notation, axiom, sorry.
-/
import Derived.Test.YtiighkbehiddkaaGreatChecked
import GoSem.Claim
import GoSem.ClaimJoined
import GoSem.ClaimMapViews
import Derived.JoinedTies
import Derived.KernelRfl
namespace Go.Proofs.YtiighkbehiddkaaGreat
/- THE CELL 'sum', in the pinned program and in every row, IS THE sha256 OF THE DUMP (.gsa) THAT YtiighkbehiddkaaGreatProg.lean LOADS. Nothing in Lean hashes anything: it is a label: what it is worth is what the hold of that sum in a sandbox is worth. -/
noncomputable def Tryz.pinned : Pinned := { name := "ytiighkbehiddkaagreat", sum := "161e707264766d0921868e0611a47b28e752323392601be77a12733c69b23146", checked := Tryz.checked }
namespace Rows
def none {H : Type} : Left H := { results := [], args := [] }

/-- 'tagcachelaw28.ConnPlays': WHATEVER THE INPUT: true; the input reads as it did. -/
def connPlaysSpec : ChangeSpec := { name := "connPlays", fn := fun _ => fun
  | [d1, d2] => { results := [.lit (.bool true)], args := [d1, d2] }
  | _ => none }
def connPlaysRow : OpenClaim := { program := "ytiighkbehiddkaagreat", sum := "161e707264766d0921868e0611a47b28e752323392601be77a12733c69b23146", func := "tagcache/tagcachelaw28.ConnPlays", spec := "connPlays", unfollowed := true, recurses := true, apart := false }
def ConnPlaysSaid : Prop := connPlaysRow.holds Tryz.pinned (OpenSpec.ofChange connPlaysSpec)

/-- ITS FALSE NEIGHBOUR: 'it returns false'. Refute it at one input. -/
def connPlaysWrong : ChangeSpec := { name := "connPlays", fn := fun _ => fun
  | [d1, d2] => { results := [.lit (.bool false)], args := [d1, d2] }
  | _ => none }
def ConnPlaysWrongFalsely : Prop := connPlaysRow.holds Tryz.pinned (OpenSpec.ofChange connPlaysWrong)

/-- 'tagcachelaw28.ConnNone': WHATEVER THE INPUT: true; the input reads as it did. -/
def connNoneSpec : ChangeSpec := { name := "connNone", fn := fun _ => fun
  | [d1, d2, d3] => { results := [.lit (.bool true)], args := [d1, d2, d3] }
  | _ => none }
def connNoneRow : OpenClaim := { program := "ytiighkbehiddkaagreat", sum := "161e707264766d0921868e0611a47b28e752323392601be77a12733c69b23146", func := "tagcache/tagcachelaw28.ConnNone", spec := "connNone", unfollowed := true, recurses := true, apart := false }
def ConnNoneSaid : Prop := connNoneRow.holds Tryz.pinned (OpenSpec.ofChange connNoneSpec)

/-- ITS FALSE NEIGHBOUR: 'it returns false'. Refute it at one input. -/
def connNoneWrong : ChangeSpec := { name := "connNone", fn := fun _ => fun
  | [d1, d2, d3] => { results := [.lit (.bool false)], args := [d1, d2, d3] }
  | _ => none }
def ConnNoneWrongFalsely : Prop := connNoneRow.holds Tryz.pinned (OpenSpec.ofChange connNoneWrong)

/-- 'tagcachelaw28.ConnValid': WHATEVER THE INPUT: true; the input reads as it did. -/
def connValidSpec : ChangeSpec := { name := "connValid", fn := fun _ => fun
  | [d] => { results := [.lit (.bool true)], args := [d] }
  | _ => none }
def connValidRow : OpenClaim := { program := "ytiighkbehiddkaagreat", sum := "161e707264766d0921868e0611a47b28e752323392601be77a12733c69b23146", func := "tagcache/tagcachelaw28.ConnValid", spec := "connValid", unfollowed := true, recurses := true, apart := false }
def ConnValidSaid : Prop := connValidRow.holds Tryz.pinned (OpenSpec.ofChange connValidSpec)

/-- ITS FALSE NEIGHBOUR: 'it returns false'. Refute it at one input. -/
def connValidWrong : ChangeSpec := { name := "connValid", fn := fun _ => fun
  | [d] => { results := [.lit (.bool false)], args := [d] }
  | _ => none }
def ConnValidWrongFalsely : Prop := connValidRow.holds Tryz.pinned (OpenSpec.ofChange connValidWrong)

/-- 'tagcachelaw28.ConnAnswers': WHATEVER THE INPUT: true; the input reads as it did. -/
def connAnswersSpec : ChangeSpec := { name := "connAnswers", fn := fun _ => fun
  | [d1, d2, d3, d4] => { results := [.lit (.bool true)], args := [d1, d2, d3, d4] }
  | _ => none }
def connAnswersRow : OpenClaim := { program := "ytiighkbehiddkaagreat", sum := "161e707264766d0921868e0611a47b28e752323392601be77a12733c69b23146", func := "tagcache/tagcachelaw28.ConnAnswers", spec := "connAnswers", unfollowed := true, recurses := true, apart := false }
def ConnAnswersSaid : Prop := connAnswersRow.holds Tryz.pinned (OpenSpec.ofChange connAnswersSpec)

/-- ITS FALSE NEIGHBOUR: 'it returns false'. Refute it at one input. -/
def connAnswersWrong : ChangeSpec := { name := "connAnswers", fn := fun _ => fun
  | [d1, d2, d3, d4] => { results := [.lit (.bool false)], args := [d1, d2, d3, d4] }
  | _ => none }
def ConnAnswersWrongFalsely : Prop := connAnswersRow.holds Tryz.pinned (OpenSpec.ofChange connAnswersWrong)

/-- 'tagcachelaw28.ConnHolds': WHATEVER THE INPUT: true; the input reads as it did. -/
def connHoldsSpec : ChangeSpec := { name := "connHolds", fn := fun _ => fun
  | [d1, d2, d3] => { results := [.lit (.bool true)], args := [d1, d2, d3] }
  | _ => none }
def connHoldsRow : OpenClaim := { program := "ytiighkbehiddkaagreat", sum := "161e707264766d0921868e0611a47b28e752323392601be77a12733c69b23146", func := "tagcache/tagcachelaw28.ConnHolds", spec := "connHolds", unfollowed := true, recurses := true, apart := false }
def ConnHoldsSaid : Prop := connHoldsRow.holds Tryz.pinned (OpenSpec.ofChange connHoldsSpec)

/-- ITS FALSE NEIGHBOUR: 'it returns false'. Refute it at one input. -/
def connHoldsWrong : ChangeSpec := { name := "connHolds", fn := fun _ => fun
  | [d1, d2, d3] => { results := [.lit (.bool false)], args := [d1, d2, d3] }
  | _ => none }
def ConnHoldsWrongFalsely : Prop := connHoldsRow.holds Tryz.pinned (OpenSpec.ofChange connHoldsWrong)

/- THE SECOND FORM. 'bulk': how many values and letters a reading holds, each counted each time it is reached (what is shared counts as often as it is met; a slice's spare places count too). A statement '..UptoSaid' is the law's where the arguments, and the package variables that the reading takes, are together of bulk at most 1048576: NARROWER than '..Said'. Prove '..Said' where nothing that the law and all that it calls make is longer than what came in: it says more and counts as full. Else prove '..UptoSaid'. A law counts once. -/
mutual
def uptoBulk {H : Type} : DataW H → Nat
  | .lit (.string bytes) => bytes.length + 1
  | .lit _ => 1
  | .nil => 1
  | .ptr d => uptoBulk d + 1
  | .slice elems spare => uptoBulkAll elems + uptoBulkAll spare + 1
  | .agg parts => uptoBulkAll parts + 1
  | .iface _ d => uptoBulk d + 1
  | .map entries => uptoBulkEntries entries + 1
  | .held _ => 1
def uptoBulkAll {H : Type} : List (DataW H) → Nat
  | [] => 0
  | d :: r => uptoBulk d + uptoBulkAll r
def uptoBulkEntries {H : Type} : List (Lit × DataW H) → Nat
  | [] => 0
  | x :: r => uptoBulkEntry x + uptoBulkEntries r
def uptoBulkEntry {H : Type} : Lit × DataW H → Nat
  | (.string bytes, d) => bytes.length + uptoBulk d + 1
  | (_, d) => uptoBulk d + 1
 end
def uptoSmall : (H : Type) → List (DataW H) → Bool := fun _ ds => decide (uptoBulkAll ds ≤ 1048576)
def OpenSpec.upto (s : _root_.Go.ChangeSpec) : _root_.Go.OpenSpec := { _root_.Go.OpenSpec.ofChange s with cond := some uptoSmall }

/-- 'tagcachelaw28.ConnPlays', WHERE WHAT IT READS IS OF BULK AT MOST 1048576: true; the input reads as it did. -/
def connPlaysUptoRow : OpenClaim := { program := "ytiighkbehiddkaagreat", sum := "161e707264766d0921868e0611a47b28e752323392601be77a12733c69b23146", func := "tagcache/tagcachelaw28.ConnPlays", spec := "connPlays", unfollowed := true, recurses := true, apart := false, narrowed := true }
def ConnPlaysUptoSaid : Prop := connPlaysUptoRow.holds Tryz.pinned (OpenSpec.upto connPlaysSpec)

/-- 'tagcachelaw28.ConnNone', WHERE WHAT IT READS IS OF BULK AT MOST 1048576: true; the input reads as it did. -/
def connNoneUptoRow : OpenClaim := { program := "ytiighkbehiddkaagreat", sum := "161e707264766d0921868e0611a47b28e752323392601be77a12733c69b23146", func := "tagcache/tagcachelaw28.ConnNone", spec := "connNone", unfollowed := true, recurses := true, apart := false, narrowed := true }
def ConnNoneUptoSaid : Prop := connNoneUptoRow.holds Tryz.pinned (OpenSpec.upto connNoneSpec)

/-- 'tagcachelaw28.ConnValid', WHERE WHAT IT READS IS OF BULK AT MOST 1048576: true; the input reads as it did. -/
def connValidUptoRow : OpenClaim := { program := "ytiighkbehiddkaagreat", sum := "161e707264766d0921868e0611a47b28e752323392601be77a12733c69b23146", func := "tagcache/tagcachelaw28.ConnValid", spec := "connValid", unfollowed := true, recurses := true, apart := false, narrowed := true }
def ConnValidUptoSaid : Prop := connValidUptoRow.holds Tryz.pinned (OpenSpec.upto connValidSpec)

/-- 'tagcachelaw28.ConnAnswers', WHERE WHAT IT READS IS OF BULK AT MOST 1048576: true; the input reads as it did. -/
def connAnswersUptoRow : OpenClaim := { program := "ytiighkbehiddkaagreat", sum := "161e707264766d0921868e0611a47b28e752323392601be77a12733c69b23146", func := "tagcache/tagcachelaw28.ConnAnswers", spec := "connAnswers", unfollowed := true, recurses := true, apart := false, narrowed := true }
def ConnAnswersUptoSaid : Prop := connAnswersUptoRow.holds Tryz.pinned (OpenSpec.upto connAnswersSpec)

/-- 'tagcachelaw28.ConnHolds', WHERE WHAT IT READS IS OF BULK AT MOST 1048576: true; the input reads as it did. -/
def connHoldsUptoRow : OpenClaim := { program := "ytiighkbehiddkaagreat", sum := "161e707264766d0921868e0611a47b28e752323392601be77a12733c69b23146", func := "tagcache/tagcachelaw28.ConnHolds", spec := "connHolds", unfollowed := true, recurses := true, apart := false, narrowed := true }
def ConnHoldsUptoSaid : Prop := connHoldsUptoRow.holds Tryz.pinned (OpenSpec.upto connHoldsSpec)

end Rows
end Go.Proofs.YtiighkbehiddkaaGreat
