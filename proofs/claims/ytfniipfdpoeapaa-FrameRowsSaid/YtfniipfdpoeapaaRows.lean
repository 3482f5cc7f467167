/-
  No cell of these rows narrows 'for every input' (looked for: loops, veiled, ifaces, maps, wideKeys, modest, calm, conditions, laid).
  DERIVED. THE GIVEN ROWS OF THIS SEAT. 11 by the template 'for every input the law returns true; each argument reads behind the call as it read before'; 0 by the template 'total and deterministic' (their statements: YtfniipfdpoeapaaTotals.lean).
  GIVEN WITH THE SEED: the statements are not yours to turn. If you find one false, say at which input.
  Laid BY PROGRAM, IN A SANDBOX (cutbox-rows.mjs): the forced cells as the released guide's own fill.sh prints them over the translation f3f449b78b8c7cc8… (all of the seat's roots in one cut). By AI agents, Wed Nov 11 2026. No macro, syntax, notation, axiom, sorry.
-/
import Derived.Test.YtfniipfdpoeapaaChecked
import GoSem.Claim
import GoSem.ClaimJoined
import GoSem.ClaimMapViews
import Derived.JoinedTies
import Derived.KernelRfl
namespace Go.Proofs.Ytfniipfdpoeapaa
/- THE CELL 'sum', in the pinned program and in every row, IS THE sha256 OF THE DUMP (.gsa) THAT YtfniipfdpoeapaaProg.lean LOADS. Nothing in Lean hashes anything: it is a label: what it is worth is what the hold of that sum in a sandbox is worth. -/
noncomputable def Try.pinned : Pinned := { name := "ytfniipfdpoeapaa", sum := "f3f449b78b8c7cc85e4d7e08a6ae4dd5bbb642d6c50de3e9abdec700d83f3d64", checked := Try.checked }
namespace Rows
def none {H : Type} : Left H := { results := [], args := [] }

/-- 'tagcachelaw05.FrameReads': WHATEVER THE INPUT: true; the input reads as it did. -/
def frameReadsSpec : ChangeSpec := { name := "frameReads", fn := fun _ => fun
  | [d1, d2] => { results := [.lit (.bool true)], args := [d1, d2] }
  | _ => none }
def frameReadsRow : OpenClaim := { program := "ytfniipfdpoeapaa", sum := "f3f449b78b8c7cc85e4d7e08a6ae4dd5bbb642d6c50de3e9abdec700d83f3d64", func := "tagcache/tagcachelaw05.FrameReads", spec := "frameReads", apart := false }
def FrameReadsSaid : Prop := frameReadsRow.holds Try.pinned (OpenSpec.ofChange frameReadsSpec)

/-- ITS FALSE NEIGHBOUR: 'it returns false'. Refute it at one input. -/
def frameReadsWrong : ChangeSpec := { name := "frameReads", fn := fun _ => fun
  | [d1, d2] => { results := [.lit (.bool false)], args := [d1, d2] }
  | _ => none }
def FrameReadsWrongFalsely : Prop := frameReadsRow.holds Try.pinned (OpenSpec.ofChange frameReadsWrong)

/-- 'tagcachelaw05.FrameLongs': WHATEVER THE INPUT: true; the input reads as it did. -/
def frameLongsSpec : ChangeSpec := { name := "frameLongs", fn := fun _ => fun
  | [d1, d2] => { results := [.lit (.bool true)], args := [d1, d2] }
  | _ => none }
def frameLongsRow : OpenClaim := { program := "ytfniipfdpoeapaa", sum := "f3f449b78b8c7cc85e4d7e08a6ae4dd5bbb642d6c50de3e9abdec700d83f3d64", func := "tagcache/tagcachelaw05.FrameLongs", spec := "frameLongs", apart := false }
def FrameLongsSaid : Prop := frameLongsRow.holds Try.pinned (OpenSpec.ofChange frameLongsSpec)

/-- ITS FALSE NEIGHBOUR: 'it returns false'. Refute it at one input. -/
def frameLongsWrong : ChangeSpec := { name := "frameLongs", fn := fun _ => fun
  | [d1, d2] => { results := [.lit (.bool false)], args := [d1, d2] }
  | _ => none }
def FrameLongsWrongFalsely : Prop := frameLongsRow.holds Try.pinned (OpenSpec.ofChange frameLongsWrong)

/-- 'tagcachelaw05.FrameRows': WHATEVER THE INPUT: true; the input reads as it did. -/
def frameRowsSpec : ChangeSpec := { name := "frameRows", fn := fun _ => fun
  | [d1, d2] => { results := [.lit (.bool true)], args := [d1, d2] }
  | _ => none }
def frameRowsRow : OpenClaim := { program := "ytfniipfdpoeapaa", sum := "f3f449b78b8c7cc85e4d7e08a6ae4dd5bbb642d6c50de3e9abdec700d83f3d64", func := "tagcache/tagcachelaw05.FrameRows", spec := "frameRows", apart := false }
def FrameRowsSaid : Prop := frameRowsRow.holds Try.pinned (OpenSpec.ofChange frameRowsSpec)

/-- ITS FALSE NEIGHBOUR: 'it returns false'. Refute it at one input. -/
def frameRowsWrong : ChangeSpec := { name := "frameRows", fn := fun _ => fun
  | [d1, d2] => { results := [.lit (.bool false)], args := [d1, d2] }
  | _ => none }
def FrameRowsWrongFalsely : Prop := frameRowsRow.holds Try.pinned (OpenSpec.ofChange frameRowsWrong)

/-- 'tagcachelaw05.FrameHolds': WHATEVER THE INPUT: true; the input reads as it did. -/
def frameHoldsSpec : ChangeSpec := { name := "frameHolds", fn := fun _ => fun
  | [d1, d2] => { results := [.lit (.bool true)], args := [d1, d2] }
  | _ => none }
def frameHoldsRow : OpenClaim := { program := "ytfniipfdpoeapaa", sum := "f3f449b78b8c7cc85e4d7e08a6ae4dd5bbb642d6c50de3e9abdec700d83f3d64", func := "tagcache/tagcachelaw05.FrameHolds", spec := "frameHolds", apart := false }
def FrameHoldsSaid : Prop := frameHoldsRow.holds Try.pinned (OpenSpec.ofChange frameHoldsSpec)

/-- ITS FALSE NEIGHBOUR: 'it returns false'. Refute it at one input. -/
def frameHoldsWrong : ChangeSpec := { name := "frameHolds", fn := fun _ => fun
  | [d1, d2] => { results := [.lit (.bool false)], args := [d1, d2] }
  | _ => none }
def FrameHoldsWrongFalsely : Prop := frameHoldsRow.holds Try.pinned (OpenSpec.ofChange frameHoldsWrong)

/-- 'tagcachelaw05.FrameWrites': WHATEVER THE INPUT: true; the input reads as it did. -/
def frameWritesSpec : ChangeSpec := { name := "frameWrites", fn := fun _ => fun
  | [d1, d2] => { results := [.lit (.bool true)], args := [d1, d2] }
  | _ => none }
def frameWritesRow : OpenClaim := { program := "ytfniipfdpoeapaa", sum := "f3f449b78b8c7cc85e4d7e08a6ae4dd5bbb642d6c50de3e9abdec700d83f3d64", func := "tagcache/tagcachelaw05.FrameWrites", spec := "frameWrites", recurses := true, apart := false }
def FrameWritesSaid : Prop := frameWritesRow.holds Try.pinned (OpenSpec.ofChange frameWritesSpec)

/-- ITS FALSE NEIGHBOUR: 'it returns false'. Refute it at one input. -/
def frameWritesWrong : ChangeSpec := { name := "frameWrites", fn := fun _ => fun
  | [d1, d2] => { results := [.lit (.bool false)], args := [d1, d2] }
  | _ => none }
def FrameWritesWrongFalsely : Prop := frameWritesRow.holds Try.pinned (OpenSpec.ofChange frameWritesWrong)

/-- 'tagcachelaw04.VarintPuts': WHATEVER THE INPUT: true; the input reads as it did. -/
def varintPutsSpec : ChangeSpec := { name := "varintPuts", fn := fun _ => fun
  | [d1, d2, d3] => { results := [.lit (.bool true)], args := [d1, d2, d3] }
  | _ => none }
def varintPutsRow : OpenClaim := { program := "ytfniipfdpoeapaa", sum := "f3f449b78b8c7cc85e4d7e08a6ae4dd5bbb642d6c50de3e9abdec700d83f3d64", func := "tagcache/tagcachelaw04.VarintPuts", spec := "varintPuts", unfollowed := true, recurses := true, apart := false }
def VarintPutsSaid : Prop := varintPutsRow.holds Try.pinned (OpenSpec.ofChange varintPutsSpec)

/-- ITS FALSE NEIGHBOUR: 'it returns false'. Refute it at one input. -/
def varintPutsWrong : ChangeSpec := { name := "varintPuts", fn := fun _ => fun
  | [d1, d2, d3] => { results := [.lit (.bool false)], args := [d1, d2, d3] }
  | _ => none }
def VarintPutsWrongFalsely : Prop := varintPutsRow.holds Try.pinned (OpenSpec.ofChange varintPutsWrong)

/-- 'tagcachelaw04.VarintGets': WHATEVER THE INPUT: true; the input reads as it did. -/
def varintGetsSpec : ChangeSpec := { name := "varintGets", fn := fun _ => fun
  | [d] => { results := [.lit (.bool true)], args := [d] }
  | _ => none }
def varintGetsRow : OpenClaim := { program := "ytfniipfdpoeapaa", sum := "f3f449b78b8c7cc85e4d7e08a6ae4dd5bbb642d6c50de3e9abdec700d83f3d64", func := "tagcache/tagcachelaw04.VarintGets", spec := "varintGets", unfollowed := true, recurses := true, apart := false }
def VarintGetsSaid : Prop := varintGetsRow.holds Try.pinned (OpenSpec.ofChange varintGetsSpec)

/-- ITS FALSE NEIGHBOUR: 'it returns false'. Refute it at one input. -/
def varintGetsWrong : ChangeSpec := { name := "varintGets", fn := fun _ => fun
  | [d] => { results := [.lit (.bool false)], args := [d] }
  | _ => none }
def VarintGetsWrongFalsely : Prop := varintGetsRow.holds Try.pinned (OpenSpec.ofChange varintGetsWrong)

/-- 'tagcachelaw04.VarintParts': WHATEVER THE INPUT: true; the input reads as it did. -/
def varintPartsSpec : ChangeSpec := { name := "varintParts", fn := fun _ => fun
  | [d1, d2] => { results := [.lit (.bool true)], args := [d1, d2] }
  | _ => none }
def varintPartsRow : OpenClaim := { program := "ytfniipfdpoeapaa", sum := "f3f449b78b8c7cc85e4d7e08a6ae4dd5bbb642d6c50de3e9abdec700d83f3d64", func := "tagcache/tagcachelaw04.VarintParts", spec := "varintParts", unfollowed := true, recurses := true, apart := false }
def VarintPartsSaid : Prop := varintPartsRow.holds Try.pinned (OpenSpec.ofChange varintPartsSpec)

/-- ITS FALSE NEIGHBOUR: 'it returns false'. Refute it at one input. -/
def varintPartsWrong : ChangeSpec := { name := "varintParts", fn := fun _ => fun
  | [d1, d2] => { results := [.lit (.bool false)], args := [d1, d2] }
  | _ => none }
def VarintPartsWrongFalsely : Prop := varintPartsRow.holds Try.pinned (OpenSpec.ofChange varintPartsWrong)

/-- 'tagcachelaw04.VarintReads': WHATEVER THE INPUT: true; the input reads as it did. -/
def varintReadsSpec : ChangeSpec := { name := "varintReads", fn := fun _ => fun
  | [d1, d2] => { results := [.lit (.bool true)], args := [d1, d2] }
  | _ => none }
def varintReadsRow : OpenClaim := { program := "ytfniipfdpoeapaa", sum := "f3f449b78b8c7cc85e4d7e08a6ae4dd5bbb642d6c50de3e9abdec700d83f3d64", func := "tagcache/tagcachelaw04.VarintReads", spec := "varintReads", unfollowed := true, recurses := true, apart := false }
def VarintReadsSaid : Prop := varintReadsRow.holds Try.pinned (OpenSpec.ofChange varintReadsSpec)

/-- ITS FALSE NEIGHBOUR: 'it returns false'. Refute it at one input. -/
def varintReadsWrong : ChangeSpec := { name := "varintReads", fn := fun _ => fun
  | [d1, d2] => { results := [.lit (.bool false)], args := [d1, d2] }
  | _ => none }
def VarintReadsWrongFalsely : Prop := varintReadsRow.holds Try.pinned (OpenSpec.ofChange varintReadsWrong)

/-- 'tagcachelaw04.VarintNil': WHATEVER THE INPUT: true; the input reads as it did. -/
def varintNilSpec : ChangeSpec := { name := "varintNil", fn := fun _ => fun
  | [d] => { results := [.lit (.bool true)], args := [d] }
  | _ => none }
def varintNilRow : OpenClaim := { program := "ytfniipfdpoeapaa", sum := "f3f449b78b8c7cc85e4d7e08a6ae4dd5bbb642d6c50de3e9abdec700d83f3d64", func := "tagcache/tagcachelaw04.VarintNil", spec := "varintNil", unfollowed := true, recurses := true, apart := false }
def VarintNilSaid : Prop := varintNilRow.holds Try.pinned (OpenSpec.ofChange varintNilSpec)

/-- ITS FALSE NEIGHBOUR: 'it returns false'. Refute it at one input. -/
def varintNilWrong : ChangeSpec := { name := "varintNil", fn := fun _ => fun
  | [d] => { results := [.lit (.bool false)], args := [d] }
  | _ => none }
def VarintNilWrongFalsely : Prop := varintNilRow.holds Try.pinned (OpenSpec.ofChange varintNilWrong)

/-- 'tagcachelaw04.VarintHolds': WHATEVER THE INPUT: true; the input reads as it did. -/
def varintHoldsSpec : ChangeSpec := { name := "varintHolds", fn := fun _ => fun
  | [d1, d2] => { results := [.lit (.bool true)], args := [d1, d2] }
  | _ => none }
def varintHoldsRow : OpenClaim := { program := "ytfniipfdpoeapaa", sum := "f3f449b78b8c7cc85e4d7e08a6ae4dd5bbb642d6c50de3e9abdec700d83f3d64", func := "tagcache/tagcachelaw04.VarintHolds", spec := "varintHolds", unfollowed := true, recurses := true, apart := false }
def VarintHoldsSaid : Prop := varintHoldsRow.holds Try.pinned (OpenSpec.ofChange varintHoldsSpec)

/-- ITS FALSE NEIGHBOUR: 'it returns false'. Refute it at one input. -/
def varintHoldsWrong : ChangeSpec := { name := "varintHolds", fn := fun _ => fun
  | [d1, d2] => { results := [.lit (.bool false)], args := [d1, d2] }
  | _ => none }
def VarintHoldsWrongFalsely : Prop := varintHoldsRow.holds Try.pinned (OpenSpec.ofChange varintHoldsWrong)

/- THE SECOND FORM. 'bulk': how many values and letters a reading holds, each counted each time it is reached (what is shared counts as often as it is met; a slice's spare places count too). A statement '..UptoSaid' is the law's where the arguments, and the package variables that the reading takes, are together of bulk at most 1048576: NARROWER than '..Said'. Prove '..Said' where nothing that the law and all that it calls make is longer than what came in: it says more and counts as full. Else prove '..UptoSaid'. A law counts once. -/
mutual
def uptoBulk {H : Type} : DataW H → Nat
  | .lit (.string bytes) => bytes.length + 1
  | .lit _ => 1
  | .nil => 1
  | .ptr d => uptoBulk d + 1
  | .slice elems spare => uptoBulkAll elems + uptoBulkAll spare + 1
  | .agg parts => uptoBulkAll parts + 1
  | .iface _ d => uptoBulk d + 1
  | .map entries => uptoBulkEntries entries + 1
  | .held _ => 1
def uptoBulkAll {H : Type} : List (DataW H) → Nat
  | [] => 0
  | d :: r => uptoBulk d + uptoBulkAll r
def uptoBulkEntries {H : Type} : List (Lit × DataW H) → Nat
  | [] => 0
  | x :: r => uptoBulkEntry x + uptoBulkEntries r
def uptoBulkEntry {H : Type} : Lit × DataW H → Nat
  | (.string bytes, d) => bytes.length + uptoBulk d + 1
  | (_, d) => uptoBulk d + 1
 end
def uptoSmall : (H : Type) → List (DataW H) → Bool := fun _ ds => decide (uptoBulkAll ds ≤ 1048576)
def OpenSpec.upto (s : _root_.Go.ChangeSpec) : _root_.Go.OpenSpec := { _root_.Go.OpenSpec.ofChange s with cond := some uptoSmall }

/-- 'tagcachelaw05.FrameReads', WHERE WHAT IT READS IS OF BULK AT MOST 1048576: true; the input reads as it did. -/
def frameReadsUptoRow : OpenClaim := { program := "ytfniipfdpoeapaa", sum := "f3f449b78b8c7cc85e4d7e08a6ae4dd5bbb642d6c50de3e9abdec700d83f3d64", func := "tagcache/tagcachelaw05.FrameReads", spec := "frameReads", apart := false, narrowed := true }
def FrameReadsUptoSaid : Prop := frameReadsUptoRow.holds Try.pinned (OpenSpec.upto frameReadsSpec)

/-- 'tagcachelaw05.FrameLongs', WHERE WHAT IT READS IS OF BULK AT MOST 1048576: true; the input reads as it did. -/
def frameLongsUptoRow : OpenClaim := { program := "ytfniipfdpoeapaa", sum := "f3f449b78b8c7cc85e4d7e08a6ae4dd5bbb642d6c50de3e9abdec700d83f3d64", func := "tagcache/tagcachelaw05.FrameLongs", spec := "frameLongs", apart := false, narrowed := true }
def FrameLongsUptoSaid : Prop := frameLongsUptoRow.holds Try.pinned (OpenSpec.upto frameLongsSpec)

/-- 'tagcachelaw05.FrameRows', WHERE WHAT IT READS IS OF BULK AT MOST 1048576: true; the input reads as it did. -/
def frameRowsUptoRow : OpenClaim := { program := "ytfniipfdpoeapaa", sum := "f3f449b78b8c7cc85e4d7e08a6ae4dd5bbb642d6c50de3e9abdec700d83f3d64", func := "tagcache/tagcachelaw05.FrameRows", spec := "frameRows", apart := false, narrowed := true }
def FrameRowsUptoSaid : Prop := frameRowsUptoRow.holds Try.pinned (OpenSpec.upto frameRowsSpec)

/-- 'tagcachelaw05.FrameHolds', WHERE WHAT IT READS IS OF BULK AT MOST 1048576: true; the input reads as it did. -/
def frameHoldsUptoRow : OpenClaim := { program := "ytfniipfdpoeapaa", sum := "f3f449b78b8c7cc85e4d7e08a6ae4dd5bbb642d6c50de3e9abdec700d83f3d64", func := "tagcache/tagcachelaw05.FrameHolds", spec := "frameHolds", apart := false, narrowed := true }
def FrameHoldsUptoSaid : Prop := frameHoldsUptoRow.holds Try.pinned (OpenSpec.upto frameHoldsSpec)

/-- 'tagcachelaw05.FrameWrites', WHERE WHAT IT READS IS OF BULK AT MOST 1048576: true; the input reads as it did. -/
def frameWritesUptoRow : OpenClaim := { program := "ytfniipfdpoeapaa", sum := "f3f449b78b8c7cc85e4d7e08a6ae4dd5bbb642d6c50de3e9abdec700d83f3d64", func := "tagcache/tagcachelaw05.FrameWrites", spec := "frameWrites", recurses := true, apart := false, narrowed := true }
def FrameWritesUptoSaid : Prop := frameWritesUptoRow.holds Try.pinned (OpenSpec.upto frameWritesSpec)

/-- 'tagcachelaw04.VarintPuts', WHERE WHAT IT READS IS OF BULK AT MOST 1048576: true; the input reads as it did. -/
def varintPutsUptoRow : OpenClaim := { program := "ytfniipfdpoeapaa", sum := "f3f449b78b8c7cc85e4d7e08a6ae4dd5bbb642d6c50de3e9abdec700d83f3d64", func := "tagcache/tagcachelaw04.VarintPuts", spec := "varintPuts", unfollowed := true, recurses := true, apart := false, narrowed := true }
def VarintPutsUptoSaid : Prop := varintPutsUptoRow.holds Try.pinned (OpenSpec.upto varintPutsSpec)

/-- 'tagcachelaw04.VarintGets', WHERE WHAT IT READS IS OF BULK AT MOST 1048576: true; the input reads as it did. -/
def varintGetsUptoRow : OpenClaim := { program := "ytfniipfdpoeapaa", sum := "f3f449b78b8c7cc85e4d7e08a6ae4dd5bbb642d6c50de3e9abdec700d83f3d64", func := "tagcache/tagcachelaw04.VarintGets", spec := "varintGets", unfollowed := true, recurses := true, apart := false, narrowed := true }
def VarintGetsUptoSaid : Prop := varintGetsUptoRow.holds Try.pinned (OpenSpec.upto varintGetsSpec)

/-- 'tagcachelaw04.VarintParts', WHERE WHAT IT READS IS OF BULK AT MOST 1048576: true; the input reads as it did. -/
def varintPartsUptoRow : OpenClaim := { program := "ytfniipfdpoeapaa", sum := "f3f449b78b8c7cc85e4d7e08a6ae4dd5bbb642d6c50de3e9abdec700d83f3d64", func := "tagcache/tagcachelaw04.VarintParts", spec := "varintParts", unfollowed := true, recurses := true, apart := false, narrowed := true }
def VarintPartsUptoSaid : Prop := varintPartsUptoRow.holds Try.pinned (OpenSpec.upto varintPartsSpec)

/-- 'tagcachelaw04.VarintReads', WHERE WHAT IT READS IS OF BULK AT MOST 1048576: true; the input reads as it did. -/
def varintReadsUptoRow : OpenClaim := { program := "ytfniipfdpoeapaa", sum := "f3f449b78b8c7cc85e4d7e08a6ae4dd5bbb642d6c50de3e9abdec700d83f3d64", func := "tagcache/tagcachelaw04.VarintReads", spec := "varintReads", unfollowed := true, recurses := true, apart := false, narrowed := true }
def VarintReadsUptoSaid : Prop := varintReadsUptoRow.holds Try.pinned (OpenSpec.upto varintReadsSpec)

/-- 'tagcachelaw04.VarintNil', WHERE WHAT IT READS IS OF BULK AT MOST 1048576: true; the input reads as it did. -/
def varintNilUptoRow : OpenClaim := { program := "ytfniipfdpoeapaa", sum := "f3f449b78b8c7cc85e4d7e08a6ae4dd5bbb642d6c50de3e9abdec700d83f3d64", func := "tagcache/tagcachelaw04.VarintNil", spec := "varintNil", unfollowed := true, recurses := true, apart := false, narrowed := true }
def VarintNilUptoSaid : Prop := varintNilUptoRow.holds Try.pinned (OpenSpec.upto varintNilSpec)

/-- 'tagcachelaw04.VarintHolds', WHERE WHAT IT READS IS OF BULK AT MOST 1048576: true; the input reads as it did. -/
def varintHoldsUptoRow : OpenClaim := { program := "ytfniipfdpoeapaa", sum := "f3f449b78b8c7cc85e4d7e08a6ae4dd5bbb642d6c50de3e9abdec700d83f3d64", func := "tagcache/tagcachelaw04.VarintHolds", spec := "varintHolds", unfollowed := true, recurses := true, apart := false, narrowed := true }
def VarintHoldsUptoSaid : Prop := varintHoldsUptoRow.holds Try.pinned (OpenSpec.upto varintHoldsSpec)

end Rows
end Go.Proofs.Ytfniipfdpoeapaa
