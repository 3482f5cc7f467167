/-
  No cell of these rows narrows 'for every input' (looked for: loops, veiled, ifaces, maps, wideKeys, modest, calm, conditions, laid).
  DERIVED. THE GIVEN ROWS OF THIS SEAT. 5 by the template 'for every input the law returns true; each argument reads behind the call as it read before'; 0 by the template 'total and deterministic' (their statements: YtohnkjjjejnkpaaTotals.lean).
  GIVEN WITH THE SEED: the statements are not yours to turn. If you find one false, say at which input.
  Laid BY PROGRAM, IN A SANDBOX (cutbox-rows.mjs): the forced cells as the released guide's own fill.sh prints them over the translation 597ec5fdbcda43fe… (all of the seat's roots in one cut). By AI agents, Wed Nov 11 2026. No macro, syntax, notation, axiom, sorry.
-/
import Derived.Test.YtohnkjjjejnkpaaChecked
import GoSem.Claim
import GoSem.ClaimJoined
import GoSem.ClaimMapViews
import Derived.JoinedTies
import Derived.KernelRfl
namespace Go.Proofs.Ytohnkjjjejnkpaa
/- THE CELL 'sum', in the pinned program and in every row, IS THE sha256 OF THE DUMP (.gsa) THAT YtohnkjjjejnkpaaProg.lean LOADS. Nothing in Lean hashes anything: it is a label: what it is worth is what the hold of that sum in a sandbox is worth. -/
noncomputable def Try.pinned : Pinned := { name := "ytohnkjjjejnkpaa", sum := "597ec5fdbcda43fe2742b971fb9ce967e17c0a3cdec6e801ad459b3271d7c8b6", checked := Try.checked }
namespace Rows
def none {H : Type} : Left H := { results := [], args := [] }

/-- 'tagcachelaw08.ResponseWrites': WHATEVER THE INPUT: true; the input reads as it did. -/
def responseWritesSpec : ChangeSpec := { name := "responseWrites", fn := fun _ => fun
  | [d] => { results := [.lit (.bool true)], args := [d] }
  | _ => none }
def responseWritesRow : OpenClaim := { program := "ytohnkjjjejnkpaa", sum := "597ec5fdbcda43fe2742b971fb9ce967e17c0a3cdec6e801ad459b3271d7c8b6", func := "tagcache/tagcachelaw08.ResponseWrites", spec := "responseWrites", unfollowed := true, recurses := true, apart := false }
def ResponseWritesSaid : Prop := responseWritesRow.holds Try.pinned (OpenSpec.ofChange responseWritesSpec)

/-- ITS FALSE NEIGHBOUR: 'it returns false'. Refute it at one input. -/
def responseWritesWrong : ChangeSpec := { name := "responseWrites", fn := fun _ => fun
  | [d] => { results := [.lit (.bool false)], args := [d] }
  | _ => none }
def ResponseWritesWrongFalsely : Prop := responseWritesRow.holds Try.pinned (OpenSpec.ofChange responseWritesWrong)

/-- 'tagcachelaw08.ResponseReads': WHATEVER THE INPUT: true; the input reads as it did. -/
def responseReadsSpec : ChangeSpec := { name := "responseReads", fn := fun _ => fun
  | [d] => { results := [.lit (.bool true)], args := [d] }
  | _ => none }
def responseReadsRow : OpenClaim := { program := "ytohnkjjjejnkpaa", sum := "597ec5fdbcda43fe2742b971fb9ce967e17c0a3cdec6e801ad459b3271d7c8b6", func := "tagcache/tagcachelaw08.ResponseReads", spec := "responseReads", unfollowed := true, recurses := true, apart := false }
def ResponseReadsSaid : Prop := responseReadsRow.holds Try.pinned (OpenSpec.ofChange responseReadsSpec)

/-- ITS FALSE NEIGHBOUR: 'it returns false'. Refute it at one input. -/
def responseReadsWrong : ChangeSpec := { name := "responseReads", fn := fun _ => fun
  | [d] => { results := [.lit (.bool false)], args := [d] }
  | _ => none }
def ResponseReadsWrongFalsely : Prop := responseReadsRow.holds Try.pinned (OpenSpec.ofChange responseReadsWrong)

/-- 'tagcachelaw08.ResponseValid': WHATEVER THE INPUT: true; the input reads as it did. -/
def responseValidSpec : ChangeSpec := { name := "responseValid", fn := fun _ => fun
  | [d1, d2, d3, d4] => { results := [.lit (.bool true)], args := [d1, d2, d3, d4] }
  | _ => none }
def responseValidRow : OpenClaim := { program := "ytohnkjjjejnkpaa", sum := "597ec5fdbcda43fe2742b971fb9ce967e17c0a3cdec6e801ad459b3271d7c8b6", func := "tagcache/tagcachelaw08.ResponseValid", spec := "responseValid", unfollowed := true, recurses := true, apart := false }
def ResponseValidSaid : Prop := responseValidRow.holds Try.pinned (OpenSpec.ofChange responseValidSpec)

/-- ITS FALSE NEIGHBOUR: 'it returns false'. Refute it at one input. -/
def responseValidWrong : ChangeSpec := { name := "responseValid", fn := fun _ => fun
  | [d1, d2, d3, d4] => { results := [.lit (.bool false)], args := [d1, d2, d3, d4] }
  | _ => none }
def ResponseValidWrongFalsely : Prop := responseValidRow.holds Try.pinned (OpenSpec.ofChange responseValidWrong)

/-- 'tagcachelaw08.ResponseLongs': WHATEVER THE INPUT: true; the input reads as it did. -/
def responseLongsSpec : ChangeSpec := { name := "responseLongs", fn := fun _ => fun
  | [d1, d2, d3] => { results := [.lit (.bool true)], args := [d1, d2, d3] }
  | _ => none }
def responseLongsRow : OpenClaim := { program := "ytohnkjjjejnkpaa", sum := "597ec5fdbcda43fe2742b971fb9ce967e17c0a3cdec6e801ad459b3271d7c8b6", func := "tagcache/tagcachelaw08.ResponseLongs", spec := "responseLongs", unfollowed := true, recurses := true, apart := false }
def ResponseLongsSaid : Prop := responseLongsRow.holds Try.pinned (OpenSpec.ofChange responseLongsSpec)

/-- ITS FALSE NEIGHBOUR: 'it returns false'. Refute it at one input. -/
def responseLongsWrong : ChangeSpec := { name := "responseLongs", fn := fun _ => fun
  | [d1, d2, d3] => { results := [.lit (.bool false)], args := [d1, d2, d3] }
  | _ => none }
def ResponseLongsWrongFalsely : Prop := responseLongsRow.holds Try.pinned (OpenSpec.ofChange responseLongsWrong)

/-- 'tagcachelaw08.ResponseHolds': WHATEVER THE INPUT: true; the input reads as it did. -/
def responseHoldsSpec : ChangeSpec := { name := "responseHolds", fn := fun _ => fun
  | [d1, d2] => { results := [.lit (.bool true)], args := [d1, d2] }
  | _ => none }
def responseHoldsRow : OpenClaim := { program := "ytohnkjjjejnkpaa", sum := "597ec5fdbcda43fe2742b971fb9ce967e17c0a3cdec6e801ad459b3271d7c8b6", func := "tagcache/tagcachelaw08.ResponseHolds", spec := "responseHolds", unfollowed := true, recurses := true, apart := false }
def ResponseHoldsSaid : Prop := responseHoldsRow.holds Try.pinned (OpenSpec.ofChange responseHoldsSpec)

/-- ITS FALSE NEIGHBOUR: 'it returns false'. Refute it at one input. -/
def responseHoldsWrong : ChangeSpec := { name := "responseHolds", fn := fun _ => fun
  | [d1, d2] => { results := [.lit (.bool false)], args := [d1, d2] }
  | _ => none }
def ResponseHoldsWrongFalsely : Prop := responseHoldsRow.holds Try.pinned (OpenSpec.ofChange responseHoldsWrong)

/- THE SECOND FORM. 'bulk': how many values and letters a reading holds, each counted each time it is reached (what is shared counts as often as it is met; a slice's spare places count too). A statement '..UptoSaid' is the law's where the arguments, and the package variables that the reading takes, are together of bulk at most 1048576: NARROWER than '..Said'. Prove '..Said' where nothing that the law and all that it calls make is longer than what came in: it says more and counts as full. Else prove '..UptoSaid'. A law counts once. -/
mutual
def uptoBulk {H : Type} : DataW H → Nat
  | .lit (.string bytes) => bytes.length + 1
  | .lit _ => 1
  | .nil => 1
  | .ptr d => uptoBulk d + 1
  | .slice elems spare => uptoBulkAll elems + uptoBulkAll spare + 1
  | .agg parts => uptoBulkAll parts + 1
  | .iface _ d => uptoBulk d + 1
  | .map entries => uptoBulkEntries entries + 1
  | .held _ => 1
def uptoBulkAll {H : Type} : List (DataW H) → Nat
  | [] => 0
  | d :: r => uptoBulk d + uptoBulkAll r
def uptoBulkEntries {H : Type} : List (Lit × DataW H) → Nat
  | [] => 0
  | x :: r => uptoBulkEntry x + uptoBulkEntries r
def uptoBulkEntry {H : Type} : Lit × DataW H → Nat
  | (.string bytes, d) => bytes.length + uptoBulk d + 1
  | (_, d) => uptoBulk d + 1
 end
def uptoSmall : (H : Type) → List (DataW H) → Bool := fun _ ds => decide (uptoBulkAll ds ≤ 1048576)
def OpenSpec.upto (s : _root_.Go.ChangeSpec) : _root_.Go.OpenSpec := { _root_.Go.OpenSpec.ofChange s with cond := some uptoSmall }

/-- 'tagcachelaw08.ResponseWrites', WHERE WHAT IT READS IS OF BULK AT MOST 1048576: true; the input reads as it did. -/
def responseWritesUptoRow : OpenClaim := { program := "ytohnkjjjejnkpaa", sum := "597ec5fdbcda43fe2742b971fb9ce967e17c0a3cdec6e801ad459b3271d7c8b6", func := "tagcache/tagcachelaw08.ResponseWrites", spec := "responseWrites", unfollowed := true, recurses := true, apart := false, narrowed := true }
def ResponseWritesUptoSaid : Prop := responseWritesUptoRow.holds Try.pinned (OpenSpec.upto responseWritesSpec)

/-- 'tagcachelaw08.ResponseReads', WHERE WHAT IT READS IS OF BULK AT MOST 1048576: true; the input reads as it did. -/
def responseReadsUptoRow : OpenClaim := { program := "ytohnkjjjejnkpaa", sum := "597ec5fdbcda43fe2742b971fb9ce967e17c0a3cdec6e801ad459b3271d7c8b6", func := "tagcache/tagcachelaw08.ResponseReads", spec := "responseReads", unfollowed := true, recurses := true, apart := false, narrowed := true }
def ResponseReadsUptoSaid : Prop := responseReadsUptoRow.holds Try.pinned (OpenSpec.upto responseReadsSpec)

/-- 'tagcachelaw08.ResponseValid', WHERE WHAT IT READS IS OF BULK AT MOST 1048576: true; the input reads as it did. -/
def responseValidUptoRow : OpenClaim := { program := "ytohnkjjjejnkpaa", sum := "597ec5fdbcda43fe2742b971fb9ce967e17c0a3cdec6e801ad459b3271d7c8b6", func := "tagcache/tagcachelaw08.ResponseValid", spec := "responseValid", unfollowed := true, recurses := true, apart := false, narrowed := true }
def ResponseValidUptoSaid : Prop := responseValidUptoRow.holds Try.pinned (OpenSpec.upto responseValidSpec)

/-- 'tagcachelaw08.ResponseLongs', WHERE WHAT IT READS IS OF BULK AT MOST 1048576: true; the input reads as it did. -/
def responseLongsUptoRow : OpenClaim := { program := "ytohnkjjjejnkpaa", sum := "597ec5fdbcda43fe2742b971fb9ce967e17c0a3cdec6e801ad459b3271d7c8b6", func := "tagcache/tagcachelaw08.ResponseLongs", spec := "responseLongs", unfollowed := true, recurses := true, apart := false, narrowed := true }
def ResponseLongsUptoSaid : Prop := responseLongsUptoRow.holds Try.pinned (OpenSpec.upto responseLongsSpec)

/-- 'tagcachelaw08.ResponseHolds', WHERE WHAT IT READS IS OF BULK AT MOST 1048576: true; the input reads as it did. -/
def responseHoldsUptoRow : OpenClaim := { program := "ytohnkjjjejnkpaa", sum := "597ec5fdbcda43fe2742b971fb9ce967e17c0a3cdec6e801ad459b3271d7c8b6", func := "tagcache/tagcachelaw08.ResponseHolds", spec := "responseHolds", unfollowed := true, recurses := true, apart := false, narrowed := true }
def ResponseHoldsUptoSaid : Prop := responseHoldsUptoRow.holds Try.pinned (OpenSpec.upto responseHoldsSpec)

end Rows
end Go.Proofs.Ytohnkjjjejnkpaa
