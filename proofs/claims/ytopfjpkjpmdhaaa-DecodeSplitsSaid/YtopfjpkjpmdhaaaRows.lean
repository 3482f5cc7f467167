/-
  No cell of these rows narrows 'for every input' (looked for: loops, veiled, ifaces, maps, wideKeys, modest, calm, conditions, laid).
  DERIVED. THE GIVEN ROWS OF THIS SEAT. 10 by the template 'for every input the law returns true; each argument reads behind the call as it read before'; 0 by the template 'total and deterministic' (their statements: YtopfjpkjpmdhaaaTotals.lean).
  GIVEN WITH THE SEED: the statements are not yours to turn. If you find one false, say at which input.
  Laid BY PROGRAM, IN A SANDBOX (cutbox-rows.mjs): the forced cells as the released guide's own fill.sh prints them over the translation 4d6727b0c4376a2e… (all of the seat's roots in one cut). By AI agents, Wed Nov 11 2026. No macro, syntax, notation, axiom, sorry.
-/
import Derived.Test.YtopfjpkjpmdhaaaChecked
import GoSem.Claim
import GoSem.ClaimJoined
import GoSem.ClaimMapViews
import Derived.JoinedTies
import Derived.KernelRfl
namespace Go.Proofs.Ytopfjpkjpmdhaaa
/- THE CELL 'sum', in the pinned program and in every row, IS THE sha256 OF THE DUMP (.gsa) THAT YtopfjpkjpmdhaaaProg.lean LOADS. Nothing in Lean hashes anything: it is a label: what it is worth is what the hold of that sum in a sandbox is worth. -/
noncomputable def Try.pinned : Pinned := { name := "ytopfjpkjpmdhaaa", sum := "4d6727b0c4376a2e18cdce6087bd29ce758da88e7758b4830d4c06cb546a1e47", checked := Try.checked }
namespace Rows
def none {H : Type} : Left H := { results := [], args := [] }

/-- 'tagcachelaw27.BufferNew': WHATEVER THE INPUT: true; the input reads as it did. -/
def bufferNewSpec : ChangeSpec := { name := "bufferNew", fn := fun _ => fun
  | [d] => { results := [.lit (.bool true)], args := [d] }
  | _ => none }
def bufferNewRow : OpenClaim := { program := "ytopfjpkjpmdhaaa", sum := "4d6727b0c4376a2e18cdce6087bd29ce758da88e7758b4830d4c06cb546a1e47", func := "tagcache/tagcachelaw27.BufferNew", spec := "bufferNew", apart := false }
def BufferNewSaid : Prop := bufferNewRow.holds Try.pinned (OpenSpec.ofChange bufferNewSpec)

/-- ITS FALSE NEIGHBOUR: 'it returns false'. Refute it at one input. -/
def bufferNewWrong : ChangeSpec := { name := "bufferNew", fn := fun _ => fun
  | [d] => { results := [.lit (.bool false)], args := [d] }
  | _ => none }
def BufferNewWrongFalsely : Prop := bufferNewRow.holds Try.pinned (OpenSpec.ofChange bufferNewWrong)

/-- 'tagcachelaw27.BufferFull': WHATEVER THE INPUT: true; the input reads as it did. -/
def bufferFullSpec : ChangeSpec := { name := "bufferFull", fn := fun _ => fun
  | [d] => { results := [.lit (.bool true)], args := [d] }
  | _ => none }
def bufferFullRow : OpenClaim := { program := "ytopfjpkjpmdhaaa", sum := "4d6727b0c4376a2e18cdce6087bd29ce758da88e7758b4830d4c06cb546a1e47", func := "tagcache/tagcachelaw27.BufferFull", spec := "bufferFull", apart := false }
def BufferFullSaid : Prop := bufferFullRow.holds Try.pinned (OpenSpec.ofChange bufferFullSpec)

/-- ITS FALSE NEIGHBOUR: 'it returns false'. Refute it at one input. -/
def bufferFullWrong : ChangeSpec := { name := "bufferFull", fn := fun _ => fun
  | [d] => { results := [.lit (.bool false)], args := [d] }
  | _ => none }
def BufferFullWrongFalsely : Prop := bufferFullRow.holds Try.pinned (OpenSpec.ofChange bufferFullWrong)

/-- 'tagcachelaw27.BufferHolds': WHATEVER THE INPUT: true; the input reads as it did. -/
def bufferHoldsSpec : ChangeSpec := { name := "bufferHolds", fn := fun _ => fun
  | [d1, d2] => { results := [.lit (.bool true)], args := [d1, d2] }
  | _ => none }
def bufferHoldsRow : OpenClaim := { program := "ytopfjpkjpmdhaaa", sum := "4d6727b0c4376a2e18cdce6087bd29ce758da88e7758b4830d4c06cb546a1e47", func := "tagcache/tagcachelaw27.BufferHolds", spec := "bufferHolds", apart := false }
def BufferHoldsSaid : Prop := bufferHoldsRow.holds Try.pinned (OpenSpec.ofChange bufferHoldsSpec)

/-- ITS FALSE NEIGHBOUR: 'it returns false'. Refute it at one input. -/
def bufferHoldsWrong : ChangeSpec := { name := "bufferHolds", fn := fun _ => fun
  | [d1, d2] => { results := [.lit (.bool false)], args := [d1, d2] }
  | _ => none }
def BufferHoldsWrongFalsely : Prop := bufferHoldsRow.holds Try.pinned (OpenSpec.ofChange bufferHoldsWrong)

/-- 'tagcachelaw27.BufferPlays': WHATEVER THE INPUT: true; the input reads as it did. -/
def bufferPlaysSpec : ChangeSpec := { name := "bufferPlays", fn := fun _ => fun
  | [d1, d2] => { results := [.lit (.bool true)], args := [d1, d2] }
  | _ => none }
def bufferPlaysRow : OpenClaim := { program := "ytopfjpkjpmdhaaa", sum := "4d6727b0c4376a2e18cdce6087bd29ce758da88e7758b4830d4c06cb546a1e47", func := "tagcache/tagcachelaw27.BufferPlays", spec := "bufferPlays", apart := false }
def BufferPlaysSaid : Prop := bufferPlaysRow.holds Try.pinned (OpenSpec.ofChange bufferPlaysSpec)

/-- ITS FALSE NEIGHBOUR: 'it returns false'. Refute it at one input. -/
def bufferPlaysWrong : ChangeSpec := { name := "bufferPlays", fn := fun _ => fun
  | [d1, d2] => { results := [.lit (.bool false)], args := [d1, d2] }
  | _ => none }
def BufferPlaysWrongFalsely : Prop := bufferPlaysRow.holds Try.pinned (OpenSpec.ofChange bufferPlaysWrong)

/-- 'tagcachelaw27.BufferNone': WHATEVER THE INPUT: true; the input reads as it did. -/
def bufferNoneSpec : ChangeSpec := { name := "bufferNone", fn := fun _ => fun
  | [d1, d2] => { results := [.lit (.bool true)], args := [d1, d2] }
  | _ => none }
def bufferNoneRow : OpenClaim := { program := "ytopfjpkjpmdhaaa", sum := "4d6727b0c4376a2e18cdce6087bd29ce758da88e7758b4830d4c06cb546a1e47", func := "tagcache/tagcachelaw27.BufferNone", spec := "bufferNone", apart := false }
def BufferNoneSaid : Prop := bufferNoneRow.holds Try.pinned (OpenSpec.ofChange bufferNoneSpec)

/-- ITS FALSE NEIGHBOUR: 'it returns false'. Refute it at one input. -/
def bufferNoneWrong : ChangeSpec := { name := "bufferNone", fn := fun _ => fun
  | [d1, d2] => { results := [.lit (.bool false)], args := [d1, d2] }
  | _ => none }
def BufferNoneWrongFalsely : Prop := bufferNoneRow.holds Try.pinned (OpenSpec.ofChange bufferNoneWrong)

/-- 'tagcachelaw06.DecodeAll': WHATEVER THE INPUT: true; the input reads as it did. -/
def decodeAllSpec : ChangeSpec := { name := "decodeAll", fn := fun _ => fun
  | [d1, d2] => { results := [.lit (.bool true)], args := [d1, d2] }
  | _ => none }
def decodeAllRow : OpenClaim := { program := "ytopfjpkjpmdhaaa", sum := "4d6727b0c4376a2e18cdce6087bd29ce758da88e7758b4830d4c06cb546a1e47", func := "tagcache/tagcachelaw06.DecodeAll", spec := "decodeAll", apart := false }
def DecodeAllSaid : Prop := decodeAllRow.holds Try.pinned (OpenSpec.ofChange decodeAllSpec)

/-- ITS FALSE NEIGHBOUR: 'it returns false'. Refute it at one input. -/
def decodeAllWrong : ChangeSpec := { name := "decodeAll", fn := fun _ => fun
  | [d1, d2] => { results := [.lit (.bool false)], args := [d1, d2] }
  | _ => none }
def DecodeAllWrongFalsely : Prop := decodeAllRow.holds Try.pinned (OpenSpec.ofChange decodeAllWrong)

/-- 'tagcachelaw06.DecodeSplits': WHATEVER THE INPUT: true; the input reads as it did. -/
def decodeSplitsSpec : ChangeSpec := { name := "decodeSplits", fn := fun _ => fun
  | [d1, d2, d3, d4] => { results := [.lit (.bool true)], args := [d1, d2, d3, d4] }
  | _ => none }
def decodeSplitsRow : OpenClaim := { program := "ytopfjpkjpmdhaaa", sum := "4d6727b0c4376a2e18cdce6087bd29ce758da88e7758b4830d4c06cb546a1e47", func := "tagcache/tagcachelaw06.DecodeSplits", spec := "decodeSplits", unfollowed := true, recurses := true, apart := false }
def DecodeSplitsSaid : Prop := decodeSplitsRow.holds Try.pinned (OpenSpec.ofChange decodeSplitsSpec)

/-- ITS FALSE NEIGHBOUR: 'it returns false'. Refute it at one input. -/
def decodeSplitsWrong : ChangeSpec := { name := "decodeSplits", fn := fun _ => fun
  | [d1, d2, d3, d4] => { results := [.lit (.bool false)], args := [d1, d2, d3, d4] }
  | _ => none }
def DecodeSplitsWrongFalsely : Prop := decodeSplitsRow.holds Try.pinned (OpenSpec.ofChange decodeSplitsWrong)

/-- 'tagcachelaw06.DecodeHolds': WHATEVER THE INPUT: true; the input reads as it did. -/
def decodeHoldsSpec : ChangeSpec := { name := "decodeHolds", fn := fun _ => fun
  | [d1, d2] => { results := [.lit (.bool true)], args := [d1, d2] }
  | _ => none }
def decodeHoldsRow : OpenClaim := { program := "ytopfjpkjpmdhaaa", sum := "4d6727b0c4376a2e18cdce6087bd29ce758da88e7758b4830d4c06cb546a1e47", func := "tagcache/tagcachelaw06.DecodeHolds", spec := "decodeHolds", recurses := true, apart := false }
def DecodeHoldsSaid : Prop := decodeHoldsRow.holds Try.pinned (OpenSpec.ofChange decodeHoldsSpec)

/-- ITS FALSE NEIGHBOUR: 'it returns false'. Refute it at one input. -/
def decodeHoldsWrong : ChangeSpec := { name := "decodeHolds", fn := fun _ => fun
  | [d1, d2] => { results := [.lit (.bool false)], args := [d1, d2] }
  | _ => none }
def DecodeHoldsWrongFalsely : Prop := decodeHoldsRow.holds Try.pinned (OpenSpec.ofChange decodeHoldsWrong)

/-- 'tagcachelaw06.DecodePlays': WHATEVER THE INPUT: true; the input reads as it did. -/
def decodePlaysSpec : ChangeSpec := { name := "decodePlays", fn := fun _ => fun
  | [d1, d2] => { results := [.lit (.bool true)], args := [d1, d2] }
  | _ => none }
def decodePlaysRow : OpenClaim := { program := "ytopfjpkjpmdhaaa", sum := "4d6727b0c4376a2e18cdce6087bd29ce758da88e7758b4830d4c06cb546a1e47", func := "tagcache/tagcachelaw06.DecodePlays", spec := "decodePlays", apart := false }
def DecodePlaysSaid : Prop := decodePlaysRow.holds Try.pinned (OpenSpec.ofChange decodePlaysSpec)

/-- ITS FALSE NEIGHBOUR: 'it returns false'. Refute it at one input. -/
def decodePlaysWrong : ChangeSpec := { name := "decodePlays", fn := fun _ => fun
  | [d1, d2] => { results := [.lit (.bool false)], args := [d1, d2] }
  | _ => none }
def DecodePlaysWrongFalsely : Prop := decodePlaysRow.holds Try.pinned (OpenSpec.ofChange decodePlaysWrong)

/-- 'tagcachelaw06.DecodeNil': WHATEVER THE INPUT: true; the input reads as it did. -/
def decodeNilSpec : ChangeSpec := { name := "decodeNil", fn := fun _ => fun
  | [d] => { results := [.lit (.bool true)], args := [d] }
  | _ => none }
def decodeNilRow : OpenClaim := { program := "ytopfjpkjpmdhaaa", sum := "4d6727b0c4376a2e18cdce6087bd29ce758da88e7758b4830d4c06cb546a1e47", func := "tagcache/tagcachelaw06.DecodeNil", spec := "decodeNil", apart := false }
def DecodeNilSaid : Prop := decodeNilRow.holds Try.pinned (OpenSpec.ofChange decodeNilSpec)

/-- ITS FALSE NEIGHBOUR: 'it returns false'. Refute it at one input. -/
def decodeNilWrong : ChangeSpec := { name := "decodeNil", fn := fun _ => fun
  | [d] => { results := [.lit (.bool false)], args := [d] }
  | _ => none }
def DecodeNilWrongFalsely : Prop := decodeNilRow.holds Try.pinned (OpenSpec.ofChange decodeNilWrong)

/- THE SECOND FORM. 'bulk': how many values and letters a reading holds, each counted each time it is reached (what is shared counts as often as it is met; a slice's spare places count too). A statement '..UptoSaid' is the law's where the arguments, and the package variables that the reading takes, are together of bulk at most 1048576: NARROWER than '..Said'. Prove '..Said' where nothing that the law and all that it calls make is longer than what came in: it says more and counts as full. Else prove '..UptoSaid'. A law counts once. -/
mutual
def uptoBulk {H : Type} : DataW H → Nat
  | .lit (.string bytes) => bytes.length + 1
  | .lit _ => 1
  | .nil => 1
  | .ptr d => uptoBulk d + 1
  | .slice elems spare => uptoBulkAll elems + uptoBulkAll spare + 1
  | .agg parts => uptoBulkAll parts + 1
  | .iface _ d => uptoBulk d + 1
  | .map entries => uptoBulkEntries entries + 1
  | .held _ => 1
def uptoBulkAll {H : Type} : List (DataW H) → Nat
  | [] => 0
  | d :: r => uptoBulk d + uptoBulkAll r
def uptoBulkEntries {H : Type} : List (Lit × DataW H) → Nat
  | [] => 0
  | x :: r => uptoBulkEntry x + uptoBulkEntries r
def uptoBulkEntry {H : Type} : Lit × DataW H → Nat
  | (.string bytes, d) => bytes.length + uptoBulk d + 1
  | (_, d) => uptoBulk d + 1
 end
def uptoSmall : (H : Type) → List (DataW H) → Bool := fun _ ds => decide (uptoBulkAll ds ≤ 1048576)
def OpenSpec.upto (s : _root_.Go.ChangeSpec) : _root_.Go.OpenSpec := { _root_.Go.OpenSpec.ofChange s with cond := some uptoSmall }

/-- 'tagcachelaw27.BufferNew', WHERE WHAT IT READS IS OF BULK AT MOST 1048576: true; the input reads as it did. -/
def bufferNewUptoRow : OpenClaim := { program := "ytopfjpkjpmdhaaa", sum := "4d6727b0c4376a2e18cdce6087bd29ce758da88e7758b4830d4c06cb546a1e47", func := "tagcache/tagcachelaw27.BufferNew", spec := "bufferNew", apart := false, narrowed := true }
def BufferNewUptoSaid : Prop := bufferNewUptoRow.holds Try.pinned (OpenSpec.upto bufferNewSpec)

/-- 'tagcachelaw27.BufferFull', WHERE WHAT IT READS IS OF BULK AT MOST 1048576: true; the input reads as it did. -/
def bufferFullUptoRow : OpenClaim := { program := "ytopfjpkjpmdhaaa", sum := "4d6727b0c4376a2e18cdce6087bd29ce758da88e7758b4830d4c06cb546a1e47", func := "tagcache/tagcachelaw27.BufferFull", spec := "bufferFull", apart := false, narrowed := true }
def BufferFullUptoSaid : Prop := bufferFullUptoRow.holds Try.pinned (OpenSpec.upto bufferFullSpec)

/-- 'tagcachelaw27.BufferHolds', WHERE WHAT IT READS IS OF BULK AT MOST 1048576: true; the input reads as it did. -/
def bufferHoldsUptoRow : OpenClaim := { program := "ytopfjpkjpmdhaaa", sum := "4d6727b0c4376a2e18cdce6087bd29ce758da88e7758b4830d4c06cb546a1e47", func := "tagcache/tagcachelaw27.BufferHolds", spec := "bufferHolds", apart := false, narrowed := true }
def BufferHoldsUptoSaid : Prop := bufferHoldsUptoRow.holds Try.pinned (OpenSpec.upto bufferHoldsSpec)

/-- 'tagcachelaw27.BufferPlays', WHERE WHAT IT READS IS OF BULK AT MOST 1048576: true; the input reads as it did. -/
def bufferPlaysUptoRow : OpenClaim := { program := "ytopfjpkjpmdhaaa", sum := "4d6727b0c4376a2e18cdce6087bd29ce758da88e7758b4830d4c06cb546a1e47", func := "tagcache/tagcachelaw27.BufferPlays", spec := "bufferPlays", apart := false, narrowed := true }
def BufferPlaysUptoSaid : Prop := bufferPlaysUptoRow.holds Try.pinned (OpenSpec.upto bufferPlaysSpec)

/-- 'tagcachelaw27.BufferNone', WHERE WHAT IT READS IS OF BULK AT MOST 1048576: true; the input reads as it did. -/
def bufferNoneUptoRow : OpenClaim := { program := "ytopfjpkjpmdhaaa", sum := "4d6727b0c4376a2e18cdce6087bd29ce758da88e7758b4830d4c06cb546a1e47", func := "tagcache/tagcachelaw27.BufferNone", spec := "bufferNone", apart := false, narrowed := true }
def BufferNoneUptoSaid : Prop := bufferNoneUptoRow.holds Try.pinned (OpenSpec.upto bufferNoneSpec)

/-- 'tagcachelaw06.DecodeAll', WHERE WHAT IT READS IS OF BULK AT MOST 1048576: true; the input reads as it did. -/
def decodeAllUptoRow : OpenClaim := { program := "ytopfjpkjpmdhaaa", sum := "4d6727b0c4376a2e18cdce6087bd29ce758da88e7758b4830d4c06cb546a1e47", func := "tagcache/tagcachelaw06.DecodeAll", spec := "decodeAll", apart := false, narrowed := true }
def DecodeAllUptoSaid : Prop := decodeAllUptoRow.holds Try.pinned (OpenSpec.upto decodeAllSpec)

/-- 'tagcachelaw06.DecodeSplits', WHERE WHAT IT READS IS OF BULK AT MOST 1048576: true; the input reads as it did. -/
def decodeSplitsUptoRow : OpenClaim := { program := "ytopfjpkjpmdhaaa", sum := "4d6727b0c4376a2e18cdce6087bd29ce758da88e7758b4830d4c06cb546a1e47", func := "tagcache/tagcachelaw06.DecodeSplits", spec := "decodeSplits", unfollowed := true, recurses := true, apart := false, narrowed := true }
def DecodeSplitsUptoSaid : Prop := decodeSplitsUptoRow.holds Try.pinned (OpenSpec.upto decodeSplitsSpec)

/-- 'tagcachelaw06.DecodeHolds', WHERE WHAT IT READS IS OF BULK AT MOST 1048576: true; the input reads as it did. -/
def decodeHoldsUptoRow : OpenClaim := { program := "ytopfjpkjpmdhaaa", sum := "4d6727b0c4376a2e18cdce6087bd29ce758da88e7758b4830d4c06cb546a1e47", func := "tagcache/tagcachelaw06.DecodeHolds", spec := "decodeHolds", recurses := true, apart := false, narrowed := true }
def DecodeHoldsUptoSaid : Prop := decodeHoldsUptoRow.holds Try.pinned (OpenSpec.upto decodeHoldsSpec)

/-- 'tagcachelaw06.DecodePlays', WHERE WHAT IT READS IS OF BULK AT MOST 1048576: true; the input reads as it did. -/
def decodePlaysUptoRow : OpenClaim := { program := "ytopfjpkjpmdhaaa", sum := "4d6727b0c4376a2e18cdce6087bd29ce758da88e7758b4830d4c06cb546a1e47", func := "tagcache/tagcachelaw06.DecodePlays", spec := "decodePlays", apart := false, narrowed := true }
def DecodePlaysUptoSaid : Prop := decodePlaysUptoRow.holds Try.pinned (OpenSpec.upto decodePlaysSpec)

/-- 'tagcachelaw06.DecodeNil', WHERE WHAT IT READS IS OF BULK AT MOST 1048576: true; the input reads as it did. -/
def decodeNilUptoRow : OpenClaim := { program := "ytopfjpkjpmdhaaa", sum := "4d6727b0c4376a2e18cdce6087bd29ce758da88e7758b4830d4c06cb546a1e47", func := "tagcache/tagcachelaw06.DecodeNil", spec := "decodeNil", apart := false, narrowed := true }
def DecodeNilUptoSaid : Prop := decodeNilUptoRow.holds Try.pinned (OpenSpec.upto decodeNilSpec)

end Rows
end Go.Proofs.Ytopfjpkjpmdhaaa
