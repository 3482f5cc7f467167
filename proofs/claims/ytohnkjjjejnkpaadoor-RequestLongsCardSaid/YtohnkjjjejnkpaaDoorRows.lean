/-
  NARROWER THAN 'FOR EVERY INPUT', by the rows' own cells (each row's printed sentence says how): RequestWords: laid · RequestWrites: laid · RequestReads: laid · RequestValid: laid · RequestLongs: laid · RequestHolds: laid.
  DERIVED. THE GIVEN ROWS OF THIS SEAT. 6 by the template 'for every input the law returns true; each argument reads behind the call as it read before'; 0 by the template 'total and deterministic' (their statements: YtohnkjjjejnkpaaDoorTotals.lean).
  GIVEN WITH THE SEED: the statements are not yours to turn. If you find one false, say at which input.
  Laid BY PROGRAM, IN A SANDBOX (cutbox-rows.mjs): the forced cells as the released guide's own fill.sh prints them over the translation 2c6387e6c3e7d529… (all of the seat's roots in one cut). By AI agents, Wed Nov 11 2026. No macro, syntax, notation, axiom, sorry.
-/
import Derived.Test.YtohnkjjjejnkpaaDoorChecked
import GoSem.Claim
import GoSem.ClaimJoined
import GoSem.ClaimMapViews
import Derived.JoinedTies
import Derived.KernelRfl
namespace Go.Proofs.YtohnkjjjejnkpaaDoor
/- THE CELL 'sum', in the pinned program and in every row, IS THE sha256 OF THE DUMP (.gsa) THAT YtohnkjjjejnkpaaDoorProg.lean LOADS. Nothing in Lean hashes anything: it is a label: what it is worth is what the hold of that sum in a sandbox is worth. -/
noncomputable def Tryd.pinned : Pinned := { name := "ytohnkjjjejnkpaadoor", sum := "2c6387e6c3e7d529a0b2521d1fd2dcc4a07c0e091a718a97b2e3f09397b96749", checked := Tryd.checked }
namespace Rows
def none {H : Type} : Left H := { results := [], args := [] }

/- WHAT THE LISTED PACKAGE-LEVEL VARIABLES READ AS WHEN THE CALL BEGINS. Each datum BY PROGRAM (the guide's laid-datum.mjs) off the statement by which the dump's own 'gosem.cut.vars' lays the variable. In a bare row this is a premise. The card (YtohnkjjjejnkpaaDoorCards.lean) ties it to the program's text. -/
def laid_tagcache_request_words {H : Type} : DataW H := .agg [.lit (.string []), .lit (.string [115, 101, 116]), .lit (.string [97, 100, 100]), .lit (.string [99, 97, 115]), .lit (.string [103, 101, 116]), .lit (.string [109, 103, 101, 116]), .lit (.string [116, 111, 117, 99, 104]), .lit (.string [100, 101, 108]), .lit (.string [112, 117, 114, 103, 101]), .lit (.string [115, 111, 102, 116]), .lit (.string [112, 114, 101, 102, 105, 120]), .lit (.string [100, 101, 112, 97, 100, 100]), .lit (.string [100, 101, 112, 100, 101, 108]), .lit (.string [105, 110, 118, 97, 108, 105, 100, 97, 116, 101]), .lit (.string [102, 108, 117, 115, 104]), .lit (.string [115, 116, 97, 116, 115])]

/-- 'tagcachelaw07.RequestWords': WHATEVER THE INPUT: true; the input reads as it did. -/
def requestWordsSpec : ChangeSpec := { name := "requestWords", fn := fun _ => fun
  | [d1, d2] => { results := [.lit (.bool true)], args := [d1, d2] }
  | _ => none }
def requestWordsRow : OpenClaim := { program := "ytohnkjjjejnkpaadoor", sum := "2c6387e6c3e7d529a0b2521d1fd2dcc4a07c0e091a718a97b2e3f09397b96749", func := "tagcache/tagcachelaw07.RequestWords", spec := "requestWords", unfollowed := true, recurses := true, named := ["tagcache/request.words"], apart := false, laid := [("tagcache/request.words", laid_tagcache_request_words)] }
def RequestWordsSaid : Prop := requestWordsRow.holds Tryd.pinned (OpenSpec.ofChange requestWordsSpec)

/-- ITS FALSE NEIGHBOUR: 'it returns false'. Refute it at one input. -/
def requestWordsWrong : ChangeSpec := { name := "requestWords", fn := fun _ => fun
  | [d1, d2] => { results := [.lit (.bool false)], args := [d1, d2] }
  | _ => none }
def RequestWordsWrongFalsely : Prop := requestWordsRow.holds Tryd.pinned (OpenSpec.ofChange requestWordsWrong)

/-- 'tagcachelaw07.RequestWrites': WHATEVER THE INPUT: true; the input reads as it did. -/
def requestWritesSpec : ChangeSpec := { name := "requestWrites", fn := fun _ => fun
  | [d] => { results := [.lit (.bool true)], args := [d] }
  | _ => none }
def requestWritesRow : OpenClaim := { program := "ytohnkjjjejnkpaadoor", sum := "2c6387e6c3e7d529a0b2521d1fd2dcc4a07c0e091a718a97b2e3f09397b96749", func := "tagcache/tagcachelaw07.RequestWrites", spec := "requestWrites", unfollowed := true, recurses := true, named := ["tagcache/request.words"], apart := false, laid := [("tagcache/request.words", laid_tagcache_request_words)] }
def RequestWritesSaid : Prop := requestWritesRow.holds Tryd.pinned (OpenSpec.ofChange requestWritesSpec)

/-- ITS FALSE NEIGHBOUR: 'it returns false'. Refute it at one input. -/
def requestWritesWrong : ChangeSpec := { name := "requestWrites", fn := fun _ => fun
  | [d] => { results := [.lit (.bool false)], args := [d] }
  | _ => none }
def RequestWritesWrongFalsely : Prop := requestWritesRow.holds Tryd.pinned (OpenSpec.ofChange requestWritesWrong)

/-- 'tagcachelaw07.RequestReads': WHATEVER THE INPUT: true; the input reads as it did. -/
def requestReadsSpec : ChangeSpec := { name := "requestReads", fn := fun _ => fun
  | [d] => { results := [.lit (.bool true)], args := [d] }
  | _ => none }
def requestReadsRow : OpenClaim := { program := "ytohnkjjjejnkpaadoor", sum := "2c6387e6c3e7d529a0b2521d1fd2dcc4a07c0e091a718a97b2e3f09397b96749", func := "tagcache/tagcachelaw07.RequestReads", spec := "requestReads", unfollowed := true, recurses := true, named := ["tagcache/request.words"], apart := false, laid := [("tagcache/request.words", laid_tagcache_request_words)] }
def RequestReadsSaid : Prop := requestReadsRow.holds Tryd.pinned (OpenSpec.ofChange requestReadsSpec)

/-- ITS FALSE NEIGHBOUR: 'it returns false'. Refute it at one input. -/
def requestReadsWrong : ChangeSpec := { name := "requestReads", fn := fun _ => fun
  | [d] => { results := [.lit (.bool false)], args := [d] }
  | _ => none }
def RequestReadsWrongFalsely : Prop := requestReadsRow.holds Tryd.pinned (OpenSpec.ofChange requestReadsWrong)

/-- 'tagcachelaw07.RequestValid': WHATEVER THE INPUT: true; the input reads as it did. -/
def requestValidSpec : ChangeSpec := { name := "requestValid", fn := fun _ => fun
  | [d1, d2] => { results := [.lit (.bool true)], args := [d1, d2] }
  | _ => none }
def requestValidRow : OpenClaim := { program := "ytohnkjjjejnkpaadoor", sum := "2c6387e6c3e7d529a0b2521d1fd2dcc4a07c0e091a718a97b2e3f09397b96749", func := "tagcache/tagcachelaw07.RequestValid", spec := "requestValid", unfollowed := true, recurses := true, named := ["tagcache/request.words"], apart := false, laid := [("tagcache/request.words", laid_tagcache_request_words)] }
def RequestValidSaid : Prop := requestValidRow.holds Tryd.pinned (OpenSpec.ofChange requestValidSpec)

/-- ITS FALSE NEIGHBOUR: 'it returns false'. Refute it at one input. -/
def requestValidWrong : ChangeSpec := { name := "requestValid", fn := fun _ => fun
  | [d1, d2] => { results := [.lit (.bool false)], args := [d1, d2] }
  | _ => none }
def RequestValidWrongFalsely : Prop := requestValidRow.holds Tryd.pinned (OpenSpec.ofChange requestValidWrong)

/-- 'tagcachelaw07.RequestLongs': WHATEVER THE INPUT: true; the input reads as it did. -/
def requestLongsSpec : ChangeSpec := { name := "requestLongs", fn := fun _ => fun
  | [d1, d2] => { results := [.lit (.bool true)], args := [d1, d2] }
  | _ => none }
def requestLongsRow : OpenClaim := { program := "ytohnkjjjejnkpaadoor", sum := "2c6387e6c3e7d529a0b2521d1fd2dcc4a07c0e091a718a97b2e3f09397b96749", func := "tagcache/tagcachelaw07.RequestLongs", spec := "requestLongs", unfollowed := true, recurses := true, named := ["tagcache/request.words"], apart := false, laid := [("tagcache/request.words", laid_tagcache_request_words)] }
def RequestLongsSaid : Prop := requestLongsRow.holds Tryd.pinned (OpenSpec.ofChange requestLongsSpec)

/-- ITS FALSE NEIGHBOUR: 'it returns false'. Refute it at one input. -/
def requestLongsWrong : ChangeSpec := { name := "requestLongs", fn := fun _ => fun
  | [d1, d2] => { results := [.lit (.bool false)], args := [d1, d2] }
  | _ => none }
def RequestLongsWrongFalsely : Prop := requestLongsRow.holds Tryd.pinned (OpenSpec.ofChange requestLongsWrong)

/-- 'tagcachelaw07.RequestHolds': WHATEVER THE INPUT: true; the input reads as it did. -/
def requestHoldsSpec : ChangeSpec := { name := "requestHolds", fn := fun _ => fun
  | [d1, d2] => { results := [.lit (.bool true)], args := [d1, d2] }
  | _ => none }
def requestHoldsRow : OpenClaim := { program := "ytohnkjjjejnkpaadoor", sum := "2c6387e6c3e7d529a0b2521d1fd2dcc4a07c0e091a718a97b2e3f09397b96749", func := "tagcache/tagcachelaw07.RequestHolds", spec := "requestHolds", unfollowed := true, recurses := true, named := ["tagcache/request.words"], apart := false, laid := [("tagcache/request.words", laid_tagcache_request_words)] }
def RequestHoldsSaid : Prop := requestHoldsRow.holds Tryd.pinned (OpenSpec.ofChange requestHoldsSpec)

/-- ITS FALSE NEIGHBOUR: 'it returns false'. Refute it at one input. -/
def requestHoldsWrong : ChangeSpec := { name := "requestHolds", fn := fun _ => fun
  | [d1, d2] => { results := [.lit (.bool false)], args := [d1, d2] }
  | _ => none }
def RequestHoldsWrongFalsely : Prop := requestHoldsRow.holds Tryd.pinned (OpenSpec.ofChange requestHoldsWrong)

/- THE SECOND FORM. 'bulk': how many values and letters a reading holds, each counted each time it is reached (what is shared counts as often as it is met; a slice's spare places count too). A statement '..UptoSaid' is the law's where the arguments, and the package variables that the reading takes, are together of bulk at most 1048576: NARROWER than '..Said'. Prove '..Said' where nothing that the law and all that it calls make is longer than what came in: it says more and counts as full. Else prove '..UptoSaid'. A law counts once. -/
mutual
def uptoBulk {H : Type} : DataW H → Nat
  | .lit (.string bytes) => bytes.length + 1
  | .lit _ => 1
  | .nil => 1
  | .ptr d => uptoBulk d + 1
  | .slice elems spare => uptoBulkAll elems + uptoBulkAll spare + 1
  | .agg parts => uptoBulkAll parts + 1
  | .iface _ d => uptoBulk d + 1
  | .map entries => uptoBulkEntries entries + 1
  | .held _ => 1
def uptoBulkAll {H : Type} : List (DataW H) → Nat
  | [] => 0
  | d :: r => uptoBulk d + uptoBulkAll r
def uptoBulkEntries {H : Type} : List (Lit × DataW H) → Nat
  | [] => 0
  | x :: r => uptoBulkEntry x + uptoBulkEntries r
def uptoBulkEntry {H : Type} : Lit × DataW H → Nat
  | (.string bytes, d) => bytes.length + uptoBulk d + 1
  | (_, d) => uptoBulk d + 1
 end
def uptoSmall : (H : Type) → List (DataW H) → Bool := fun _ ds => decide (uptoBulkAll ds ≤ 1048576)
def OpenSpec.upto (s : _root_.Go.ChangeSpec) : _root_.Go.OpenSpec := { _root_.Go.OpenSpec.ofChange s with cond := some uptoSmall }

/-- 'tagcachelaw07.RequestWords', WHERE WHAT IT READS IS OF BULK AT MOST 1048576: true; the input reads as it did. -/
def requestWordsUptoRow : OpenClaim := { program := "ytohnkjjjejnkpaadoor", sum := "2c6387e6c3e7d529a0b2521d1fd2dcc4a07c0e091a718a97b2e3f09397b96749", func := "tagcache/tagcachelaw07.RequestWords", spec := "requestWords", unfollowed := true, recurses := true, named := ["tagcache/request.words"], apart := false, laid := [("tagcache/request.words", laid_tagcache_request_words)], narrowed := true }
def RequestWordsUptoSaid : Prop := requestWordsUptoRow.holds Tryd.pinned (OpenSpec.upto requestWordsSpec)

/-- 'tagcachelaw07.RequestWrites', WHERE WHAT IT READS IS OF BULK AT MOST 1048576: true; the input reads as it did. -/
def requestWritesUptoRow : OpenClaim := { program := "ytohnkjjjejnkpaadoor", sum := "2c6387e6c3e7d529a0b2521d1fd2dcc4a07c0e091a718a97b2e3f09397b96749", func := "tagcache/tagcachelaw07.RequestWrites", spec := "requestWrites", unfollowed := true, recurses := true, named := ["tagcache/request.words"], apart := false, laid := [("tagcache/request.words", laid_tagcache_request_words)], narrowed := true }
def RequestWritesUptoSaid : Prop := requestWritesUptoRow.holds Tryd.pinned (OpenSpec.upto requestWritesSpec)

/-- 'tagcachelaw07.RequestReads', WHERE WHAT IT READS IS OF BULK AT MOST 1048576: true; the input reads as it did. -/
def requestReadsUptoRow : OpenClaim := { program := "ytohnkjjjejnkpaadoor", sum := "2c6387e6c3e7d529a0b2521d1fd2dcc4a07c0e091a718a97b2e3f09397b96749", func := "tagcache/tagcachelaw07.RequestReads", spec := "requestReads", unfollowed := true, recurses := true, named := ["tagcache/request.words"], apart := false, laid := [("tagcache/request.words", laid_tagcache_request_words)], narrowed := true }
def RequestReadsUptoSaid : Prop := requestReadsUptoRow.holds Tryd.pinned (OpenSpec.upto requestReadsSpec)

/-- 'tagcachelaw07.RequestValid', WHERE WHAT IT READS IS OF BULK AT MOST 1048576: true; the input reads as it did. -/
def requestValidUptoRow : OpenClaim := { program := "ytohnkjjjejnkpaadoor", sum := "2c6387e6c3e7d529a0b2521d1fd2dcc4a07c0e091a718a97b2e3f09397b96749", func := "tagcache/tagcachelaw07.RequestValid", spec := "requestValid", unfollowed := true, recurses := true, named := ["tagcache/request.words"], apart := false, laid := [("tagcache/request.words", laid_tagcache_request_words)], narrowed := true }
def RequestValidUptoSaid : Prop := requestValidUptoRow.holds Tryd.pinned (OpenSpec.upto requestValidSpec)

/-- 'tagcachelaw07.RequestLongs', WHERE WHAT IT READS IS OF BULK AT MOST 1048576: true; the input reads as it did. -/
def requestLongsUptoRow : OpenClaim := { program := "ytohnkjjjejnkpaadoor", sum := "2c6387e6c3e7d529a0b2521d1fd2dcc4a07c0e091a718a97b2e3f09397b96749", func := "tagcache/tagcachelaw07.RequestLongs", spec := "requestLongs", unfollowed := true, recurses := true, named := ["tagcache/request.words"], apart := false, laid := [("tagcache/request.words", laid_tagcache_request_words)], narrowed := true }
def RequestLongsUptoSaid : Prop := requestLongsUptoRow.holds Tryd.pinned (OpenSpec.upto requestLongsSpec)

/-- 'tagcachelaw07.RequestHolds', WHERE WHAT IT READS IS OF BULK AT MOST 1048576: true; the input reads as it did. -/
def requestHoldsUptoRow : OpenClaim := { program := "ytohnkjjjejnkpaadoor", sum := "2c6387e6c3e7d529a0b2521d1fd2dcc4a07c0e091a718a97b2e3f09397b96749", func := "tagcache/tagcachelaw07.RequestHolds", spec := "requestHolds", unfollowed := true, recurses := true, named := ["tagcache/request.words"], apart := false, laid := [("tagcache/request.words", laid_tagcache_request_words)], narrowed := true }
def RequestHoldsUptoSaid : Prop := requestHoldsUptoRow.holds Tryd.pinned (OpenSpec.upto requestHoldsSpec)

end Rows
end Go.Proofs.YtohnkjjjejnkpaaDoor
