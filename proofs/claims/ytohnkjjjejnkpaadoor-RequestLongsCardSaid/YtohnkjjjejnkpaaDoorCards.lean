/-
  DERIVED. GIVEN WITH THE SEED: THE CARDS: each row of YtohnkjjjejnkpaaDoorRows.lean that lists a variable, with what it lists TIED to the program's text (the seventh form; the later family's looks); each row that meets fmt, with fmt's text TOLD by the authors' own Lean function (tested against real Go, not proved from fmt's source: count such statements apart). THE CARD IS WHAT COUNTS. Prove the row's statement (the work); the ties are given (YtohnkjjjejnkpaaDoorTie.lean); close each card by the builder's one call (the guide's Derived/Test/ToyasCard.lean, 'card_holds'). Laid BY PROGRAM, IN A SANDBOX (cutbox-door.mjs). By AI agents, Wed Nov 11 2026. No macro, syntax, notation, axiom, sorry.
-/
import Derived.Test.YtohnkjjjejnkpaaDoorRows
import GoSem.ClaimSeven
namespace Go.Proofs.YtohnkjjjejnkpaaDoor
namespace Rows

/-- THE TIED CARD OF 'tagcachelaw07.RequestWords'. -/
def requestWordsCard : Claim7 := { stood := { row := requestWordsRow, standIns := [], harness := (true, "69e58cbe590e0ef324aa19ab7882ad146e66d5c11c916435f0e3080a569bf2dd"), looks := false }, kinds := [], alts := [], laidByText := true, laidKinds := [.data], laidTests := true, laidLooks := .later }
def RequestWordsCardSaid : Prop := Claim7.holds Tryd.pinned (.plain (OpenSpec.ofChange requestWordsSpec)) requestWordsCard

/-- THE TIED CARD OF 'tagcachelaw07.RequestWrites'. -/
def requestWritesCard : Claim7 := { stood := { row := requestWritesRow, standIns := [], harness := (true, "69e58cbe590e0ef324aa19ab7882ad146e66d5c11c916435f0e3080a569bf2dd"), looks := false }, kinds := [], alts := [], laidByText := true, laidKinds := [.data], laidTests := true, laidLooks := .later }
def RequestWritesCardSaid : Prop := Claim7.holds Tryd.pinned (.plain (OpenSpec.ofChange requestWritesSpec)) requestWritesCard

/-- THE TIED CARD OF 'tagcachelaw07.RequestReads'. -/
def requestReadsCard : Claim7 := { stood := { row := requestReadsRow, standIns := [], harness := (true, "69e58cbe590e0ef324aa19ab7882ad146e66d5c11c916435f0e3080a569bf2dd"), looks := false }, kinds := [], alts := [], laidByText := true, laidKinds := [.data], laidTests := true, laidLooks := .later }
def RequestReadsCardSaid : Prop := Claim7.holds Tryd.pinned (.plain (OpenSpec.ofChange requestReadsSpec)) requestReadsCard

/-- THE TIED CARD OF 'tagcachelaw07.RequestValid'. -/
def requestValidCard : Claim7 := { stood := { row := requestValidRow, standIns := [], harness := (true, "69e58cbe590e0ef324aa19ab7882ad146e66d5c11c916435f0e3080a569bf2dd"), looks := false }, kinds := [], alts := [], laidByText := true, laidKinds := [.data], laidTests := true, laidLooks := .later }
def RequestValidCardSaid : Prop := Claim7.holds Tryd.pinned (.plain (OpenSpec.ofChange requestValidSpec)) requestValidCard

/-- THE TIED CARD OF 'tagcachelaw07.RequestLongs'. -/
def requestLongsCard : Claim7 := { stood := { row := requestLongsRow, standIns := [], harness := (true, "69e58cbe590e0ef324aa19ab7882ad146e66d5c11c916435f0e3080a569bf2dd"), looks := false }, kinds := [], alts := [], laidByText := true, laidKinds := [.data], laidTests := true, laidLooks := .later }
def RequestLongsCardSaid : Prop := Claim7.holds Tryd.pinned (.plain (OpenSpec.ofChange requestLongsSpec)) requestLongsCard

/-- THE TIED CARD OF 'tagcachelaw07.RequestHolds'. -/
def requestHoldsCard : Claim7 := { stood := { row := requestHoldsRow, standIns := [], harness := (true, "69e58cbe590e0ef324aa19ab7882ad146e66d5c11c916435f0e3080a569bf2dd"), looks := false }, kinds := [], alts := [], laidByText := true, laidKinds := [.data], laidTests := true, laidLooks := .later }
def RequestHoldsCardSaid : Prop := Claim7.holds Tryd.pinned (.plain (OpenSpec.ofChange requestHoldsSpec)) requestHoldsCard

/-- THE SECOND FORM's CARD OF 'tagcachelaw07.RequestWords'. -/
def requestWordsUptoCard : Claim7 := { stood := { row := requestWordsUptoRow, standIns := [], harness := (true, "69e58cbe590e0ef324aa19ab7882ad146e66d5c11c916435f0e3080a569bf2dd"), looks := false }, kinds := [], alts := [], laidByText := true, laidKinds := [.data], laidTests := true, laidLooks := .later }
def RequestWordsUptoCardSaid : Prop := Claim7.holds Tryd.pinned (.plain (OpenSpec.upto requestWordsSpec)) requestWordsUptoCard

/-- THE SECOND FORM's CARD OF 'tagcachelaw07.RequestWrites'. -/
def requestWritesUptoCard : Claim7 := { stood := { row := requestWritesUptoRow, standIns := [], harness := (true, "69e58cbe590e0ef324aa19ab7882ad146e66d5c11c916435f0e3080a569bf2dd"), looks := false }, kinds := [], alts := [], laidByText := true, laidKinds := [.data], laidTests := true, laidLooks := .later }
def RequestWritesUptoCardSaid : Prop := Claim7.holds Tryd.pinned (.plain (OpenSpec.upto requestWritesSpec)) requestWritesUptoCard

/-- THE SECOND FORM's CARD OF 'tagcachelaw07.RequestReads'. -/
def requestReadsUptoCard : Claim7 := { stood := { row := requestReadsUptoRow, standIns := [], harness := (true, "69e58cbe590e0ef324aa19ab7882ad146e66d5c11c916435f0e3080a569bf2dd"), looks := false }, kinds := [], alts := [], laidByText := true, laidKinds := [.data], laidTests := true, laidLooks := .later }
def RequestReadsUptoCardSaid : Prop := Claim7.holds Tryd.pinned (.plain (OpenSpec.upto requestReadsSpec)) requestReadsUptoCard

/-- THE SECOND FORM's CARD OF 'tagcachelaw07.RequestValid'. -/
def requestValidUptoCard : Claim7 := { stood := { row := requestValidUptoRow, standIns := [], harness := (true, "69e58cbe590e0ef324aa19ab7882ad146e66d5c11c916435f0e3080a569bf2dd"), looks := false }, kinds := [], alts := [], laidByText := true, laidKinds := [.data], laidTests := true, laidLooks := .later }
def RequestValidUptoCardSaid : Prop := Claim7.holds Tryd.pinned (.plain (OpenSpec.upto requestValidSpec)) requestValidUptoCard

/-- THE SECOND FORM's CARD OF 'tagcachelaw07.RequestLongs'. -/
def requestLongsUptoCard : Claim7 := { stood := { row := requestLongsUptoRow, standIns := [], harness := (true, "69e58cbe590e0ef324aa19ab7882ad146e66d5c11c916435f0e3080a569bf2dd"), looks := false }, kinds := [], alts := [], laidByText := true, laidKinds := [.data], laidTests := true, laidLooks := .later }
def RequestLongsUptoCardSaid : Prop := Claim7.holds Tryd.pinned (.plain (OpenSpec.upto requestLongsSpec)) requestLongsUptoCard

/-- THE SECOND FORM's CARD OF 'tagcachelaw07.RequestHolds'. -/
def requestHoldsUptoCard : Claim7 := { stood := { row := requestHoldsUptoRow, standIns := [], harness := (true, "69e58cbe590e0ef324aa19ab7882ad146e66d5c11c916435f0e3080a569bf2dd"), looks := false }, kinds := [], alts := [], laidByText := true, laidKinds := [.data], laidTests := true, laidLooks := .later }
def RequestHoldsUptoCardSaid : Prop := Claim7.holds Tryd.pinned (.plain (OpenSpec.upto requestHoldsSpec)) requestHoldsUptoCard
end Rows
end Go.Proofs.YtohnkjjjejnkpaaDoor
