/-
  DERIVED. GIVEN WITH THE SEED: THE CARDS: each row of YtglnkfpmogaifaaGreatDoorRows.lean that lists a variable, with what it lists TIED to the program's text (the seventh form; the later family's looks); each row that meets fmt, with fmt's text TOLD by the authors' own Lean function (tested against real Go, not proved from fmt's source: count such statements apart). THE CARD IS WHAT COUNTS. Prove the row's statement (the work); the ties are given (YtglnkfpmogaifaaGreatDoorTie.lean); close each card by the builder's one call (the guide's Derived/Test/ToyasCard.lean, 'card_holds'). Laid BY PROGRAM, IN A SANDBOX (cutbox-door.mjs). By AI agents, Wed Nov 11 2026. No macro, syntax, notation, axiom, sorry.
-/
import Derived.Test.YtglnkfpmogaifaaGreatDoorRows
import GoSem.ClaimSeven
namespace Go.Proofs.YtglnkfpmogaifaaGreatDoor
namespace Rows

/-- THE TIED CARD OF 'verdigrislaw01.WholeRing'. -/
def wholeRingCard : Claim7 := { stood := { row := wholeRingRow, standIns := [], harness := (true, "d00e6f902cffade76516e916ef683fb87d6427c569eca9da98916c0750fb0199"), looks := true }, kinds := [], alts := [], laidByText := true, laidKinds := [.data, .data, .data, .sentinel, .sentinel], laidTests := true, laidLooks := .later }
def WholeRingCardSaid : Prop := Claim7.holds Tryz.pinned (.plain (OpenSpec.ofChange wholeRingSpec)) wholeRingCard

/-- THE TIED CARD OF 'verdigrislaw01.WholeDivides'. -/
def wholeDividesCard : Claim7 := { stood := { row := wholeDividesRow, standIns := [], harness := (true, "d00e6f902cffade76516e916ef683fb87d6427c569eca9da98916c0750fb0199"), looks := true }, kinds := [], alts := [], laidByText := true, laidKinds := [.data, .data, .data, .sentinel, .sentinel], laidTests := true, laidLooks := .later }
def WholeDividesCardSaid : Prop := Claim7.holds Tryz.pinned (.plain (OpenSpec.ofChange wholeDividesSpec)) wholeDividesCard

/-- THE TIED CARD OF 'verdigrislaw01.WholeRoots'. -/
def wholeRootsCard : Claim7 := { stood := { row := wholeRootsRow, standIns := [], harness := (true, "d00e6f902cffade76516e916ef683fb87d6427c569eca9da98916c0750fb0199"), looks := true }, kinds := [], alts := [], laidByText := true, laidKinds := [.data, .data, .data, .sentinel, .sentinel], laidTests := true, laidLooks := .later }
def WholeRootsCardSaid : Prop := Claim7.holds Tryz.pinned (.plain (OpenSpec.ofChange wholeRootsSpec)) wholeRootsCard

/-- THE TIED CARD OF 'verdigrislaw01.WholeOrders'. -/
def wholeOrdersCard : Claim7 := { stood := { row := wholeOrdersRow, standIns := [], harness := (true, "d00e6f902cffade76516e916ef683fb87d6427c569eca9da98916c0750fb0199"), looks := true }, kinds := [], alts := [], laidByText := true, laidKinds := [.data, .data, .data, .sentinel, .sentinel], laidTests := true, laidLooks := .later }
def WholeOrdersCardSaid : Prop := Claim7.holds Tryz.pinned (.plain (OpenSpec.ofChange wholeOrdersSpec)) wholeOrdersCard

/-- THE TIED CARD OF 'verdigrislaw01.WholeSums'. -/
def wholeSumsCard : Claim7 := { stood := { row := wholeSumsRow, standIns := [], harness := (true, "d00e6f902cffade76516e916ef683fb87d6427c569eca9da98916c0750fb0199"), looks := true }, kinds := [], alts := [], laidByText := true, laidKinds := [.data, .data, .data, .sentinel, .sentinel], laidTests := true, laidLooks := .later }
def WholeSumsCardSaid : Prop := Claim7.holds Tryz.pinned (.plain (OpenSpec.ofChange wholeSumsSpec)) wholeSumsCard

/-- THE SECOND FORM's CARD OF 'verdigrislaw01.WholeRing'. -/
def wholeRingUptoCard : Claim7 := { stood := { row := wholeRingUptoRow, standIns := [], harness := (true, "d00e6f902cffade76516e916ef683fb87d6427c569eca9da98916c0750fb0199"), looks := true }, kinds := [], alts := [], laidByText := true, laidKinds := [.data, .data, .data, .sentinel, .sentinel], laidTests := true, laidLooks := .later }
def WholeRingUptoCardSaid : Prop := Claim7.holds Tryz.pinned (.plain (OpenSpec.upto wholeRingSpec)) wholeRingUptoCard

/-- THE SECOND FORM's CARD OF 'verdigrislaw01.WholeDivides'. -/
def wholeDividesUptoCard : Claim7 := { stood := { row := wholeDividesUptoRow, standIns := [], harness := (true, "d00e6f902cffade76516e916ef683fb87d6427c569eca9da98916c0750fb0199"), looks := true }, kinds := [], alts := [], laidByText := true, laidKinds := [.data, .data, .data, .sentinel, .sentinel], laidTests := true, laidLooks := .later }
def WholeDividesUptoCardSaid : Prop := Claim7.holds Tryz.pinned (.plain (OpenSpec.upto wholeDividesSpec)) wholeDividesUptoCard

/-- THE SECOND FORM's CARD OF 'verdigrislaw01.WholeRoots'. -/
def wholeRootsUptoCard : Claim7 := { stood := { row := wholeRootsUptoRow, standIns := [], harness := (true, "d00e6f902cffade76516e916ef683fb87d6427c569eca9da98916c0750fb0199"), looks := true }, kinds := [], alts := [], laidByText := true, laidKinds := [.data, .data, .data, .sentinel, .sentinel], laidTests := true, laidLooks := .later }
def WholeRootsUptoCardSaid : Prop := Claim7.holds Tryz.pinned (.plain (OpenSpec.upto wholeRootsSpec)) wholeRootsUptoCard

/-- THE SECOND FORM's CARD OF 'verdigrislaw01.WholeOrders'. -/
def wholeOrdersUptoCard : Claim7 := { stood := { row := wholeOrdersUptoRow, standIns := [], harness := (true, "d00e6f902cffade76516e916ef683fb87d6427c569eca9da98916c0750fb0199"), looks := true }, kinds := [], alts := [], laidByText := true, laidKinds := [.data, .data, .data, .sentinel, .sentinel], laidTests := true, laidLooks := .later }
def WholeOrdersUptoCardSaid : Prop := Claim7.holds Tryz.pinned (.plain (OpenSpec.upto wholeOrdersSpec)) wholeOrdersUptoCard

/-- THE SECOND FORM's CARD OF 'verdigrislaw01.WholeSums'. -/
def wholeSumsUptoCard : Claim7 := { stood := { row := wholeSumsUptoRow, standIns := [], harness := (true, "d00e6f902cffade76516e916ef683fb87d6427c569eca9da98916c0750fb0199"), looks := true }, kinds := [], alts := [], laidByText := true, laidKinds := [.data, .data, .data, .sentinel, .sentinel], laidTests := true, laidLooks := .later }
def WholeSumsUptoCardSaid : Prop := Claim7.holds Tryz.pinned (.plain (OpenSpec.upto wholeSumsSpec)) wholeSumsUptoCard
end Rows
end Go.Proofs.YtglnkfpmogaifaaGreatDoor
