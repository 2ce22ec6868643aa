/-
  DERIVED. GIVEN WITH THE SEED: THE CARDS: each row of YtpiabknabfbfhaaGreatDoorRows.lean that lists a variable, with what it lists TIED to the program's text (the seventh form; the later family's looks); each row that meets fmt, with fmt's text TOLD by the authors' own Lean function (tested against real Go, not proved from fmt's source: count such statements apart). THE CARD IS WHAT COUNTS. Prove the row's statement (the work); the ties are given (YtpiabknabfbfhaaGreatDoorTie.lean); close each card by the builder's one call (the guide's Derived/Test/ToyasCard.lean, 'card_holds'). Laid BY PROGRAM, IN A SANDBOX (cutbox-door.mjs). By AI agents, Wed Nov 11 2026. No macro, syntax, notation, axiom, sorry.
-/
import Derived.Test.YtpiabknabfbfhaaGreatDoorRows
import GoSem.ClaimSeven
namespace Go.Proofs.YtpiabknabfbfhaaGreatDoor
namespace Rows

/-- THE TIED CARD OF 'queuewirekeep.Kept'. -/
def keptCard : Claim7 := { stood := { row := keptRow, standIns := [], harness := (true, "3c310d2ca3cb1cec6d5937fe32e7f1f8b4eb53f7f1f85f53cb108448302eb172"), looks := true }, kinds := [], alts := [], goes := true, laidByText := true, laidKinds := [.handle, .data, .pinned, .pinned], laidTests := true, laidLooks := .later }
def KeptCardSaid : Prop := Claim7.holds Tryz.pinned (.plain (OpenSpec.ofChange keptSpec)) keptCard

/-- THE TIED CARD OF 'queuewirekeep.Fairly'. -/
def fairlyCard : Claim7 := { stood := { row := fairlyRow, standIns := [], harness := (true, "3c310d2ca3cb1cec6d5937fe32e7f1f8b4eb53f7f1f85f53cb108448302eb172"), looks := true }, kinds := [], alts := [], goes := true, laidByText := true, laidKinds := [.handle, .data, .pinned, .pinned], laidTests := true, laidLooks := .later }
def FairlyCardSaid : Prop := Claim7.holds Tryz.pinned (.plain (OpenSpec.ofChange fairlySpec)) fairlyCard

/-- THE TIED CARD OF 'queuewirekeep.Again'. -/
def againCard : Claim7 := { stood := { row := againRow, standIns := [], harness := (true, "3c310d2ca3cb1cec6d5937fe32e7f1f8b4eb53f7f1f85f53cb108448302eb172"), looks := true }, kinds := [], alts := [], goes := true, laidByText := true, laidKinds := [.handle, .data, .pinned, .pinned], laidTests := true, laidLooks := .later }
def AgainCardSaid : Prop := Claim7.holds Tryz.pinned (.plain (OpenSpec.ofChange againSpec)) againCard

/-- THE TIED CARD OF 'queuewirekeep.Framed'. -/
def framedCard : Claim7 := { stood := { row := framedRow, standIns := [], harness := (true, "3c310d2ca3cb1cec6d5937fe32e7f1f8b4eb53f7f1f85f53cb108448302eb172"), looks := true }, kinds := [], alts := [], goes := true, laidByText := true, laidKinds := [.handle, .data, .pinned, .pinned], laidTests := true, laidLooks := .later }
def FramedCardSaid : Prop := Claim7.holds Tryz.pinned (.plain (OpenSpec.ofChange framedSpec)) framedCard

/-- THE TIED CARD OF 'queuewirekeep.Cut'. -/
def cutCard : Claim7 := { stood := { row := cutRow, standIns := [], harness := (true, "3c310d2ca3cb1cec6d5937fe32e7f1f8b4eb53f7f1f85f53cb108448302eb172"), looks := true }, kinds := [], alts := [], goes := true, laidByText := true, laidKinds := [.handle, .data, .pinned, .pinned], laidTests := true, laidLooks := .later }
def CutCardSaid : Prop := Claim7.holds Tryz.pinned (.plain (OpenSpec.ofChange cutSpec)) cutCard

/-- THE TIED CARD OF 'queuewirekeep.Beats'. -/
def beatsCard : Claim7 := { stood := { row := beatsRow, standIns := [], harness := (true, "3c310d2ca3cb1cec6d5937fe32e7f1f8b4eb53f7f1f85f53cb108448302eb172"), looks := true }, kinds := [], alts := [], goes := true, laidByText := true, laidKinds := [.handle, .data, .pinned, .pinned], laidTests := true, laidLooks := .later }
def BeatsCardSaid : Prop := Claim7.holds Tryz.pinned (.plain (OpenSpec.ofChange beatsSpec)) beatsCard

/-- THE TIED CARD OF 'queuewirelaw.Greets'. -/
def greetsCard : Claim7 := { stood := { row := greetsRow, standIns := [], harness := (true, "3c310d2ca3cb1cec6d5937fe32e7f1f8b4eb53f7f1f85f53cb108448302eb172"), looks := true }, kinds := [], alts := [], goes := true, laidByText := true, laidKinds := [.handle, .data, .pinned, .pinned], laidTests := true, laidLooks := .later }
def GreetsCardSaid : Prop := Claim7.holds Tryz.pinned (.plain (OpenSpec.ofChange greetsSpec)) greetsCard

/-- THE TIED CARD OF 'queuewirelaw.Gets'. -/
def getsCard : Claim7 := { stood := { row := getsRow, standIns := [], harness := (true, "3c310d2ca3cb1cec6d5937fe32e7f1f8b4eb53f7f1f85f53cb108448302eb172"), looks := true }, kinds := [], alts := [], goes := true, laidByText := true, laidKinds := [.handle, .data, .pinned, .pinned], laidTests := true, laidLooks := .later }
def GetsCardSaid : Prop := Claim7.holds Tryz.pinned (.plain (OpenSpec.ofChange getsSpec)) getsCard

/-- THE TIED CARD OF 'queuewirelaw.Consumes'. -/
def consumesCard : Claim7 := { stood := { row := consumesRow, standIns := [], harness := (true, "3c310d2ca3cb1cec6d5937fe32e7f1f8b4eb53f7f1f85f53cb108448302eb172"), looks := true }, kinds := [], alts := [], goes := true, laidByText := true, laidKinds := [.handle, .data, .pinned, .pinned], laidTests := true, laidLooks := .later }
def ConsumesCardSaid : Prop := Claim7.holds Tryz.pinned (.plain (OpenSpec.ofChange consumesSpec)) consumesCard

/-- THE TIED CARD OF 'queuewirelaw.All'. -/
def allCard : Claim7 := { stood := { row := allRow, standIns := [], harness := (true, "3c310d2ca3cb1cec6d5937fe32e7f1f8b4eb53f7f1f85f53cb108448302eb172"), looks := true }, kinds := [], alts := [], goes := true, laidByText := true, laidKinds := [.handle, .data, .pinned, .pinned], laidTests := true, laidLooks := .later }
def AllCardSaid : Prop := Claim7.holds Tryz.pinned (.plain (OpenSpec.ofChange allSpec)) allCard

/-- THE SECOND FORM's CARD OF 'queuewirekeep.Kept'. -/
def keptUptoCard : Claim7 := { stood := { row := keptUptoRow, standIns := [], harness := (true, "3c310d2ca3cb1cec6d5937fe32e7f1f8b4eb53f7f1f85f53cb108448302eb172"), looks := true }, kinds := [], alts := [], goes := true, laidByText := true, laidKinds := [.handle, .data, .pinned, .pinned], laidTests := true, laidLooks := .later }
def KeptUptoCardSaid : Prop := Claim7.holds Tryz.pinned (.plain (OpenSpec.upto keptSpec)) keptUptoCard

/-- THE SECOND FORM's CARD OF 'queuewirekeep.Fairly'. -/
def fairlyUptoCard : Claim7 := { stood := { row := fairlyUptoRow, standIns := [], harness := (true, "3c310d2ca3cb1cec6d5937fe32e7f1f8b4eb53f7f1f85f53cb108448302eb172"), looks := true }, kinds := [], alts := [], goes := true, laidByText := true, laidKinds := [.handle, .data, .pinned, .pinned], laidTests := true, laidLooks := .later }
def FairlyUptoCardSaid : Prop := Claim7.holds Tryz.pinned (.plain (OpenSpec.upto fairlySpec)) fairlyUptoCard

/-- THE SECOND FORM's CARD OF 'queuewirekeep.Again'. -/
def againUptoCard : Claim7 := { stood := { row := againUptoRow, standIns := [], harness := (true, "3c310d2ca3cb1cec6d5937fe32e7f1f8b4eb53f7f1f85f53cb108448302eb172"), looks := true }, kinds := [], alts := [], goes := true, laidByText := true, laidKinds := [.handle, .data, .pinned, .pinned], laidTests := true, laidLooks := .later }
def AgainUptoCardSaid : Prop := Claim7.holds Tryz.pinned (.plain (OpenSpec.upto againSpec)) againUptoCard

/-- THE SECOND FORM's CARD OF 'queuewirekeep.Framed'. -/
def framedUptoCard : Claim7 := { stood := { row := framedUptoRow, standIns := [], harness := (true, "3c310d2ca3cb1cec6d5937fe32e7f1f8b4eb53f7f1f85f53cb108448302eb172"), looks := true }, kinds := [], alts := [], goes := true, laidByText := true, laidKinds := [.handle, .data, .pinned, .pinned], laidTests := true, laidLooks := .later }
def FramedUptoCardSaid : Prop := Claim7.holds Tryz.pinned (.plain (OpenSpec.upto framedSpec)) framedUptoCard

/-- THE SECOND FORM's CARD OF 'queuewirekeep.Cut'. -/
def cutUptoCard : Claim7 := { stood := { row := cutUptoRow, standIns := [], harness := (true, "3c310d2ca3cb1cec6d5937fe32e7f1f8b4eb53f7f1f85f53cb108448302eb172"), looks := true }, kinds := [], alts := [], goes := true, laidByText := true, laidKinds := [.handle, .data, .pinned, .pinned], laidTests := true, laidLooks := .later }
def CutUptoCardSaid : Prop := Claim7.holds Tryz.pinned (.plain (OpenSpec.upto cutSpec)) cutUptoCard

/-- THE SECOND FORM's CARD OF 'queuewirekeep.Beats'. -/
def beatsUptoCard : Claim7 := { stood := { row := beatsUptoRow, standIns := [], harness := (true, "3c310d2ca3cb1cec6d5937fe32e7f1f8b4eb53f7f1f85f53cb108448302eb172"), looks := true }, kinds := [], alts := [], goes := true, laidByText := true, laidKinds := [.handle, .data, .pinned, .pinned], laidTests := true, laidLooks := .later }
def BeatsUptoCardSaid : Prop := Claim7.holds Tryz.pinned (.plain (OpenSpec.upto beatsSpec)) beatsUptoCard

/-- THE SECOND FORM's CARD OF 'queuewirelaw.Greets'. -/
def greetsUptoCard : Claim7 := { stood := { row := greetsUptoRow, standIns := [], harness := (true, "3c310d2ca3cb1cec6d5937fe32e7f1f8b4eb53f7f1f85f53cb108448302eb172"), looks := true }, kinds := [], alts := [], goes := true, laidByText := true, laidKinds := [.handle, .data, .pinned, .pinned], laidTests := true, laidLooks := .later }
def GreetsUptoCardSaid : Prop := Claim7.holds Tryz.pinned (.plain (OpenSpec.upto greetsSpec)) greetsUptoCard

/-- THE SECOND FORM's CARD OF 'queuewirelaw.Gets'. -/
def getsUptoCard : Claim7 := { stood := { row := getsUptoRow, standIns := [], harness := (true, "3c310d2ca3cb1cec6d5937fe32e7f1f8b4eb53f7f1f85f53cb108448302eb172"), looks := true }, kinds := [], alts := [], goes := true, laidByText := true, laidKinds := [.handle, .data, .pinned, .pinned], laidTests := true, laidLooks := .later }
def GetsUptoCardSaid : Prop := Claim7.holds Tryz.pinned (.plain (OpenSpec.upto getsSpec)) getsUptoCard

/-- THE SECOND FORM's CARD OF 'queuewirelaw.Consumes'. -/
def consumesUptoCard : Claim7 := { stood := { row := consumesUptoRow, standIns := [], harness := (true, "3c310d2ca3cb1cec6d5937fe32e7f1f8b4eb53f7f1f85f53cb108448302eb172"), looks := true }, kinds := [], alts := [], goes := true, laidByText := true, laidKinds := [.handle, .data, .pinned, .pinned], laidTests := true, laidLooks := .later }
def ConsumesUptoCardSaid : Prop := Claim7.holds Tryz.pinned (.plain (OpenSpec.upto consumesSpec)) consumesUptoCard

/-- THE SECOND FORM's CARD OF 'queuewirelaw.All'. -/
def allUptoCard : Claim7 := { stood := { row := allUptoRow, standIns := [], harness := (true, "3c310d2ca3cb1cec6d5937fe32e7f1f8b4eb53f7f1f85f53cb108448302eb172"), looks := true }, kinds := [], alts := [], goes := true, laidByText := true, laidKinds := [.handle, .data, .pinned, .pinned], laidTests := true, laidLooks := .later }
def AllUptoCardSaid : Prop := Claim7.holds Tryz.pinned (.plain (OpenSpec.upto allSpec)) allUptoCard
end Rows
end Go.Proofs.YtpiabknabfbfhaaGreatDoor
