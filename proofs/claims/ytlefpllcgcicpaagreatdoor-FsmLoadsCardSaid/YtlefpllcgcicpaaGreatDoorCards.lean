/-
  DERIVED. GIVEN WITH THE SEED: THE CARDS: each row of YtlefpllcgcicpaaGreatDoorRows.lean that lists a variable, with what it lists TIED to the program's text (the seventh form; the later family's looks); each row that meets fmt, with fmt's text TOLD by the authors' own Lean function (tested against real Go, not proved from fmt's source: count such statements apart). THE CARD IS WHAT COUNTS. Prove the row's statement (the work); the ties are given (YtlefpllcgcicpaaGreatDoorTie.lean); close each card by the builder's one call (the guide's Derived/Test/ToyasCard.lean, 'card_holds'). Laid BY PROGRAM, IN A SANDBOX (cutbox-door.mjs). By AI agents, Wed Nov 11 2026. No macro, syntax, notation, axiom, sorry.
-/
import Derived.Test.YtlefpllcgcicpaaGreatDoorRows
import GoSem.ClaimSeven
namespace Go.Proofs.YtlefpllcgcicpaaGreatDoor
namespace Rows

/-- THE TIED CARD OF 'strongroomlaw16.FsmLeast'. -/
def fsmLeastCard : Claim7 := { stood := { row := fsmLeastRow, standIns := [], harness := (true, "1190252d3054ffe026a995946064ce46e2fa1c5cbd58be471b838f5ef1fbb0ed"), looks := false }, kinds := [], alts := [], laidByText := true, laidKinds := [.data, .data, .data, .data, .pinned], laidTests := true, laidLooks := .later }
def FsmLeastCardSaid : Prop := Claim7.holds Tryz.pinned (.plain (OpenSpec.ofChange fsmLeastSpec)) fsmLeastCard

/-- THE TIED CARD OF 'strongroomlaw16.FsmDenied'. -/
def fsmDeniedCard : Claim7 := { stood := { row := fsmDeniedRow, standIns := [], harness := (true, "1190252d3054ffe026a995946064ce46e2fa1c5cbd58be471b838f5ef1fbb0ed"), looks := false }, kinds := [], alts := [], laidByText := true, laidKinds := [.data, .data, .data, .data, .pinned], laidTests := true, laidLooks := .later }
def FsmDeniedCardSaid : Prop := Claim7.holds Tryz.pinned (.plain (OpenSpec.ofChange fsmDeniedSpec)) fsmDeniedCard

/-- THE TIED CARD OF 'strongroomlaw16.FsmSessions'. -/
def fsmSessionsCard : Claim7 := { stood := { row := fsmSessionsRow, standIns := [], harness := (true, "1190252d3054ffe026a995946064ce46e2fa1c5cbd58be471b838f5ef1fbb0ed"), looks := false }, kinds := [], alts := [], laidByText := true, laidKinds := [.data, .data, .data, .data, .pinned], laidTests := true, laidLooks := .later }
def FsmSessionsCardSaid : Prop := Claim7.holds Tryz.pinned (.plain (OpenSpec.ofChange fsmSessionsSpec)) fsmSessionsCard

/-- THE TIED CARD OF 'strongroomlaw16.FsmLists'. -/
def fsmListsCard : Claim7 := { stood := { row := fsmListsRow, standIns := [], harness := (true, "1190252d3054ffe026a995946064ce46e2fa1c5cbd58be471b838f5ef1fbb0ed"), looks := false }, kinds := [], alts := [], laidByText := true, laidKinds := [.data, .data, .data, .data, .pinned], laidTests := true, laidLooks := .later }
def FsmListsCardSaid : Prop := Claim7.holds Tryz.pinned (.plain (OpenSpec.ofChange fsmListsSpec)) fsmListsCard

/-- THE TIED CARD OF 'strongroomlaw16.FsmFiles'. -/
def fsmFilesCard : Claim7 := { stood := { row := fsmFilesRow, standIns := [], harness := (true, "1190252d3054ffe026a995946064ce46e2fa1c5cbd58be471b838f5ef1fbb0ed"), looks := false }, kinds := [], alts := [], laidByText := true, laidKinds := [.data, .data, .data, .data, .pinned], laidTests := true, laidLooks := .later }
def FsmFilesCardSaid : Prop := Claim7.holds Tryz.pinned (.plain (OpenSpec.ofChange fsmFilesSpec)) fsmFilesCard

/-- THE TIED CARD OF 'strongroomlaw16.FsmLoads'. -/
def fsmLoadsCard : Claim7 := { stood := { row := fsmLoadsRow, standIns := [], harness := (true, "1190252d3054ffe026a995946064ce46e2fa1c5cbd58be471b838f5ef1fbb0ed"), looks := false }, kinds := [], alts := [], laidByText := true, laidKinds := [.data, .data, .data, .data, .pinned], laidTests := true, laidLooks := .later }
def FsmLoadsCardSaid : Prop := Claim7.holds Tryz.pinned (.plain (OpenSpec.ofChange fsmLoadsSpec)) fsmLoadsCard

/-- THE TIED CARD OF 'strongroomlaw16.FsmPlays'. -/
def fsmPlaysCard : Claim7 := { stood := { row := fsmPlaysRow, standIns := [], harness := (true, "1190252d3054ffe026a995946064ce46e2fa1c5cbd58be471b838f5ef1fbb0ed"), looks := false }, kinds := [], alts := [], laidByText := true, laidKinds := [.data, .data, .data, .data, .pinned], laidTests := true, laidLooks := .later }
def FsmPlaysCardSaid : Prop := Claim7.holds Tryz.pinned (.plain (OpenSpec.ofChange fsmPlaysSpec)) fsmPlaysCard

/-- THE TIED CARD OF 'strongroomlaw16.FsmSmall'. -/
def fsmSmallCard : Claim7 := { stood := { row := fsmSmallRow, standIns := [], harness := (true, "1190252d3054ffe026a995946064ce46e2fa1c5cbd58be471b838f5ef1fbb0ed"), looks := false }, kinds := [], alts := [], laidByText := true, laidKinds := [.data, .data, .data, .data, .pinned], laidTests := true, laidLooks := .later }
def FsmSmallCardSaid : Prop := Claim7.holds Tryz.pinned (.plain (OpenSpec.ofChange fsmSmallSpec)) fsmSmallCard

/-- THE SECOND FORM's CARD OF 'strongroomlaw16.FsmLeast'. -/
def fsmLeastUptoCard : Claim7 := { stood := { row := fsmLeastUptoRow, standIns := [], harness := (true, "1190252d3054ffe026a995946064ce46e2fa1c5cbd58be471b838f5ef1fbb0ed"), looks := false }, kinds := [], alts := [], laidByText := true, laidKinds := [.data, .data, .data, .data, .pinned], laidTests := true, laidLooks := .later }
def FsmLeastUptoCardSaid : Prop := Claim7.holds Tryz.pinned (.plain (OpenSpec.upto fsmLeastSpec)) fsmLeastUptoCard

/-- THE SECOND FORM's CARD OF 'strongroomlaw16.FsmDenied'. -/
def fsmDeniedUptoCard : Claim7 := { stood := { row := fsmDeniedUptoRow, standIns := [], harness := (true, "1190252d3054ffe026a995946064ce46e2fa1c5cbd58be471b838f5ef1fbb0ed"), looks := false }, kinds := [], alts := [], laidByText := true, laidKinds := [.data, .data, .data, .data, .pinned], laidTests := true, laidLooks := .later }
def FsmDeniedUptoCardSaid : Prop := Claim7.holds Tryz.pinned (.plain (OpenSpec.upto fsmDeniedSpec)) fsmDeniedUptoCard

/-- THE SECOND FORM's CARD OF 'strongroomlaw16.FsmSessions'. -/
def fsmSessionsUptoCard : Claim7 := { stood := { row := fsmSessionsUptoRow, standIns := [], harness := (true, "1190252d3054ffe026a995946064ce46e2fa1c5cbd58be471b838f5ef1fbb0ed"), looks := false }, kinds := [], alts := [], laidByText := true, laidKinds := [.data, .data, .data, .data, .pinned], laidTests := true, laidLooks := .later }
def FsmSessionsUptoCardSaid : Prop := Claim7.holds Tryz.pinned (.plain (OpenSpec.upto fsmSessionsSpec)) fsmSessionsUptoCard

/-- THE SECOND FORM's CARD OF 'strongroomlaw16.FsmLists'. -/
def fsmListsUptoCard : Claim7 := { stood := { row := fsmListsUptoRow, standIns := [], harness := (true, "1190252d3054ffe026a995946064ce46e2fa1c5cbd58be471b838f5ef1fbb0ed"), looks := false }, kinds := [], alts := [], laidByText := true, laidKinds := [.data, .data, .data, .data, .pinned], laidTests := true, laidLooks := .later }
def FsmListsUptoCardSaid : Prop := Claim7.holds Tryz.pinned (.plain (OpenSpec.upto fsmListsSpec)) fsmListsUptoCard

/-- THE SECOND FORM's CARD OF 'strongroomlaw16.FsmFiles'. -/
def fsmFilesUptoCard : Claim7 := { stood := { row := fsmFilesUptoRow, standIns := [], harness := (true, "1190252d3054ffe026a995946064ce46e2fa1c5cbd58be471b838f5ef1fbb0ed"), looks := false }, kinds := [], alts := [], laidByText := true, laidKinds := [.data, .data, .data, .data, .pinned], laidTests := true, laidLooks := .later }
def FsmFilesUptoCardSaid : Prop := Claim7.holds Tryz.pinned (.plain (OpenSpec.upto fsmFilesSpec)) fsmFilesUptoCard

/-- THE SECOND FORM's CARD OF 'strongroomlaw16.FsmLoads'. -/
def fsmLoadsUptoCard : Claim7 := { stood := { row := fsmLoadsUptoRow, standIns := [], harness := (true, "1190252d3054ffe026a995946064ce46e2fa1c5cbd58be471b838f5ef1fbb0ed"), looks := false }, kinds := [], alts := [], laidByText := true, laidKinds := [.data, .data, .data, .data, .pinned], laidTests := true, laidLooks := .later }
def FsmLoadsUptoCardSaid : Prop := Claim7.holds Tryz.pinned (.plain (OpenSpec.upto fsmLoadsSpec)) fsmLoadsUptoCard

/-- THE SECOND FORM's CARD OF 'strongroomlaw16.FsmPlays'. -/
def fsmPlaysUptoCard : Claim7 := { stood := { row := fsmPlaysUptoRow, standIns := [], harness := (true, "1190252d3054ffe026a995946064ce46e2fa1c5cbd58be471b838f5ef1fbb0ed"), looks := false }, kinds := [], alts := [], laidByText := true, laidKinds := [.data, .data, .data, .data, .pinned], laidTests := true, laidLooks := .later }
def FsmPlaysUptoCardSaid : Prop := Claim7.holds Tryz.pinned (.plain (OpenSpec.upto fsmPlaysSpec)) fsmPlaysUptoCard

/-- THE SECOND FORM's CARD OF 'strongroomlaw16.FsmSmall'. -/
def fsmSmallUptoCard : Claim7 := { stood := { row := fsmSmallUptoRow, standIns := [], harness := (true, "1190252d3054ffe026a995946064ce46e2fa1c5cbd58be471b838f5ef1fbb0ed"), looks := false }, kinds := [], alts := [], laidByText := true, laidKinds := [.data, .data, .data, .data, .pinned], laidTests := true, laidLooks := .later }
def FsmSmallUptoCardSaid : Prop := Claim7.holds Tryz.pinned (.plain (OpenSpec.upto fsmSmallSpec)) fsmSmallUptoCard
end Rows
end Go.Proofs.YtlefpllcgcicpaaGreatDoor
