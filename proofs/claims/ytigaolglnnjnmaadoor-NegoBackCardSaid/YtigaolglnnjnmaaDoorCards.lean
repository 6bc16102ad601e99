/-
  DERIVED. GIVEN WITH THE SEED: THE CARDS: each row of YtigaolglnnjnmaaDoorRows.lean that lists a variable, with what it lists TIED to the program's text (the seventh form; the later family's looks); each row that meets fmt, with fmt's text TOLD by the authors' own Lean function (tested against real Go, not proved from fmt's source: count such statements apart). THE CARD IS WHAT COUNTS. Prove the row's statement (the work); the ties are given (YtigaolglnnjnmaaDoorTie.lean); close each card by the builder's one call (the guide's Derived/Test/ToyasCard.lean, 'card_holds'). Laid BY PROGRAM, IN A SANDBOX (cutbox-door.mjs). By AI agents, Wed Nov 11 2026. No macro, syntax, notation, axiom, sorry.
-/
import Derived.Test.YtigaolglnnjnmaaDoorRows
import GoSem.ClaimSeven
namespace Go.Proofs.YtigaolglnnjnmaaDoor
namespace Rows

/-- THE TIED CARD OF 'strongroomlaw13.PathNumbers'. -/
def pathNumbersCard : Claim7 := { stood := { row := pathNumbersRow, standIns := [], harness := (true, "19c8f3ae40e27e7d133133c477e2d6d50647691c3d24ea8e52591f2f610bb39b"), looks := false }, kinds := [], alts := [], laidByText := true, laidKinds := [.data, .pinned], laidTests := true, laidLooks := .later }
def PathNumbersCardSaid : Prop := Claim7.holds Tryd.pinned (.plain (OpenSpec.ofChange pathNumbersSpec)) pathNumbersCard

/-- THE TIED CARD OF 'strongroomlaw13.PathTells'. -/
def pathTellsCard : Claim7 := { stood := { row := pathTellsRow, standIns := [], harness := (true, "19c8f3ae40e27e7d133133c477e2d6d50647691c3d24ea8e52591f2f610bb39b"), looks := false }, kinds := [], alts := [], laidByText := true, laidKinds := [.data, .pinned], laidTests := true, laidLooks := .later }
def PathTellsCardSaid : Prop := Claim7.holds Tryd.pinned (.plain (OpenSpec.ofChange pathTellsSpec)) pathTellsCard

/-- THE TIED CARD OF 'strongroomlaw13.PathRules'. -/
def pathRulesCard : Claim7 := { stood := { row := pathRulesRow, standIns := [], harness := (true, "19c8f3ae40e27e7d133133c477e2d6d50647691c3d24ea8e52591f2f610bb39b"), looks := false }, kinds := [], alts := [], laidByText := true, laidKinds := [.data, .pinned], laidTests := true, laidLooks := .later }
def PathRulesCardSaid : Prop := Claim7.holds Tryd.pinned (.plain (OpenSpec.ofChange pathRulesSpec)) pathRulesCard

/-- THE TIED CARD OF 'strongroomlaw13.PathNames'. -/
def pathNamesCard : Claim7 := { stood := { row := pathNamesRow, standIns := [], harness := (true, "19c8f3ae40e27e7d133133c477e2d6d50647691c3d24ea8e52591f2f610bb39b"), looks := false }, kinds := [], alts := [], laidByText := true, laidKinds := [.data, .pinned], laidTests := true, laidLooks := .later }
def PathNamesCardSaid : Prop := Claim7.holds Tryd.pinned (.plain (OpenSpec.ofChange pathNamesSpec)) pathNamesCard

/-- THE TIED CARD OF 'strongroomlaw13.PathDots'. -/
def pathDotsCard : Claim7 := { stood := { row := pathDotsRow, standIns := [], harness := (true, "19c8f3ae40e27e7d133133c477e2d6d50647691c3d24ea8e52591f2f610bb39b"), looks := false }, kinds := [], alts := [], laidByText := true, laidKinds := [.data, .pinned], laidTests := true, laidLooks := .later }
def PathDotsCardSaid : Prop := Claim7.holds Tryd.pinned (.plain (OpenSpec.ofChange pathDotsSpec)) pathDotsCard

/-- THE TIED CARD OF 'strongroomlaw9.NegoBack'. -/
def negoBackCard : Claim7 := { stood := { row := negoBackRow, standIns := [], harness := (true, "19c8f3ae40e27e7d133133c477e2d6d50647691c3d24ea8e52591f2f610bb39b"), looks := false }, kinds := [], alts := [], laidByText := true, laidKinds := [.data, .pinned], laidTests := true, laidLooks := .later }
def NegoBackCardSaid : Prop := Claim7.holds Tryd.pinned (.plain (OpenSpec.ofChange negoBackSpec)) negoBackCard

/-- THE TIED CARD OF 'strongroomlaw9.NegoCuts'. -/
def negoCutsCard : Claim7 := { stood := { row := negoCutsRow, standIns := [], harness := (true, "19c8f3ae40e27e7d133133c477e2d6d50647691c3d24ea8e52591f2f610bb39b"), looks := false }, kinds := [], alts := [], laidByText := true, laidKinds := [.data, .pinned], laidTests := true, laidLooks := .later }
def NegoCutsCardSaid : Prop := Claim7.holds Tryd.pinned (.plain (OpenSpec.ofChange negoCutsSpec)) negoCutsCard

/-- THE SECOND FORM's CARD OF 'strongroomlaw13.PathNumbers'. -/
def pathNumbersUptoCard : Claim7 := { stood := { row := pathNumbersUptoRow, standIns := [], harness := (true, "19c8f3ae40e27e7d133133c477e2d6d50647691c3d24ea8e52591f2f610bb39b"), looks := false }, kinds := [], alts := [], laidByText := true, laidKinds := [.data, .pinned], laidTests := true, laidLooks := .later }
def PathNumbersUptoCardSaid : Prop := Claim7.holds Tryd.pinned (.plain (OpenSpec.upto pathNumbersSpec)) pathNumbersUptoCard

/-- THE SECOND FORM's CARD OF 'strongroomlaw13.PathTells'. -/
def pathTellsUptoCard : Claim7 := { stood := { row := pathTellsUptoRow, standIns := [], harness := (true, "19c8f3ae40e27e7d133133c477e2d6d50647691c3d24ea8e52591f2f610bb39b"), looks := false }, kinds := [], alts := [], laidByText := true, laidKinds := [.data, .pinned], laidTests := true, laidLooks := .later }
def PathTellsUptoCardSaid : Prop := Claim7.holds Tryd.pinned (.plain (OpenSpec.upto pathTellsSpec)) pathTellsUptoCard

/-- THE SECOND FORM's CARD OF 'strongroomlaw13.PathRules'. -/
def pathRulesUptoCard : Claim7 := { stood := { row := pathRulesUptoRow, standIns := [], harness := (true, "19c8f3ae40e27e7d133133c477e2d6d50647691c3d24ea8e52591f2f610bb39b"), looks := false }, kinds := [], alts := [], laidByText := true, laidKinds := [.data, .pinned], laidTests := true, laidLooks := .later }
def PathRulesUptoCardSaid : Prop := Claim7.holds Tryd.pinned (.plain (OpenSpec.upto pathRulesSpec)) pathRulesUptoCard

/-- THE SECOND FORM's CARD OF 'strongroomlaw13.PathNames'. -/
def pathNamesUptoCard : Claim7 := { stood := { row := pathNamesUptoRow, standIns := [], harness := (true, "19c8f3ae40e27e7d133133c477e2d6d50647691c3d24ea8e52591f2f610bb39b"), looks := false }, kinds := [], alts := [], laidByText := true, laidKinds := [.data, .pinned], laidTests := true, laidLooks := .later }
def PathNamesUptoCardSaid : Prop := Claim7.holds Tryd.pinned (.plain (OpenSpec.upto pathNamesSpec)) pathNamesUptoCard

/-- THE SECOND FORM's CARD OF 'strongroomlaw13.PathDots'. -/
def pathDotsUptoCard : Claim7 := { stood := { row := pathDotsUptoRow, standIns := [], harness := (true, "19c8f3ae40e27e7d133133c477e2d6d50647691c3d24ea8e52591f2f610bb39b"), looks := false }, kinds := [], alts := [], laidByText := true, laidKinds := [.data, .pinned], laidTests := true, laidLooks := .later }
def PathDotsUptoCardSaid : Prop := Claim7.holds Tryd.pinned (.plain (OpenSpec.upto pathDotsSpec)) pathDotsUptoCard

/-- THE SECOND FORM's CARD OF 'strongroomlaw9.NegoBack'. -/
def negoBackUptoCard : Claim7 := { stood := { row := negoBackUptoRow, standIns := [], harness := (true, "19c8f3ae40e27e7d133133c477e2d6d50647691c3d24ea8e52591f2f610bb39b"), looks := false }, kinds := [], alts := [], laidByText := true, laidKinds := [.data, .pinned], laidTests := true, laidLooks := .later }
def NegoBackUptoCardSaid : Prop := Claim7.holds Tryd.pinned (.plain (OpenSpec.upto negoBackSpec)) negoBackUptoCard

/-- THE SECOND FORM's CARD OF 'strongroomlaw9.NegoCuts'. -/
def negoCutsUptoCard : Claim7 := { stood := { row := negoCutsUptoRow, standIns := [], harness := (true, "19c8f3ae40e27e7d133133c477e2d6d50647691c3d24ea8e52591f2f610bb39b"), looks := false }, kinds := [], alts := [], laidByText := true, laidKinds := [.data, .pinned], laidTests := true, laidLooks := .later }
def NegoCutsUptoCardSaid : Prop := Claim7.holds Tryd.pinned (.plain (OpenSpec.upto negoCutsSpec)) negoCutsUptoCard
end Rows
end Go.Proofs.YtigaolglnnjnmaaDoor
