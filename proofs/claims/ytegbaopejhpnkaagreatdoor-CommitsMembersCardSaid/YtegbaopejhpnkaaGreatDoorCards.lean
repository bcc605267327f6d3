/-
  DERIVED. GIVEN WITH THE SEED: THE CARDS: each row of YtegbaopejhpnkaaGreatDoorRows.lean that lists a variable, with what it lists TIED to the program's text (the seventh form; the later family's looks); each row that meets fmt, with fmt's text TOLD by the authors' own Lean function (tested against real Go, not proved from fmt's source: count such statements apart). THE CARD IS WHAT COUNTS. Prove the row's statement (the work); the ties are given (YtegbaopejhpnkaaGreatDoorTie.lean); close each card by the builder's one call (the guide's Derived/Test/ToyasCard.lean, 'card_holds'). Laid BY PROGRAM, IN A SANDBOX (cutbox-door.mjs). By AI agents, Wed Nov 11 2026. No macro, syntax, notation, axiom, sorry.
-/
import Derived.Test.YtegbaopejhpnkaaGreatDoorRows
import GoSem.ClaimSeven
namespace Go.Proofs.YtegbaopejhpnkaaGreatDoor
namespace Rows

/-- THE TIED CARD OF 'chartroomlaw23.CommitsMembers'. -/
def commitsMembersCard : Claim7 := { stood := { row := commitsMembersRow, standIns := [], harness := (true, "4f65596da1f949934878db419383ba01336626e2ab67691002b1d4474f12e5d5"), looks := true }, kinds := [], alts := [], laidByText := true, laidKinds := [.data, .data, .sentinel, .widerDeep, .data], laidTests := true, laidLooks := .later }
def CommitsMembersCardSaid : Prop := Claim7.holds Tryz.pinned (.plain (OpenSpec.ofChange commitsMembersSpec)) commitsMembersCard

/-- THE TIED CARD OF 'chartroomlaw23.CommitsBack'. -/
def commitsBackCard : Claim7 := { stood := { row := commitsBackRow, standIns := [], harness := (true, "4f65596da1f949934878db419383ba01336626e2ab67691002b1d4474f12e5d5"), looks := true }, kinds := [], alts := [], laidByText := true, laidKinds := [.data, .data, .sentinel, .widerDeep, .data], laidTests := true, laidLooks := .later }
def CommitsBackCardSaid : Prop := Claim7.holds Tryz.pinned (.plain (OpenSpec.ofChange commitsBackSpec)) commitsBackCard

/-- THE TIED CARD OF 'chartroomlaw23.CommitsMade'. -/
def commitsMadeCard : Claim7 := { stood := { row := commitsMadeRow, standIns := [], harness := (true, "4f65596da1f949934878db419383ba01336626e2ab67691002b1d4474f12e5d5"), looks := true }, kinds := [], alts := [], laidByText := true, laidKinds := [.data, .data, .sentinel, .widerDeep, .data], laidTests := true, laidLooks := .later }
def CommitsMadeCardSaid : Prop := Claim7.holds Tryz.pinned (.plain (OpenSpec.ofChange commitsMadeSpec)) commitsMadeCard

/-- THE TIED CARD OF 'chartroomlaw23.CommitsOpened'. -/
def commitsOpenedCard : Claim7 := { stood := { row := commitsOpenedRow, standIns := [], harness := (true, "4f65596da1f949934878db419383ba01336626e2ab67691002b1d4474f12e5d5"), looks := true }, kinds := [], alts := [], laidByText := true, laidKinds := [.data, .data, .sentinel, .widerDeep, .data], laidTests := true, laidLooks := .later }
def CommitsOpenedCardSaid : Prop := Claim7.holds Tryz.pinned (.plain (OpenSpec.ofChange commitsOpenedSpec)) commitsOpenedCard

/-- THE TIED CARD OF 'chartroomlaw23.CommitsReach'. -/
def commitsReachCard : Claim7 := { stood := { row := commitsReachRow, standIns := [], harness := (true, "4f65596da1f949934878db419383ba01336626e2ab67691002b1d4474f12e5d5"), looks := true }, kinds := [], alts := [], laidByText := true, laidKinds := [.data, .data, .sentinel, .widerDeep, .data], laidTests := true, laidLooks := .later }
def CommitsReachCardSaid : Prop := Claim7.holds Tryz.pinned (.plain (OpenSpec.ofChange commitsReachSpec)) commitsReachCard

/-- THE SECOND FORM's CARD OF 'chartroomlaw23.CommitsMembers'. -/
def commitsMembersUptoCard : Claim7 := { stood := { row := commitsMembersUptoRow, standIns := [], harness := (true, "4f65596da1f949934878db419383ba01336626e2ab67691002b1d4474f12e5d5"), looks := true }, kinds := [], alts := [], laidByText := true, laidKinds := [.data, .data, .sentinel, .widerDeep, .data], laidTests := true, laidLooks := .later }
def CommitsMembersUptoCardSaid : Prop := Claim7.holds Tryz.pinned (.plain (OpenSpec.upto commitsMembersSpec)) commitsMembersUptoCard

/-- THE SECOND FORM's CARD OF 'chartroomlaw23.CommitsBack'. -/
def commitsBackUptoCard : Claim7 := { stood := { row := commitsBackUptoRow, standIns := [], harness := (true, "4f65596da1f949934878db419383ba01336626e2ab67691002b1d4474f12e5d5"), looks := true }, kinds := [], alts := [], laidByText := true, laidKinds := [.data, .data, .sentinel, .widerDeep, .data], laidTests := true, laidLooks := .later }
def CommitsBackUptoCardSaid : Prop := Claim7.holds Tryz.pinned (.plain (OpenSpec.upto commitsBackSpec)) commitsBackUptoCard

/-- THE SECOND FORM's CARD OF 'chartroomlaw23.CommitsMade'. -/
def commitsMadeUptoCard : Claim7 := { stood := { row := commitsMadeUptoRow, standIns := [], harness := (true, "4f65596da1f949934878db419383ba01336626e2ab67691002b1d4474f12e5d5"), looks := true }, kinds := [], alts := [], laidByText := true, laidKinds := [.data, .data, .sentinel, .widerDeep, .data], laidTests := true, laidLooks := .later }
def CommitsMadeUptoCardSaid : Prop := Claim7.holds Tryz.pinned (.plain (OpenSpec.upto commitsMadeSpec)) commitsMadeUptoCard

/-- THE SECOND FORM's CARD OF 'chartroomlaw23.CommitsOpened'. -/
def commitsOpenedUptoCard : Claim7 := { stood := { row := commitsOpenedUptoRow, standIns := [], harness := (true, "4f65596da1f949934878db419383ba01336626e2ab67691002b1d4474f12e5d5"), looks := true }, kinds := [], alts := [], laidByText := true, laidKinds := [.data, .data, .sentinel, .widerDeep, .data], laidTests := true, laidLooks := .later }
def CommitsOpenedUptoCardSaid : Prop := Claim7.holds Tryz.pinned (.plain (OpenSpec.upto commitsOpenedSpec)) commitsOpenedUptoCard

/-- THE SECOND FORM's CARD OF 'chartroomlaw23.CommitsReach'. -/
def commitsReachUptoCard : Claim7 := { stood := { row := commitsReachUptoRow, standIns := [], harness := (true, "4f65596da1f949934878db419383ba01336626e2ab67691002b1d4474f12e5d5"), looks := true }, kinds := [], alts := [], laidByText := true, laidKinds := [.data, .data, .sentinel, .widerDeep, .data], laidTests := true, laidLooks := .later }
def CommitsReachUptoCardSaid : Prop := Claim7.holds Tryz.pinned (.plain (OpenSpec.upto commitsReachSpec)) commitsReachUptoCard
end Rows
end Go.Proofs.YtegbaopejhpnkaaGreatDoor
