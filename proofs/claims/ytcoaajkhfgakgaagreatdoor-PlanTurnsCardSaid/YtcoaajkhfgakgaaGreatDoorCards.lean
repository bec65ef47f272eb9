/-
  DERIVED. GIVEN WITH THE SEED: THE CARDS: each row of YtcoaajkhfgakgaaGreatDoorRows.lean that lists a variable, with what it lists TIED to the program's text (the seventh form; the later family's looks); each row that meets fmt, with fmt's text TOLD by the authors' own Lean function (tested against real Go, not proved from fmt's source: count such statements apart). THE CARD IS WHAT COUNTS. Prove the row's statement (the work); the ties are given (YtcoaajkhfgakgaaGreatDoorTie.lean); close each card by the builder's one call (the guide's Derived/Test/ToyasCard.lean, 'card_holds'). Laid BY PROGRAM, IN A SANDBOX (cutbox-door.mjs). By AI agents, Wed Nov 11 2026. No macro, syntax, notation, axiom, sorry.
-/
import Derived.Test.YtcoaajkhfgakgaaGreatDoorRows
import GoSem.ClaimSeven
namespace Go.Proofs.YtcoaajkhfgakgaaGreatDoor
namespace Rows

/-- THE TIED CARD OF 'pantrylaw10.PlanDiffs'. -/
def planDiffsCard : Claim7 := { stood := { row := planDiffsRow, standIns := [], harness := (true, "6556534181a1bbbe5b9507b09b196ec2080d2e92298f5bde59fb0e0f6881a1a5"), looks := true }, kinds := [], alts := [], laidByText := true, laidKinds := [.data, .data, .data, .data, .sentinel, .sentinel, .pinned], laidTests := true, laidLooks := .later }
def PlanDiffsCardSaid : Prop := Claim7.holds Tryz.pinned (.plain (OpenSpec.ofChange planDiffsSpec)) planDiffsCard

/-- THE TIED CARD OF 'pantrylaw10.PlanTurns'. -/
def planTurnsCard : Claim7 := { stood := { row := planTurnsRow, standIns := [], harness := (true, "6556534181a1bbbe5b9507b09b196ec2080d2e92298f5bde59fb0e0f6881a1a5"), looks := true }, kinds := [], alts := [], laidByText := true, laidKinds := [.data, .data, .data, .data, .sentinel, .sentinel, .pinned], laidTests := true, laidLooks := .later }
def PlanTurnsCardSaid : Prop := Claim7.holds Tryz.pinned (.plain (OpenSpec.ofChange planTurnsSpec)) planTurnsCard

/-- THE TIED CARD OF 'pantrylaw09.ConfReads'. -/
def confReadsCard : Claim7 := { stood := { row := confReadsRow, standIns := [], harness := (true, "6556534181a1bbbe5b9507b09b196ec2080d2e92298f5bde59fb0e0f6881a1a5"), looks := true }, kinds := [], alts := [], laidByText := true, laidKinds := [.data, .data, .data, .data, .sentinel, .sentinel, .pinned], laidTests := true, laidLooks := .later }
def ConfReadsCardSaid : Prop := Claim7.holds Tryz.pinned (.plain (OpenSpec.ofChange confReadsSpec)) confReadsCard

/-- THE TIED CARD OF 'pantrylaw09.ConfShows'. -/
def confShowsCard : Claim7 := { stood := { row := confShowsRow, standIns := [], harness := (true, "6556534181a1bbbe5b9507b09b196ec2080d2e92298f5bde59fb0e0f6881a1a5"), looks := true }, kinds := [], alts := [], laidByText := true, laidKinds := [.data, .data, .data, .data, .sentinel, .sentinel, .pinned], laidTests := true, laidLooks := .later }
def ConfShowsCardSaid : Prop := Claim7.holds Tryz.pinned (.plain (OpenSpec.ofChange confShowsSpec)) confShowsCard

/-- THE TIED CARD OF 'pantrylaw10.PlanNexts'. -/
def planNextsCard : Claim7 := { stood := { row := planNextsRow, standIns := [], harness := (true, "6556534181a1bbbe5b9507b09b196ec2080d2e92298f5bde59fb0e0f6881a1a5"), looks := true }, kinds := [], alts := [], laidByText := true, laidKinds := [.data, .data, .data, .data, .sentinel, .sentinel, .pinned], laidTests := true, laidLooks := .later }
def PlanNextsCardSaid : Prop := Claim7.holds Tryz.pinned (.plain (OpenSpec.ofChange planNextsSpec)) planNextsCard

/-- THE TIED CARD OF 'pantrylaw10.PlanBack'. -/
def planBackCard : Claim7 := { stood := { row := planBackRow, standIns := [], harness := (true, "6556534181a1bbbe5b9507b09b196ec2080d2e92298f5bde59fb0e0f6881a1a5"), looks := true }, kinds := [], alts := [], laidByText := true, laidKinds := [.data, .data, .data, .data, .sentinel, .sentinel, .pinned], laidTests := true, laidLooks := .later }
def PlanBackCardSaid : Prop := Claim7.holds Tryz.pinned (.plain (OpenSpec.ofChange planBackSpec)) planBackCard

/-- THE TIED CARD OF 'pantrylaw10.PlanServes'. -/
def planServesCard : Claim7 := { stood := { row := planServesRow, standIns := [], harness := (true, "6556534181a1bbbe5b9507b09b196ec2080d2e92298f5bde59fb0e0f6881a1a5"), looks := true }, kinds := [], alts := [], laidByText := true, laidKinds := [.data, .data, .data, .data, .sentinel, .sentinel, .pinned], laidTests := true, laidLooks := .later }
def PlanServesCardSaid : Prop := Claim7.holds Tryz.pinned (.plain (OpenSpec.ofChange planServesSpec)) planServesCard

/-- THE SECOND FORM's CARD OF 'pantrylaw10.PlanDiffs'. -/
def planDiffsUptoCard : Claim7 := { stood := { row := planDiffsUptoRow, standIns := [], harness := (true, "6556534181a1bbbe5b9507b09b196ec2080d2e92298f5bde59fb0e0f6881a1a5"), looks := true }, kinds := [], alts := [], laidByText := true, laidKinds := [.data, .data, .data, .data, .sentinel, .sentinel, .pinned], laidTests := true, laidLooks := .later }
def PlanDiffsUptoCardSaid : Prop := Claim7.holds Tryz.pinned (.plain (OpenSpec.upto planDiffsSpec)) planDiffsUptoCard

/-- THE SECOND FORM's CARD OF 'pantrylaw10.PlanTurns'. -/
def planTurnsUptoCard : Claim7 := { stood := { row := planTurnsUptoRow, standIns := [], harness := (true, "6556534181a1bbbe5b9507b09b196ec2080d2e92298f5bde59fb0e0f6881a1a5"), looks := true }, kinds := [], alts := [], laidByText := true, laidKinds := [.data, .data, .data, .data, .sentinel, .sentinel, .pinned], laidTests := true, laidLooks := .later }
def PlanTurnsUptoCardSaid : Prop := Claim7.holds Tryz.pinned (.plain (OpenSpec.upto planTurnsSpec)) planTurnsUptoCard

/-- THE SECOND FORM's CARD OF 'pantrylaw09.ConfReads'. -/
def confReadsUptoCard : Claim7 := { stood := { row := confReadsUptoRow, standIns := [], harness := (true, "6556534181a1bbbe5b9507b09b196ec2080d2e92298f5bde59fb0e0f6881a1a5"), looks := true }, kinds := [], alts := [], laidByText := true, laidKinds := [.data, .data, .data, .data, .sentinel, .sentinel, .pinned], laidTests := true, laidLooks := .later }
def ConfReadsUptoCardSaid : Prop := Claim7.holds Tryz.pinned (.plain (OpenSpec.upto confReadsSpec)) confReadsUptoCard

/-- THE SECOND FORM's CARD OF 'pantrylaw09.ConfShows'. -/
def confShowsUptoCard : Claim7 := { stood := { row := confShowsUptoRow, standIns := [], harness := (true, "6556534181a1bbbe5b9507b09b196ec2080d2e92298f5bde59fb0e0f6881a1a5"), looks := true }, kinds := [], alts := [], laidByText := true, laidKinds := [.data, .data, .data, .data, .sentinel, .sentinel, .pinned], laidTests := true, laidLooks := .later }
def ConfShowsUptoCardSaid : Prop := Claim7.holds Tryz.pinned (.plain (OpenSpec.upto confShowsSpec)) confShowsUptoCard

/-- THE SECOND FORM's CARD OF 'pantrylaw10.PlanNexts'. -/
def planNextsUptoCard : Claim7 := { stood := { row := planNextsUptoRow, standIns := [], harness := (true, "6556534181a1bbbe5b9507b09b196ec2080d2e92298f5bde59fb0e0f6881a1a5"), looks := true }, kinds := [], alts := [], laidByText := true, laidKinds := [.data, .data, .data, .data, .sentinel, .sentinel, .pinned], laidTests := true, laidLooks := .later }
def PlanNextsUptoCardSaid : Prop := Claim7.holds Tryz.pinned (.plain (OpenSpec.upto planNextsSpec)) planNextsUptoCard

/-- THE SECOND FORM's CARD OF 'pantrylaw10.PlanBack'. -/
def planBackUptoCard : Claim7 := { stood := { row := planBackUptoRow, standIns := [], harness := (true, "6556534181a1bbbe5b9507b09b196ec2080d2e92298f5bde59fb0e0f6881a1a5"), looks := true }, kinds := [], alts := [], laidByText := true, laidKinds := [.data, .data, .data, .data, .sentinel, .sentinel, .pinned], laidTests := true, laidLooks := .later }
def PlanBackUptoCardSaid : Prop := Claim7.holds Tryz.pinned (.plain (OpenSpec.upto planBackSpec)) planBackUptoCard

/-- THE SECOND FORM's CARD OF 'pantrylaw10.PlanServes'. -/
def planServesUptoCard : Claim7 := { stood := { row := planServesUptoRow, standIns := [], harness := (true, "6556534181a1bbbe5b9507b09b196ec2080d2e92298f5bde59fb0e0f6881a1a5"), looks := true }, kinds := [], alts := [], laidByText := true, laidKinds := [.data, .data, .data, .data, .sentinel, .sentinel, .pinned], laidTests := true, laidLooks := .later }
def PlanServesUptoCardSaid : Prop := Claim7.holds Tryz.pinned (.plain (OpenSpec.upto planServesSpec)) planServesUptoCard
end Rows
end Go.Proofs.YtcoaajkhfgakgaaGreatDoor
