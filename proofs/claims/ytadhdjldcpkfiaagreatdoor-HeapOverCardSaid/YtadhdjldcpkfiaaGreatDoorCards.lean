/-
  DERIVED. GIVEN WITH THE SEED: THE CARDS: each row of YtadhdjldcpkfiaaGreatDoorRows.lean that lists a variable, with what it lists TIED to the program's text (the seventh form; the later family's looks); each row that meets fmt, with fmt's text TOLD by the authors' own Lean function (tested against real Go, not proved from fmt's source: count such statements apart). THE CARD IS WHAT COUNTS. Prove the row's statement (the work); the ties are given (YtadhdjldcpkfiaaGreatDoorTie.lean); close each card by the builder's one call (the guide's Derived/Test/ToyasCard.lean, 'card_holds'). Laid BY PROGRAM, IN A SANDBOX (cutbox-door.mjs). By AI agents, Wed Nov 11 2026. No macro, syntax, notation, axiom, sorry.
-/
import Derived.Test.YtadhdjldcpkfiaaGreatDoorRows
import GoSem.ClaimSeven
namespace Go.Proofs.YtadhdjldcpkfiaaGreatDoor
namespace Rows

/-- THE TIED CARD OF 'quitrentlaw15.LinkNobody'. -/
def linkNobodyCard : Claim7 := { stood := { row := linkNobodyRow, standIns := [], harness := (true, "4c2275c1c010577abc47fda388c66eaec63e8ed0fb824dddb20223330ec9ae2e"), looks := false }, kinds := [], alts := [], laidByText := true, laidKinds := [.data], laidTests := true, laidLooks := .later }
def LinkNobodyCardSaid : Prop := Claim7.holds Tryz.pinned (.plain (OpenSpec.ofChange linkNobodySpec)) linkNobodyCard

/-- THE TIED CARD OF 'quitrentlaw16.TallyNobody'. -/
def tallyNobodyCard : Claim7 := { stood := { row := tallyNobodyRow, standIns := [], harness := (true, "4c2275c1c010577abc47fda388c66eaec63e8ed0fb824dddb20223330ec9ae2e"), looks := false }, kinds := [], alts := [], laidByText := true, laidKinds := [.data], laidTests := true, laidLooks := .later }
def TallyNobodyCardSaid : Prop := Claim7.holds Tryz.pinned (.plain (OpenSpec.ofChange tallyNobodySpec)) tallyNobodyCard

/-- THE TIED CARD OF 'quitrentlaw14.GraveNobody'. -/
def graveNobodyCard : Claim7 := { stood := { row := graveNobodyRow, standIns := [], harness := (true, "4c2275c1c010577abc47fda388c66eaec63e8ed0fb824dddb20223330ec9ae2e"), looks := false }, kinds := [], alts := [], laidByText := true, laidKinds := [.data], laidTests := true, laidLooks := .later }
def GraveNobodyCardSaid : Prop := Claim7.holds Tryz.pinned (.plain (OpenSpec.ofChange graveNobodySpec)) graveNobodyCard

/-- THE TIED CARD OF 'quitrentlaw17.FloodNobody'. -/
def floodNobodyCard : Claim7 := { stood := { row := floodNobodyRow, standIns := [], harness := (true, "4c2275c1c010577abc47fda388c66eaec63e8ed0fb824dddb20223330ec9ae2e"), looks := false }, kinds := [], alts := [], laidByText := true, laidKinds := [.data], laidTests := true, laidLooks := .later }
def FloodNobodyCardSaid : Prop := Claim7.holds Tryz.pinned (.plain (OpenSpec.ofChange floodNobodySpec)) floodNobodyCard

/-- THE TIED CARD OF 'quitrentlaw18.ReapNobody'. -/
def reapNobodyCard : Claim7 := { stood := { row := reapNobodyRow, standIns := [], harness := (true, "4c2275c1c010577abc47fda388c66eaec63e8ed0fb824dddb20223330ec9ae2e"), looks := false }, kinds := [], alts := [], laidByText := true, laidKinds := [.data], laidTests := true, laidLooks := .later }
def ReapNobodyCardSaid : Prop := Claim7.holds Tryz.pinned (.plain (OpenSpec.ofChange reapNobodySpec)) reapNobodyCard

/-- THE TIED CARD OF 'quitrentlaw19.RoundNobody'. -/
def roundNobodyCard : Claim7 := { stood := { row := roundNobodyRow, standIns := [], harness := (true, "4c2275c1c010577abc47fda388c66eaec63e8ed0fb824dddb20223330ec9ae2e"), looks := false }, kinds := [], alts := [], laidByText := true, laidKinds := [.data], laidTests := true, laidLooks := .later }
def RoundNobodyCardSaid : Prop := Claim7.holds Tryz.pinned (.plain (OpenSpec.ofChange roundNobodySpec)) roundNobodyCard

/-- THE TIED CARD OF 'quitrentlaw20.PaceDue'. -/
def paceDueCard : Claim7 := { stood := { row := paceDueRow, standIns := [], harness := (true, "4c2275c1c010577abc47fda388c66eaec63e8ed0fb824dddb20223330ec9ae2e"), looks := false }, kinds := [], alts := [], laidByText := true, laidKinds := [.data], laidTests := true, laidLooks := .later }
def PaceDueCardSaid : Prop := Claim7.holds Tryz.pinned (.plain (OpenSpec.ofChange paceDueSpec)) paceDueCard

/-- THE TIED CARD OF 'quitrentlaw20.PaceNobody'. -/
def paceNobodyCard : Claim7 := { stood := { row := paceNobodyRow, standIns := [], harness := (true, "4c2275c1c010577abc47fda388c66eaec63e8ed0fb824dddb20223330ec9ae2e"), looks := false }, kinds := [], alts := [], laidByText := true, laidKinds := [.data], laidTests := true, laidLooks := .later }
def PaceNobodyCardSaid : Prop := Claim7.holds Tryz.pinned (.plain (OpenSpec.ofChange paceNobodySpec)) paceNobodyCard

/-- THE TIED CARD OF 'quitrentlaw21.HeapNobody'. -/
def heapNobodyCard : Claim7 := { stood := { row := heapNobodyRow, standIns := [], harness := (true, "4c2275c1c010577abc47fda388c66eaec63e8ed0fb824dddb20223330ec9ae2e"), looks := false }, kinds := [], alts := [], laidByText := true, laidKinds := [.data], laidTests := true, laidLooks := .later }
def HeapNobodyCardSaid : Prop := Claim7.holds Tryz.pinned (.plain (OpenSpec.ofChange heapNobodySpec)) heapNobodyCard

/-- THE TIED CARD OF 'quitrentlaw21.HeapFails'. -/
def heapFailsCard : Claim7 := { stood := { row := heapFailsRow, standIns := [], harness := (true, "4c2275c1c010577abc47fda388c66eaec63e8ed0fb824dddb20223330ec9ae2e"), looks := false }, kinds := [], alts := [], laidByText := true, laidKinds := [.data], laidTests := true, laidLooks := .later }
def HeapFailsCardSaid : Prop := Claim7.holds Tryz.pinned (.plain (OpenSpec.ofChange heapFailsSpec)) heapFailsCard

/-- THE TIED CARD OF 'quitrentlaw21.HeapPause'. -/
def heapPauseCard : Claim7 := { stood := { row := heapPauseRow, standIns := [], harness := (true, "4c2275c1c010577abc47fda388c66eaec63e8ed0fb824dddb20223330ec9ae2e"), looks := false }, kinds := [], alts := [], laidByText := true, laidKinds := [.data], laidTests := true, laidLooks := .later }
def HeapPauseCardSaid : Prop := Claim7.holds Tryz.pinned (.plain (OpenSpec.ofChange heapPauseSpec)) heapPauseCard

/-- THE TIED CARD OF 'quitrentlaw21.HeapOver'. -/
def heapOverCard : Claim7 := { stood := { row := heapOverRow, standIns := [], harness := (true, "4c2275c1c010577abc47fda388c66eaec63e8ed0fb824dddb20223330ec9ae2e"), looks := false }, kinds := [], alts := [], laidByText := true, laidKinds := [.data], laidTests := true, laidLooks := .later }
def HeapOverCardSaid : Prop := Claim7.holds Tryz.pinned (.plain (OpenSpec.ofChange heapOverSpec)) heapOverCard

/-- THE TIED CARD OF 'quitrentlaw22.OpDoes'. -/
def opDoesCard : Claim7 := { stood := { row := opDoesRow, standIns := [], harness := (true, "4c2275c1c010577abc47fda388c66eaec63e8ed0fb824dddb20223330ec9ae2e"), looks := false }, kinds := [], alts := [], laidByText := true, laidKinds := [.data, .data], laidTests := true, laidLooks := .later }
def OpDoesCardSaid : Prop := Claim7.holds Tryz.pinned (.plain (OpenSpec.ofChange opDoesSpec)) opDoesCard

/-- THE TIED CARD OF 'quitrentlaw22.OpRuns'. -/
def opRunsCard : Claim7 := { stood := { row := opRunsRow, standIns := [], harness := (true, "4c2275c1c010577abc47fda388c66eaec63e8ed0fb824dddb20223330ec9ae2e"), looks := false }, kinds := [], alts := [], laidByText := true, laidKinds := [.data, .data], laidTests := true, laidLooks := .later }
def OpRunsCardSaid : Prop := Claim7.holds Tryz.pinned (.plain (OpenSpec.ofChange opRunsSpec)) opRunsCard

/-- THE TIED CARD OF 'quitrentlaw22.OpBare'. -/
def opBareCard : Claim7 := { stood := { row := opBareRow, standIns := [], harness := (true, "4c2275c1c010577abc47fda388c66eaec63e8ed0fb824dddb20223330ec9ae2e"), looks := false }, kinds := [], alts := [], laidByText := true, laidKinds := [.data, .data], laidTests := true, laidLooks := .later }
def OpBareCardSaid : Prop := Claim7.holds Tryz.pinned (.plain (OpenSpec.ofChange opBareSpec)) opBareCard

/-- THE TIED CARD OF 'quitrentlaw27.PauseNobody'. -/
def pauseNobodyCard : Claim7 := { stood := { row := pauseNobodyRow, standIns := [], harness := (true, "4c2275c1c010577abc47fda388c66eaec63e8ed0fb824dddb20223330ec9ae2e"), looks := false }, kinds := [], alts := [], laidByText := true, laidKinds := [.data, .data], laidTests := true, laidLooks := .later }
def PauseNobodyCardSaid : Prop := Claim7.holds Tryz.pinned (.plain (OpenSpec.ofChange pauseNobodySpec)) pauseNobodyCard

/-- THE SECOND FORM's CARD OF 'quitrentlaw15.LinkNobody'. -/
def linkNobodyUptoCard : Claim7 := { stood := { row := linkNobodyUptoRow, standIns := [], harness := (true, "4c2275c1c010577abc47fda388c66eaec63e8ed0fb824dddb20223330ec9ae2e"), looks := false }, kinds := [], alts := [], laidByText := true, laidKinds := [.data], laidTests := true, laidLooks := .later }
def LinkNobodyUptoCardSaid : Prop := Claim7.holds Tryz.pinned (.plain (OpenSpec.upto linkNobodySpec)) linkNobodyUptoCard

/-- THE SECOND FORM's CARD OF 'quitrentlaw16.TallyNobody'. -/
def tallyNobodyUptoCard : Claim7 := { stood := { row := tallyNobodyUptoRow, standIns := [], harness := (true, "4c2275c1c010577abc47fda388c66eaec63e8ed0fb824dddb20223330ec9ae2e"), looks := false }, kinds := [], alts := [], laidByText := true, laidKinds := [.data], laidTests := true, laidLooks := .later }
def TallyNobodyUptoCardSaid : Prop := Claim7.holds Tryz.pinned (.plain (OpenSpec.upto tallyNobodySpec)) tallyNobodyUptoCard

/-- THE SECOND FORM's CARD OF 'quitrentlaw14.GraveNobody'. -/
def graveNobodyUptoCard : Claim7 := { stood := { row := graveNobodyUptoRow, standIns := [], harness := (true, "4c2275c1c010577abc47fda388c66eaec63e8ed0fb824dddb20223330ec9ae2e"), looks := false }, kinds := [], alts := [], laidByText := true, laidKinds := [.data], laidTests := true, laidLooks := .later }
def GraveNobodyUptoCardSaid : Prop := Claim7.holds Tryz.pinned (.plain (OpenSpec.upto graveNobodySpec)) graveNobodyUptoCard

/-- THE SECOND FORM's CARD OF 'quitrentlaw17.FloodNobody'. -/
def floodNobodyUptoCard : Claim7 := { stood := { row := floodNobodyUptoRow, standIns := [], harness := (true, "4c2275c1c010577abc47fda388c66eaec63e8ed0fb824dddb20223330ec9ae2e"), looks := false }, kinds := [], alts := [], laidByText := true, laidKinds := [.data], laidTests := true, laidLooks := .later }
def FloodNobodyUptoCardSaid : Prop := Claim7.holds Tryz.pinned (.plain (OpenSpec.upto floodNobodySpec)) floodNobodyUptoCard

/-- THE SECOND FORM's CARD OF 'quitrentlaw18.ReapNobody'. -/
def reapNobodyUptoCard : Claim7 := { stood := { row := reapNobodyUptoRow, standIns := [], harness := (true, "4c2275c1c010577abc47fda388c66eaec63e8ed0fb824dddb20223330ec9ae2e"), looks := false }, kinds := [], alts := [], laidByText := true, laidKinds := [.data], laidTests := true, laidLooks := .later }
def ReapNobodyUptoCardSaid : Prop := Claim7.holds Tryz.pinned (.plain (OpenSpec.upto reapNobodySpec)) reapNobodyUptoCard

/-- THE SECOND FORM's CARD OF 'quitrentlaw19.RoundNobody'. -/
def roundNobodyUptoCard : Claim7 := { stood := { row := roundNobodyUptoRow, standIns := [], harness := (true, "4c2275c1c010577abc47fda388c66eaec63e8ed0fb824dddb20223330ec9ae2e"), looks := false }, kinds := [], alts := [], laidByText := true, laidKinds := [.data], laidTests := true, laidLooks := .later }
def RoundNobodyUptoCardSaid : Prop := Claim7.holds Tryz.pinned (.plain (OpenSpec.upto roundNobodySpec)) roundNobodyUptoCard

/-- THE SECOND FORM's CARD OF 'quitrentlaw20.PaceDue'. -/
def paceDueUptoCard : Claim7 := { stood := { row := paceDueUptoRow, standIns := [], harness := (true, "4c2275c1c010577abc47fda388c66eaec63e8ed0fb824dddb20223330ec9ae2e"), looks := false }, kinds := [], alts := [], laidByText := true, laidKinds := [.data], laidTests := true, laidLooks := .later }
def PaceDueUptoCardSaid : Prop := Claim7.holds Tryz.pinned (.plain (OpenSpec.upto paceDueSpec)) paceDueUptoCard

/-- THE SECOND FORM's CARD OF 'quitrentlaw20.PaceNobody'. -/
def paceNobodyUptoCard : Claim7 := { stood := { row := paceNobodyUptoRow, standIns := [], harness := (true, "4c2275c1c010577abc47fda388c66eaec63e8ed0fb824dddb20223330ec9ae2e"), looks := false }, kinds := [], alts := [], laidByText := true, laidKinds := [.data], laidTests := true, laidLooks := .later }
def PaceNobodyUptoCardSaid : Prop := Claim7.holds Tryz.pinned (.plain (OpenSpec.upto paceNobodySpec)) paceNobodyUptoCard

/-- THE SECOND FORM's CARD OF 'quitrentlaw21.HeapNobody'. -/
def heapNobodyUptoCard : Claim7 := { stood := { row := heapNobodyUptoRow, standIns := [], harness := (true, "4c2275c1c010577abc47fda388c66eaec63e8ed0fb824dddb20223330ec9ae2e"), looks := false }, kinds := [], alts := [], laidByText := true, laidKinds := [.data], laidTests := true, laidLooks := .later }
def HeapNobodyUptoCardSaid : Prop := Claim7.holds Tryz.pinned (.plain (OpenSpec.upto heapNobodySpec)) heapNobodyUptoCard

/-- THE SECOND FORM's CARD OF 'quitrentlaw21.HeapFails'. -/
def heapFailsUptoCard : Claim7 := { stood := { row := heapFailsUptoRow, standIns := [], harness := (true, "4c2275c1c010577abc47fda388c66eaec63e8ed0fb824dddb20223330ec9ae2e"), looks := false }, kinds := [], alts := [], laidByText := true, laidKinds := [.data], laidTests := true, laidLooks := .later }
def HeapFailsUptoCardSaid : Prop := Claim7.holds Tryz.pinned (.plain (OpenSpec.upto heapFailsSpec)) heapFailsUptoCard

/-- THE SECOND FORM's CARD OF 'quitrentlaw21.HeapPause'. -/
def heapPauseUptoCard : Claim7 := { stood := { row := heapPauseUptoRow, standIns := [], harness := (true, "4c2275c1c010577abc47fda388c66eaec63e8ed0fb824dddb20223330ec9ae2e"), looks := false }, kinds := [], alts := [], laidByText := true, laidKinds := [.data], laidTests := true, laidLooks := .later }
def HeapPauseUptoCardSaid : Prop := Claim7.holds Tryz.pinned (.plain (OpenSpec.upto heapPauseSpec)) heapPauseUptoCard

/-- THE SECOND FORM's CARD OF 'quitrentlaw21.HeapOver'. -/
def heapOverUptoCard : Claim7 := { stood := { row := heapOverUptoRow, standIns := [], harness := (true, "4c2275c1c010577abc47fda388c66eaec63e8ed0fb824dddb20223330ec9ae2e"), looks := false }, kinds := [], alts := [], laidByText := true, laidKinds := [.data], laidTests := true, laidLooks := .later }
def HeapOverUptoCardSaid : Prop := Claim7.holds Tryz.pinned (.plain (OpenSpec.upto heapOverSpec)) heapOverUptoCard

/-- THE SECOND FORM's CARD OF 'quitrentlaw22.OpDoes'. -/
def opDoesUptoCard : Claim7 := { stood := { row := opDoesUptoRow, standIns := [], harness := (true, "4c2275c1c010577abc47fda388c66eaec63e8ed0fb824dddb20223330ec9ae2e"), looks := false }, kinds := [], alts := [], laidByText := true, laidKinds := [.data, .data], laidTests := true, laidLooks := .later }
def OpDoesUptoCardSaid : Prop := Claim7.holds Tryz.pinned (.plain (OpenSpec.upto opDoesSpec)) opDoesUptoCard

/-- THE SECOND FORM's CARD OF 'quitrentlaw22.OpRuns'. -/
def opRunsUptoCard : Claim7 := { stood := { row := opRunsUptoRow, standIns := [], harness := (true, "4c2275c1c010577abc47fda388c66eaec63e8ed0fb824dddb20223330ec9ae2e"), looks := false }, kinds := [], alts := [], laidByText := true, laidKinds := [.data, .data], laidTests := true, laidLooks := .later }
def OpRunsUptoCardSaid : Prop := Claim7.holds Tryz.pinned (.plain (OpenSpec.upto opRunsSpec)) opRunsUptoCard

/-- THE SECOND FORM's CARD OF 'quitrentlaw22.OpBare'. -/
def opBareUptoCard : Claim7 := { stood := { row := opBareUptoRow, standIns := [], harness := (true, "4c2275c1c010577abc47fda388c66eaec63e8ed0fb824dddb20223330ec9ae2e"), looks := false }, kinds := [], alts := [], laidByText := true, laidKinds := [.data, .data], laidTests := true, laidLooks := .later }
def OpBareUptoCardSaid : Prop := Claim7.holds Tryz.pinned (.plain (OpenSpec.upto opBareSpec)) opBareUptoCard

/-- THE SECOND FORM's CARD OF 'quitrentlaw27.PauseNobody'. -/
def pauseNobodyUptoCard : Claim7 := { stood := { row := pauseNobodyUptoRow, standIns := [], harness := (true, "4c2275c1c010577abc47fda388c66eaec63e8ed0fb824dddb20223330ec9ae2e"), looks := false }, kinds := [], alts := [], laidByText := true, laidKinds := [.data, .data], laidTests := true, laidLooks := .later }
def PauseNobodyUptoCardSaid : Prop := Claim7.holds Tryz.pinned (.plain (OpenSpec.upto pauseNobodySpec)) pauseNobodyUptoCard
end Rows
end Go.Proofs.YtadhdjldcpkfiaaGreatDoor
