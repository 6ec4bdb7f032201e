/- One number of blocks after the other. -/
import Derived.Test.YtadhdjldcpkfiaaGreatDoorEv0
namespace Go.Proofs.YtadhdjldcpkfiaaGreatDoor
set_option linter.unusedVariables false
set_option linter.unusedSimpArgs false
open Go.RowKit
set_option maxRecDepth 100000

theorem ev_5 : ex12 5 = true := by decide +kernel
theorem ev_9 : ex12 9 = true := by decide +kernel
theorem ev_14 : ex12 14 = true := by decide +kernel
theorem ev_19 : ex12 19 = true := by decide +kernel
theorem ev_20 : ex12 20 = true := by decide +kernel
theorem ev_24 : ex12 24 = true := by decide +kernel
theorem ev_31 : ex12 31 = true := by decide +kernel
theorem ev_34 : ex12 34 = true := by decide +kernel
theorem ev_37 : ex12 37 = true := by decide +kernel
theorem ev_41 : ex12 41 = true := by decide +kernel
theorem ev_46 : ex12 46 = true := by decide +kernel
theorem ev_49 : ex12 49 = true := by decide +kernel
theorem ev_54 : ex12 54 = true := by decide +kernel
theorem ev_58 : ex12 58 = true := by decide +kernel
theorem ev_61 : ex12 61 = true := by decide +kernel
end Go.Proofs.YtadhdjldcpkfiaaGreatDoor
