/- One number of blocks after the other. -/
import Derived.Test.YtadhdjldcpkfiaaGreatDoorEv0
namespace Go.Proofs.YtadhdjldcpkfiaaGreatDoor
set_option linter.unusedVariables false
set_option linter.unusedSimpArgs false
open Go.RowKit
set_option maxRecDepth 100000

theorem ev_6 : ex12 6 = true := by decide +kernel
theorem ev_11 : ex12 11 = true := by decide +kernel
theorem ev_12 : ex12 12 = true := by decide +kernel
theorem ev_16 : ex12 16 = true := by decide +kernel
theorem ev_23 : ex12 23 = true := by decide +kernel
theorem ev_26 : ex12 26 = true := by decide +kernel
theorem ev_29 : ex12 29 = true := by decide +kernel
theorem ev_35 : ex12 35 = true := by decide +kernel
theorem ev_36 : ex12 36 = true := by decide +kernel
theorem ev_40 : ex12 40 = true := by decide +kernel
theorem ev_47 : ex12 47 = true := by decide +kernel
theorem ev_50 : ex12 50 = true := by decide +kernel
theorem ev_53 : ex12 53 = true := by decide +kernel
theorem ev_57 : ex12 57 = true := by decide +kernel
theorem ev_62 : ex12 62 = true := by decide +kernel
end Go.Proofs.YtadhdjldcpkfiaaGreatDoor
