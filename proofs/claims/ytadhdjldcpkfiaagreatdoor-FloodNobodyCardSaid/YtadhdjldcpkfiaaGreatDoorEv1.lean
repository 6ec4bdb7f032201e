/- One number of blocks after the other. -/
import Derived.Test.YtadhdjldcpkfiaaGreatDoorEv0
namespace Go.Proofs.YtadhdjldcpkfiaaGreatDoor
set_option linter.unusedVariables false
set_option linter.unusedSimpArgs false
open Go.RowKit
set_option maxRecDepth 100000

theorem ev_4 : ex12 4 = true := by decide +kernel
theorem ev_8 : ex12 8 = true := by decide +kernel
theorem ev_15 : ex12 15 = true := by decide +kernel
theorem ev_18 : ex12 18 = true := by decide +kernel
theorem ev_21 : ex12 21 = true := by decide +kernel
theorem ev_25 : ex12 25 = true := by decide +kernel
theorem ev_30 : ex12 30 = true := by decide +kernel
theorem ev_33 : ex12 33 = true := by decide +kernel
theorem ev_38 : ex12 38 = true := by decide +kernel
theorem ev_42 : ex12 42 = true := by decide +kernel
theorem ev_45 : ex12 45 = true := by decide +kernel
theorem ev_51 : ex12 51 = true := by decide +kernel
theorem ev_52 : ex12 52 = true := by decide +kernel
theorem ev_56 : ex12 56 = true := by decide +kernel
theorem ev_63 : ex12 63 = true := by decide +kernel
end Go.Proofs.YtadhdjldcpkfiaaGreatDoor
