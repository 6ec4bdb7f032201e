/- One number of blocks after the other. -/
import Derived.Test.YtadhdjldcpkfiaaGreatDoorEv0
namespace Go.Proofs.YtadhdjldcpkfiaaGreatDoor
set_option linter.unusedVariables false
set_option linter.unusedSimpArgs false
open Go.RowKit
set_option maxRecDepth 100000

theorem ev_7 : ex12 7 = true := by decide +kernel
theorem ev_10 : ex12 10 = true := by decide +kernel
theorem ev_13 : ex12 13 = true := by decide +kernel
theorem ev_17 : ex12 17 = true := by decide +kernel
theorem ev_22 : ex12 22 = true := by decide +kernel
theorem ev_27 : ex12 27 = true := by decide +kernel
theorem ev_28 : ex12 28 = true := by decide +kernel
theorem ev_32 : ex12 32 = true := by decide +kernel
theorem ev_39 : ex12 39 = true := by decide +kernel
theorem ev_43 : ex12 43 = true := by decide +kernel
theorem ev_44 : ex12 44 = true := by decide +kernel
theorem ev_48 : ex12 48 = true := by decide +kernel
theorem ev_55 : ex12 55 = true := by decide +kernel
theorem ev_59 : ex12 59 = true := by decide +kernel
theorem ev_60 : ex12 60 = true := by decide +kernel
end Go.Proofs.YtadhdjldcpkfiaaGreatDoor
