/- Closed facts of the program that each row asks, one by one (together they want more memory than there is). -/
import Derived.Test.YtadhdjldcpkfiaaGreatDoorRows
import Derived.JoinedOf
import Derived.SevenTiedAt
namespace Go.Proofs.YtadhdjldcpkfiaaGreatDoor
set_option linter.unusedVariables false
set_option linter.unusedSimpArgs false
theorem and2 {a b : Bool} (ha : a = true) (hb : b = true) : (a && b) = true := by rw [ha, hb]; rfl
theorem fLaid : laidOutB Tryz.prog = true := by kernel_rfl
theorem fMaps : mapsRowed Tryz.prog = true := by kernel_rfl
theorem fHeard : Tryz.prog.stopsHeard = true := by kernel_rfl
theorem fEnter : Tryz.prog.mayEnter = true := by kernel_rfl
theorem fMain : Tryz.pinned.checked.prog.mainIs = some (true, "4c2275c1c010577abc47fda388c66eaec63e8ed0fb824dddb20223330ec9ae2e".toList) := by kernel_rfl
theorem fLooks : false = Tryz.prog.looks [] := by kernel_rfl
end Go.Proofs.YtadhdjldcpkfiaaGreatDoor
