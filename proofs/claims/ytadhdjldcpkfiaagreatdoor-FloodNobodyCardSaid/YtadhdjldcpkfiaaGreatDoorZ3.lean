/- A nil ground: the steps of count, flood and reaping. -/
import Derived.Test.YtadhdjldcpkfiaaGreatDoorZ2
namespace Go.Proofs.YtadhdjldcpkfiaaGreatDoor
set_option linter.unusedVariables false
set_option linter.unusedSimpArgs false
open Go.RowKit
set_option maxRecDepth 100000
set_option maxHeartbeats 1600000

theorem taStepN (w : World) : Calls Tryz.prog 27 #[.pointer none] w (Made w (.bool false)) := by
  go_enter Tryz.func27, Tryz.ntmps27
  go_wp2_with fail
  refine (phaseN _).mono ?_
  rintro _ w1 ⟨rfl, K1⟩
  go_wp2_with fail
  go_ret
  exact ⟨rfl, K1⟩
theorem flStepN (w : World) : Calls Tryz.prog 39 #[.pointer none] w (Made w (.bool false)) := by
  go_enter Tryz.func39, Tryz.ntmps39
  go_wp2_with fail
  refine (phaseN _).mono ?_
  rintro _ w1 ⟨rfl, K1⟩
  go_wp2_with fail
  go_ret
  exact ⟨rfl, K1⟩
theorem reStepN (w : World) : Calls Tryz.prog 41 #[.pointer none] w (Made w (.bool false)) := by
  go_enter Tryz.func41, Tryz.ntmps41
  go_wp2_with fail
  refine (phaseN _).mono ?_
  rintro _ w1 ⟨rfl, K1⟩
  go_wp2_with fail
  go_ret
  exact ⟨rfl, K1⟩
end Go.Proofs.YtadhdjldcpkfiaaGreatDoor
