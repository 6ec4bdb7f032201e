/- An example's truth, taken apart. -/
import Derived.Test.YtadhdjldcpkfiaaGreatDoorG
namespace Go.Proofs.YtadhdjldcpkfiaaGreatDoor
set_option linter.unusedVariables false
set_option linter.unusedSimpArgs false
theorem ex_of {α β : Type} {p : α × β} {a : α} (h : p.1 = a) : ∃ T, p = (a, T) := ⟨p.2, by cases p; cases h; rfl⟩
end Go.Proofs.YtadhdjldcpkfiaaGreatDoor
