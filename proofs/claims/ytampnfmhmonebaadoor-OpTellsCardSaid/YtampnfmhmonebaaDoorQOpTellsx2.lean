/- Printed with a stand-in for op.Name and op.Kind; these two are by hand (the text Nm). -/
import Derived.Test.YtampnfmhmonebaaDoorQOpTellsx0
import Derived.Test.YtampnfmhmonebaaDoorNm
namespace Go.Proofs.YtampnfmhmonebaaDoor.QOpTells
open Go.RowKit Go.Proofs.YtampnfmhmonebaaDoorW.PrintWords Go.Proofs.YtampnfmhmonebaaDoorW.PrintLast Go.Proofs.YtampnfmhmonebaaDoorW.PrintMore
attribute [local go_sem] max2_int min2_int max_two min_two max_three min_three max_four min_four   -- for this text's walks alone
set_option linter.unusedVariables false
set_option linter.unusedSimpArgs false

/-! ### op_is: function 18 -/
def op_is.f (a0 : Int) : Option (Bool) := if a0 ≥ 1 then (some (decide (a0 ≤ 10))) else (some false)
set_option maxHeartbeats 8000000 in
set_option maxRecDepth 100000 in
theorem op_is.calls (a0 : Int) (r : Bool) (w : World) (h : op_is.f a0 = some r) :
    Calls Tryd.prog 18 #[.int .i64 a0] w fun e w' => e = .returned (.bool r) ∧ Drawn0 w w' := by
  have H : (if a0 ≥ 1 then (some (decide (a0 ≤ 10))) else (some false)) = some r := h
  clear h
  by_cases c2 : a0 ≥ 1
  · rw [if_pos c2] at H
    have c2b0 : decide (1 ≤ a0) = true := decide_eq_true c2
    clear c2
    obtain rfl := Option.some.inj H
    go_enter Tryd.func18, Tryd.ntmps18
    go_wp2
    go_ret
    exact ⟨by first | rfl | (simp; done) | (simp [*]; done), by repeat (first | exact Drawn0.refl _ | apply Drawn0.step)⟩
  · rw [if_neg c2] at H
    have c2b0 : decide (1 ≤ a0) = false := decide_eq_false c2
    clear c2
    obtain rfl := Option.some.inj H
    go_enter Tryd.func18, Tryd.ntmps18
    go_wp2
    go_ret
    exact ⟨by first | rfl | (simp; done) | (simp [*]; done), by repeat (first | exact Drawn0.refl _ | apply Drawn0.step)⟩

/-! ### op_Name: by hand -/
def op_Name.f (a0 : Int) : Option ByteArray := nameF a0
theorem op_Name.calls (a0 : Int) (r : ByteArray) (w : World) (hT : NamesIn w) (h : op_Name.f a0 = some r) :
    Calls Tryd.prog 8 #[.int .i64 a0] w fun e w' => e = .returned (.string r) ∧ Drawn0 w w' := nameF_calls a0 r w hT h


end Go.Proofs.YtampnfmhmonebaaDoor.QOpTells
