/- A nil ground: what pace answers of it. -/
import Derived.Test.YtadhdjldcpkfiaaGreatDoorZ2
namespace Go.Proofs.YtadhdjldcpkfiaaGreatDoor
set_option linter.unusedVariables false
set_option linter.unusedSimpArgs false
open Go.RowKit
set_option maxRecDepth 100000
set_option maxHeartbeats 1600000

theorem timesPN (reg n : Int) (w : World) : Calls Tryz.prog 130 #[.pointer none, .int .i64 reg, .int .i64 n, .func (.func 43) #[] #[]] w (Made w (.int .i64 0)) := by
  by_cases c : 0 < n
  · have c1 : decide (0 < n) = true := decide_eq_true c
    clear c
    go_enter Tryz.func130, Tryz.ntmps130
    go_wp2_with fail
    go_loopw [9] (fun i wr => i = .int .i64 0 ∧ Stays (fun _ => False) w wr) (fun _ _ => 0)
    case atStart => exact ⟨rfl, Stays.refl _ _⟩
    case round =>
      obtain ⟨rfl, K2⟩ := hrel
      go_wp2_with fail
      refine (rstepN _).mono ?_
      rintro _ w1 ⟨rfl, K1⟩
      go_wp2_with fail
      go_ret
      exact ⟨rfl, K2.trans K1⟩
  · have c1 : decide (0 < n) = false := decide_eq_false c
    clear c
    go_enter Tryz.func130, Tryz.ntmps130
    go_wp2_with fail
    go_loopw [9] (fun i wr => i = .int .i64 0 ∧ Stays (fun _ => False) w wr) (fun _ _ => 0)
    case atStart => exact ⟨rfl, Stays.refl _ _⟩
    case round =>
      obtain ⟨rfl, K2⟩ := hrel
      go_wp2_with fail
      go_ret
      exact ⟨rfl, K2⟩
theorem timesDN (reg n : Int) (w : World) : Calls Tryz.prog 130 #[.pointer none, .int .i64 reg, .int .i64 n, .func (.func 33) #[] #[]] w (Made w (.int .i64 0)) := by
  by_cases c : 0 < n
  · have c1 : decide (0 < n) = true := decide_eq_true c
    clear c
    go_enter Tryz.func130, Tryz.ntmps130
    go_wp2_with fail
    go_loopw [9] (fun i wr => i = .int .i64 0 ∧ Stays (fun _ => False) w wr) (fun _ _ => 0)
    case atStart => exact ⟨rfl, Stays.refl _ _⟩
    case round =>
      obtain ⟨rfl, K2⟩ := hrel
      go_wp2_with fail
      refine (gstepN _).mono ?_
      rintro _ w1 ⟨rfl, K1⟩
      go_wp2_with fail
      go_ret
      exact ⟨rfl, K2.trans K1⟩
  · have c1 : decide (0 < n) = false := decide_eq_false c
    clear c
    go_enter Tryz.func130, Tryz.ntmps130
    go_wp2_with fail
    go_loopw [9] (fun i wr => i = .int .i64 0 ∧ Stays (fun _ => False) w wr) (fun _ _ => 0)
    case atStart => exact ⟨rfl, Stays.refl _ _⟩
    case round =>
      obtain ⟨rfl, K2⟩ := hrel
      go_wp2_with fail
      go_ret
      exact ⟨rfl, K2⟩
theorem timesFN (reg n : Int) (w : World) : Calls Tryz.prog 130 #[.pointer none, .int .i64 reg, .int .i64 n, .func (.func 34) #[] #[]] w (Made w (.int .i64 0)) := by
  by_cases c : 0 < n
  · have c1 : decide (0 < n) = true := decide_eq_true c
    clear c
    go_enter Tryz.func130, Tryz.ntmps130
    go_wp2_with fail
    go_loopw [9] (fun i wr => i = .int .i64 0 ∧ Stays (fun _ => False) w wr) (fun _ _ => 0)
    case atStart => exact ⟨rfl, Stays.refl _ _⟩
    case round =>
      obtain ⟨rfl, K2⟩ := hrel
      go_wp2_with fail
      refine (releaseN _).mono ?_
      rintro _ w1 ⟨rfl, K1⟩
      go_wp2_with fail
      go_ret
      exact ⟨rfl, K2.trans K1⟩
  · have c1 : decide (0 < n) = false := decide_eq_false c
    clear c
    go_enter Tryz.func130, Tryz.ntmps130
    go_wp2_with fail
    go_loopw [9] (fun i wr => i = .int .i64 0 ∧ Stays (fun _ => False) w wr) (fun _ _ => 0)
    case atStart => exact ⟨rfl, Stays.refl _ _⟩
    case round =>
      obtain ⟨rfl, K2⟩ := hrel
      go_wp2_with fail
      go_ret
      exact ⟨rfl, K2⟩
theorem payN (n : Int) (w : World) : Calls Tryz.prog 54 #[.pointer none, .int .i64 n] w (Made w (.int .i64 0)) := by
  go_enter Tryz.func54, Tryz.ntmps54
  go_wp2_with fail
  refine (timesPN _ _ _).mono ?_
  rintro _ w1 ⟨rfl, K1⟩
  go_wp2_with fail
  go_ret
  exact ⟨rfl, K1⟩
theorem drainN (n : Int) (w : World) : Calls Tryz.prog 55 #[.pointer none, .int .i64 n] w (Made w (.int .i64 0)) := by
  go_enter Tryz.func55, Tryz.ntmps55
  go_wp2_with fail
  refine (timesDN _ _ _).mono ?_
  rintro _ w1 ⟨rfl, K1⟩
  go_wp2_with fail
  go_ret
  exact ⟨rfl, K1⟩
theorem freeN (n : Int) (w : World) : Calls Tryz.prog 56 #[.pointer none, .int .i64 n] w (Made w (.int .i64 0)) := by
  go_enter Tryz.func56, Tryz.ntmps56
  go_wp2_with fail
  refine (timesFN _ _ _).mono ?_
  rintro _ w1 ⟨rfl, K1⟩
  go_wp2_with fail
  go_ret
  exact ⟨rfl, K1⟩
theorem tickN (w : World) : Calls Tryz.prog 52 #[.pointer none] w (Made w (.tuple #[])) := by
  go_enter Tryz.func52, Tryz.ntmps52
  go_wp2_with fail
  refine (confN _).mono ?_
  rintro _ w1 ⟨rfl, K1⟩
  go_wp2_with fail
  refine (drainN _ _).mono ?_
  rintro _ w2 ⟨rfl, K2⟩
  go_wp2_with fail
  refine (payN _ _).mono ?_
  rintro _ w3 ⟨rfl, K3⟩
  go_wp2_with fail
  go_end0
  exact ⟨rfl, (K1.trans K2).trans K3⟩
theorem totalsN (w : World) : Calls Tryz.prog 53 #[.pointer none] w (Made w (.tuple #[.int .i64 0, .int .i64 0, .int .i64 0])) := by
  go_enter Tryz.func53, Tryz.ntmps53
  go_wp2_with fail
  refine (seeRegN _ _).mono ?_
  rintro _ _ ⟨rfl, rfl⟩
  go_wp2_with fail
  refine (seeRegN _ _).mono ?_
  rintro _ _ ⟨rfl, rfl⟩
  go_wp2_with fail
  refine (seeRegN _ _).mono ?_
  rintro _ _ ⟨rfl, rfl⟩
  go_wp2_with fail
  go_ret3
  exact ⟨rfl, Stays.refl _ _⟩
end Go.Proofs.YtadhdjldcpkfiaaGreatDoor
