/- A nil ground: what grave and round answer of it. -/
import Derived.Test.YtadhdjldcpkfiaaGreatDoorZ
namespace Go.Proofs.YtadhdjldcpkfiaaGreatDoor
set_option linter.unusedVariables false
set_option linter.unusedSimpArgs false
open Go.RowKit
set_option maxRecDepth 100000
set_option maxHeartbeats 1600000

theorem chainofN (k : Int) (w : World) :
    Calls Tryz.prog 196 #[.pointer none, .int .i64 k] w (Made w (.tuple #[.agg #[.int .i64 0, .int .i64 0, .int .i64 0], .bool false])) := by
  go_enter Tryz.func196, Tryz.ntmps196
  go_wp2
  refine bodyPost_ret (v := .tuple #[.agg #[.int .i64 0, .int .i64 0, .int .i64 0], .bool false]) (by simp [results, Tryz.results196, go_sem]) rfl ⟨rfl, ?_⟩
  repeat (first | with_reducible exact Stays.refl _ _ | with_reducible apply Stays.drew | with_reducible apply Stays.drewN | with_reducible apply Stays.alloc | refine Stays.setCell ?_ (Or.inr (Nat.le_refl _)) _)
theorem firstN (k : Int) (w : World) :
    Calls Tryz.prog 191 #[.pointer none, .int .i64 k] w (Made w (.tuple #[.int .i64 0, .bool false])) := by
  go_enter Tryz.func191, Tryz.ntmps191
  go_wp2_with fail
  refine (chainofN _ _).mono ?_
  rintro _ w1 ⟨rfl, K1⟩
  go_wp2_with fail
  go_ret2
  exact ⟨rfl, by repeat (first | with_reducible exact K1 | with_reducible apply Stays.alloc | with_reducible apply Stays.drew)⟩
theorem workN (w : World) :
    Calls Tryz.prog 113 #[.pointer none] w (Made w (.tuple #[.bool false, .bool false])) := by
  go_enter Tryz.func113, Tryz.ntmps113
  go_wp2_with fail
  refine (firstN _ _).mono ?_
  rintro _ w1 ⟨rfl, K1⟩
  go_wp2_with fail
  go_ret2
  exact ⟨rfl, K1⟩
theorem gstepN (w : World) : Calls Tryz.prog 33 #[.pointer none] w (Made w (.bool false)) := by
  go_enter Tryz.func33, Tryz.ntmps33
  go_wp2_with fail
  refine (workN _).mono ?_
  rintro _ w1 ⟨rfl, K1⟩
  go_wp2_with fail
  go_ret
  exact ⟨rfl, K1⟩
theorem releaseN (w : World) : Calls Tryz.prog 34 #[.pointer none] w (Made w (.bool false)) := by
  go_enter Tryz.func34, Tryz.ntmps34
  go_wp2_with fail
  go_loopw [] (fun wr => Stays (fun _ => False) w wr) (fun _ => 0)
  case atStart => exact Stays.refl _ _
  case round =>
    go_wp2_with fail
    refine (workN _).mono ?_
    rintro _ w1 ⟨rfl, K1⟩
    go_wp2_with fail
    go_ret
    exact ⟨rfl, hrel.trans K1⟩
theorem pendingN (w : World) : Calls Tryz.prog 35 #[.pointer none] w (Made w (.int .i64 0)) := by
  go_enter Tryz.func35, Tryz.ntmps35
  go_wp2_with fail
  refine (regN _ _).mono ?_
  rintro _ _ ⟨rfl, rfl⟩
  go_wp2_with fail
  go_ret
  exact ⟨rfl, Stays.refl _ _⟩
theorem peekN (i : Int) (w : World) : Calls Tryz.prog 198 #[.pointer none, .int .i64 i] w fun e w' => e = .returned (.int .u32 0) ∧ w = w' := by
  go_enter Tryz.func198, Tryz.ntmps198
  go_wp2_with (go_at_call 227; go_in)
  go_ret
  exact ⟨rfl, rfl⟩
theorem seeRegN (r : Int) (w : World) : Calls Tryz.prog 115 #[.pointer none, .int .i64 r] w fun e w' => e = .returned (.int .i64 0) ∧ w = w' := by
  go_enter Tryz.func115, Tryz.ntmps115
  go_wp2_with fail
  refine (allN _).mono ?_
  rintro _ _ ⟨rfl, rfl⟩
  go_wp2_with fail
  refine (reg_c _ _).mono ?_
  rintro _ _ ⟨rfl, rfl⟩
  go_wp2_with fail
  refine (peekN _ _).mono ?_
  rintro _ _ ⟨rfl, rfl⟩
  go_wp2_with fail
  go_ret
  exact ⟨rfl, rfl⟩
theorem gseeN (w : World) : Calls Tryz.prog 37 #[.pointer none] w (Made w (.int .i64 0)) := by
  go_enter Tryz.func37, Tryz.ntmps37
  go_wp2_with fail
  refine (seeRegN _ _).mono ?_
  rintro _ _ ⟨rfl, rfl⟩
  go_wp2_with fail
  go_ret
  exact ⟨rfl, Stays.refl _ _⟩
theorem clistN (k : Int) (w : World) : Calls Tryz.prog 114 #[.pointer none, .int .i64 k] w (Made w (.slice none 0 0)) := by
  go_enter Tryz.func114, Tryz.ntmps114
  go_wp2_with fail
  refine (chainofN _ _).mono ?_
  rintro _ w1 ⟨rfl, K1⟩
  go_wp2_with fail
  go_ret
  exact ⟨rfl, by repeat (first | with_reducible exact K1 | with_reducible apply Stays.alloc | with_reducible apply Stays.drew)⟩
theorem glistN (w : World) : Calls Tryz.prog 36 #[.pointer none] w (Made w (.slice none 0 0)) := by
  go_enter Tryz.func36, Tryz.ntmps36
  go_wp2_with fail
  refine (clistN _ _).mono ?_
  rintro _ w1 ⟨rfl, K1⟩
  go_wp2_with fail
  go_loopw [3, 9] (fun l i wr => l = .slice none 0 0 ∧ i = .int .i64 0 ∧ Stays (fun _ => False) w wr) (fun _ _ _ => 0)
  case atStart => exact ⟨rfl, rfl, K1⟩
  case round =>
    obtain ⟨rfl, rfl, K2⟩ := hrel
    go_wp2_with fail
    go_ret
    exact ⟨rfl, K2⟩
theorem buryN (r : Int) (w : World) : Calls Tryz.prog 32 #[.pointer none, .int .i64 r] w (Made w (.bool false)) := by
  go_enter Tryz.func32, Tryz.ntmps32
  go_wp2_with fail
  refine (isN _ _).mono ?_
  rintro _ w1 ⟨rfl, K1⟩
  go_wp2_with fail
  go_ret
  exact ⟨rfl, K1⟩
theorem phaseN (w : World) : Calls Tryz.prog 97 #[.pointer none] w (Made w (.int .i64 0)) := by
  go_enter Tryz.func97, Tryz.ntmps97
  go_wp2_with fail
  refine (regN _ _).mono ?_
  rintro _ _ ⟨rfl, rfl⟩
  go_wp2_with fail
  go_ret
  exact ⟨rfl, Stays.refl _ _⟩
theorem ropenN (w : World) : Calls Tryz.prog 126 #[.pointer none] w (Made w (.bool false)) := by
  go_enter Tryz.func126, Tryz.ntmps126
  go_wp2_with fail
  refine (suspectN _).mono ?_
  rintro _ w1 ⟨rfl, K1⟩
  go_wp2_with fail
  go_ret
  exact ⟨rfl, K1⟩
theorem rstepN (w : World) : Calls Tryz.prog 43 #[.pointer none] w (Made w (.bool false)) := by
  go_enter Tryz.func43, Tryz.ntmps43
  go_wp2_with fail
  refine (phaseN _).mono ?_
  rintro _ w1 ⟨rfl, K1⟩
  go_wp2_with fail
  refine (ropenN _).mono ?_
  rintro _ w2 ⟨rfl, K2⟩
  go_wp2_with fail
  go_ret
  exact ⟨rfl, K1.trans K2⟩
theorem rrunN (n : Int) (w : World) : Calls Tryz.prog 44 #[.pointer none, .int .i64 n] w (Made w (.int .i64 0)) := by
  by_cases c : 0 < n
  · have c1 : decide (0 < n) = true := decide_eq_true c
    clear c
    go_enter Tryz.func44, Tryz.ntmps44
    go_wp2_with fail
    go_loopw [5] (fun i wr => i = .int .i64 0 ∧ Stays (fun _ => False) w wr) (fun _ _ => 0)
    case atStart => exact ⟨rfl, Stays.refl _ _⟩
    case round =>
      obtain ⟨rfl, K2⟩ := hrel
      go_wp2_with fail
      refine (rstepN _).mono ?_
      rintro _ w1 ⟨rfl, K1⟩
      go_wp2_with fail
      go_ret
      exact ⟨rfl, K2.trans K1⟩
  · have c1 : decide (0 < n) = false := decide_eq_false c
    clear c
    go_enter Tryz.func44, Tryz.ntmps44
    go_wp2_with fail
    go_loopw [5] (fun i wr => i = .int .i64 0 ∧ Stays (fun _ => False) w wr) (fun _ _ => 0)
    case atStart => exact ⟨rfl, Stays.refl _ _⟩
    case round =>
      obtain ⟨rfl, K2⟩ := hrel
      go_wp2_with fail
      go_ret
      exact ⟨rfl, K2⟩
theorem unitsN (w : World) : Calls Tryz.prog 45 #[.pointer none] w (Made w (.int .i64 0)) := by
  go_enter Tryz.func45, Tryz.ntmps45
  go_wp2_with fail
  refine (regN _ _).mono ?_
  rintro _ _ ⟨rfl, rfl⟩
  go_wp2_with fail
  go_ret
  exact ⟨rfl, Stays.refl _ _⟩
theorem epochsN (w : World) : Calls Tryz.prog 46 #[.pointer none] w (Made w (.int .i64 0)) := by
  go_enter Tryz.func46, Tryz.ntmps46
  go_wp2_with fail
  refine (regN _ _).mono ?_
  rintro _ _ ⟨rfl, rfl⟩
  go_wp2_with fail
  go_ret
  exact ⟨rfl, Stays.refl _ _⟩
theorem quietN (w : World) : Calls Tryz.prog 47 #[.pointer none] w (Made w (.bool false)) := by
  go_enter Tryz.func47, Tryz.ntmps47
  go_wp2_with fail
  go_ret
  exact ⟨rfl, Stays.refl _ _⟩
end Go.Proofs.YtadhdjldcpkfiaaGreatDoor
