/- A nil ground: what the layers up to link answer of it. -/
import Derived.Test.YtadhdjldcpkfiaaGreatDoorP
import Derived.Test.YtadhdjldcpkfiaaGreatDoorS
namespace Go.Proofs.YtadhdjldcpkfiaaGreatDoor
set_option linter.unusedVariables false
set_option linter.unusedSimpArgs false
open Go.RowKit
set_option maxRecDepth 100000
set_option maxHeartbeats 1600000

theorem Made.st {w w' : World} {v : Value} {e : Ending} (h : Made w v e w') : Stays (fun _ => False) w w' := h.2
theorem confN (w : World) :
    Calls Tryz.prog 98 #[.pointer none] w (Made w (.agg #[.int .i64 0, .int .i64 0, .int .i64 0, .int .i64 0])) := by
  go_enter Tryz.func98, Tryz.ntmps98
  go_wp2
  refine bodyPost_ret (v := .agg #[.int .i64 0, .int .i64 0, .int .i64 0, .int .i64 0]) (by simp [results, Tryz.results98, go_sem]) rfl ⟨rfl, ?_⟩
  repeat (first | with_reducible exact Stays.refl _ _ | with_reducible apply Stays.drew | with_reducible apply Stays.drewN | with_reducible apply Stays.alloc | refine Stays.setCell ?_ (Or.inr (Nat.le_refl _)) _)

theorem allN (w : World) : Calls Tryz.prog 145 #[.pointer none] w fun e w' => e = .returned (.pointer none) ∧ w = w' := by
  go_enter Tryz.func145, Tryz.ntmps145
  go_wp2
  go_ret
  exact ⟨rfl, rfl⟩
theorem getN (i : Int) (w : World) : Calls Tryz.prog 173 #[.pointer none, .int .i64 i] w fun e w' => e = .returned (.int .u32 0) ∧ w = w' := by
  go_enter Tryz.func173, Tryz.ntmps173
  go_wp2_with (go_at_call 227; go_in)
  go_ret
  exact ⟨rfl, rfl⟩
theorem regN (r : Int) (w : World) : Calls Tryz.prog 95 #[.pointer none, .int .i64 r] w fun e w' => e = .returned (.int .i64 0) ∧ w = w' := by
  go_enter Tryz.func95, Tryz.ntmps95
  go_wp2_with fail
  refine (allN _).mono ?_
  rintro _ _ ⟨rfl, rfl⟩
  go_wp2_with fail
  refine (reg_c _ _).mono ?_
  rintro _ _ ⟨rfl, rfl⟩
  go_wp2_with fail
  refine (getN _ _).mono ?_
  rintro _ _ ⟨rfl, rfl⟩
  go_wp2_with fail
  go_ret
  exact ⟨rfl, rfl⟩
theorem inN (r : Int) (w : World) : Calls Tryz.prog 180 #[.pointer none, .int .i64 r] w (Made w (.bool false)) := by
  by_cases c : 0 < r
  · have c1 : decide (0 < r) = true := decide_eq_true c
    have c2 : decide (r ≤ 0) = false := decide_eq_false (by omega)
    clear c
    go_enter Tryz.func180, Tryz.ntmps180
    go_wp2_with fail
    refine (confN _).mono ?_
    rintro _ w1 ⟨rfl, K1⟩
    go_wp2_with fail
    go_ret
    exact ⟨rfl, K1⟩
  · have c1 : decide (0 < r) = false := decide_eq_false c
    clear c
    go_enter Tryz.func180, Tryz.ntmps180
    go_wp2_with fail
    go_ret
    exact ⟨rfl, Stays.refl _ _⟩
theorem isN (r : Int) (w : World) : Calls Tryz.prog 107 #[.pointer none, .int .i64 r] w (Made w (.bool false)) := by
  go_enter Tryz.func107, Tryz.ntmps107
  go_wp2_with fail
  refine (inN _ _).mono ?_
  rintro _ w1 ⟨rfl, K1⟩
  go_wp2_with fail
  go_ret
  exact ⟨rfl, K1⟩
theorem lensN (r : Int) (w : World) : Calls Tryz.prog 99 #[.pointer none, .int .i64 r] w (Made w (.tuple #[.int .i64 0, .int .i64 0, .int .i64 8])) := by
  go_enter Tryz.func99, Tryz.ntmps99
  go_wp2_with fail
  refine (isN _ _).mono ?_
  rintro _ w1 ⟨rfl, K1⟩
  go_wp2_with fail
  go_ret3
  exact ⟨rfl, K1⟩
theorem fieldN (r i : Int) (b : Bool) (w : World) : Calls Tryz.prog 167 #[.pointer none, .int .i64 r, .int .i64 i, .bool b] w (Made w (.tuple #[.agg #[.int .i64 0, .int .i64 0], .int .i64 8])) := by
  go_enter Tryz.func167, Tryz.ntmps167
  go_wp2_with fail
  refine (lensN _ _).mono ?_
  rintro _ w1 ⟨rfl, K1⟩
  have B1 : Blk w1 w.heap.size 155 #[.int .i64 0, .int .i64 0] := Blk.stays (Blk.new w 155 #[.int .i64 0, .int .i64 0]) K1 (fun x => x)
  go_wp2_with (refine wpList_store_blk rfl _ _ _ rfl (w.heap.size) rfl 155 _ _ rfl B1 (by kernel_rfl) rfl (by simp [Value.oneCell']) ?_; intro w2 B2 K2)
  refine bodyPost_ret (results_blk_tmp (fn := Tryz.f167) (p := 8) (u := 9) rfl _ _ _ _ _ _ rfl B2 Tryz.underlying155 rfl (by kernel_rfl)) rfl ⟨rfl, ?_⟩
  exact (((Stays.refl _ _).alloc _).trans K1).own K2 (by omega)
theorem ptrN (r i : Int) (w : World) : Calls Tryz.prog 88 #[.pointer none, .int .i64 r, .int .i64 i] w (Made w (.tuple #[.int .i64 0, .int .i64 8])) := by
  go_enter Tryz.func88, Tryz.ntmps88
  go_wp2_with fail
  refine (fieldN _ _ _ _).mono ?_
  rintro _ w1 ⟨rfl, K1⟩
  go_wp2_with fail
  go_ret2
  exact ⟨rfl, by repeat (first | with_reducible exact K1 | with_reducible apply Stays.alloc | with_reducible apply Stays.drew)⟩
theorem wrongN (v : Value) (w : World) : Calls Tryz.prog 222 #[.int .i64 0, v] w fun e w' => e = .returned (.int .i64 1) ∧ w = w' := by
  go_enter Tryz.func222, Tryz.ntmps222
  go_wp2_with (go_at_call 241; go_in)
  go_ret
  exact ⟨rfl, rfl⟩
theorem BlocksN (p d : Int) (w : World) : Calls Tryz.prog 161 #[.int .i64 0, .int .i64 p, .int .i64 d] w (Made w (.tuple #[.int .i64 0, .int .i64 1])) := by
  go_enter Tryz.func161, Tryz.ntmps161
  go_wp2_with fail
  refine (wrongN _ _).mono ?_
  rintro _ _ ⟨rfl, rfl⟩
  go_wp2_with fail
  go_ret2
  exact ⟨rfl, (Stays.refl _ _).alloc _⟩
theorem makeN (p d : Int) (w : World) : Calls Tryz.prog 85 #[.pointer none, .int .i64 p, .int .i64 d] w (Made w (.tuple #[.int .i64 0, .int .i64 1])) := by
  go_enter Tryz.func85, Tryz.ntmps85
  go_wp2_with fail
  refine (confN _).mono ?_
  rintro _ w1 ⟨rfl, K1⟩
  go_wp2_with fail
  refine (BlocksN _ _ _).mono ?_
  rintro _ w2 ⟨rfl, K2⟩
  go_wp2_with fail
  go_ret2
  exact ⟨rfl, K1.trans K2⟩
theorem bornN (p d : Int) (w : World) : Calls Tryz.prog 19 #[.pointer none, .int .i64 p, .int .i64 d] w (Made w (.tuple #[.int .i64 0, .int .i64 1])) := by
  go_enter Tryz.func19, Tryz.ntmps19
  go_wp2_with fail
  refine (makeN _ _ _).mono ?_
  rintro _ w1 ⟨rfl, K1⟩
  go_wp2_with fail
  go_ret2
  exact ⟨rfl, K1⟩
theorem getLN (r i : Int) (w : World) : Calls Tryz.prog 20 #[.pointer none, .int .i64 r, .int .i64 i] w (Made w (.tuple #[.int .i64 0, .int .i64 8])) := by
  go_enter Tryz.func20, Tryz.ntmps20
  go_wp2_with fail
  refine (ptrN _ _ _).mono ?_
  rintro _ w1 ⟨rfl, K1⟩
  go_wp2_with fail
  go_ret2
  exact ⟨rfl, K1⟩
theorem aliveN (r : Int) (w : World) : Calls Tryz.prog 89 #[.pointer none, .int .i64 r] w (Made w (.bool false)) := by
  go_enter Tryz.func89, Tryz.ntmps89
  go_wp2_with fail
  refine (isN _ _).mono ?_
  rintro _ w1 ⟨rfl, K1⟩
  go_wp2_with fail
  go_ret
  exact ⟨rfl, K1⟩
theorem putLN (r i x : Int) (w : World) : Calls Tryz.prog 21 #[.pointer none, .int .i64 r, .int .i64 i, .int .i64 x] w (Made w (.int .i64 8)) := by
  go_enter Tryz.func21, Tryz.ntmps21
  go_wp2_with fail
  refine (aliveN _ _).mono ?_
  rintro _ w1 ⟨rfl, K1⟩
  go_wp2_with fail
  go_ret
  exact ⟨rfl, K1⟩
theorem holdN (r : Int) (w : World) : Calls Tryz.prog 22 #[.pointer none, .int .i64 r] w (Made w (.bool false)) := by
  go_enter Tryz.func22, Tryz.ntmps22
  go_wp2_with fail
  refine (aliveN _ _).mono ?_
  rintro _ w1 ⟨rfl, K1⟩
  go_wp2_with fail
  go_ret
  exact ⟨rfl, K1⟩
theorem letN (r : Int) (w : World) : Calls Tryz.prog 23 #[.pointer none, .int .i64 r] w (Made w (.bool false)) := by
  go_enter Tryz.func23, Tryz.ntmps23
  go_wp2_with fail
  refine (aliveN _ _).mono ?_
  rintro _ w1 ⟨rfl, K1⟩
  go_wp2_with fail
  go_ret
  exact ⟨rfl, K1⟩
theorem suspectN (w : World) : Calls Tryz.prog 24 #[.pointer none] w (Made w (.bool false)) := by
  go_enter Tryz.func24, Tryz.ntmps24
  go_wp2_with fail
  refine (regN _ _).mono ?_
  rintro _ _ ⟨rfl, rfl⟩
  go_wp2_with fail
  go_ret
  exact ⟨rfl, Stays.refl _ _⟩
end Go.Proofs.YtadhdjldcpkfiaaGreatDoor
