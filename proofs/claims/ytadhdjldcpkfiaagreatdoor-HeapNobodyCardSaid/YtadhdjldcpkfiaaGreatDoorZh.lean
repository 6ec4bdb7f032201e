/- A nil heap: what it answers. Nothing is asked. -/
import Derived.Test.YtadhdjldcpkfiaaGreatDoorZ2
import Derived.Test.YtadhdjldcpkfiaaGreatDoorS2
namespace Go.Proofs.YtadhdjldcpkfiaaGreatDoor
set_option linter.unusedVariables false
set_option linter.unusedSimpArgs false
open Go.RowKit
set_option maxRecDepth 100000
set_option maxHeartbeats 3200000

theorem hGroundN (w : World) : Calls Tryz.prog 62 #[.pointer none] w fun e w' => e = .returned (.pointer none) ∧ w = w' := by
  go_enter Tryz.func62, Tryz.ntmps62
  go_wp2
  go_ret
  exact ⟨rfl, rfl⟩
theorem hConfN (w : World) : Calls Tryz.prog 58 #[.pointer none] w (Made w (.agg #[.int .i64 0, .int .i64 0, .int .i64 0, .int .i64 0])) := by
  have Bz := Blk.new w 46 #[.int .i64 0, .int .i64 0, .int .i64 0, .int .i64 0]
  go_enter Tryz.func58, Tryz.ntmps58
  go_wp2_with fail
  refine (hGroundN _).mono ?_
  rintro _ _ ⟨rfl, rfl⟩
  go_wp2_with fail
  refine (confN _).mono ?_
  rintro _ w1 ⟨rfl, K1⟩
  have Bz1 := Bz.stays K1 (fun x => x)
  go_wp2_with (refine wpList_store_blk rfl _ _ _ rfl (w.heap.size) rfl 46 _ _ rfl Bz1 (by kernel_rfl) rfl (by simp [Value.oneCell']) ?_; intro wz BZ KZ)
  refine bodyPost_ret (results_blk (P := Tryz.prog) (p := 2) (ty := 46) rfl _ _ (w.heap.size) 46 _ _ rfl BZ Tryz.underlying46 rfl (by kernel_rfl)) rfl ?_
  exact ⟨rfl, (((Stays.refl _ _).alloc _).trans K1).own KZ (Nat.le_refl _)⟩
theorem hMeterN (w : World) : Calls Tryz.prog 59 #[.pointer none] w fun e w' => e = .returned (.int .u64 0) ∧ w = w' := by
  go_enter Tryz.func59, Tryz.ntmps59
  go_wp2_with fail
  refine (hGroundN _).mono ?_
  rintro _ _ ⟨rfl, rfl⟩
  go_wp2_with (first | (go_at_call 141; go_in) | (go_at_call 145; go_in) | (go_at_call 212; go_in))
  go_ret
  exact ⟨rfl, rfl⟩
theorem hCleanN (w : World) : Calls Tryz.prog 60 #[.pointer none] w fun e w' => e = .returned (.int .i64 0) ∧ w = w' := by
  go_enter Tryz.func60, Tryz.ntmps60
  go_wp2_with fail
  refine (hGroundN _).mono ?_
  rintro _ _ ⟨rfl, rfl⟩
  go_wp2_with (go_at_call 142; go_in)
  refine (seeRegN _ _).mono ?_
  rintro _ _ ⟨rfl, rfl⟩
  go_wp2_with fail
  go_ret
  exact ⟨rfl, rfl⟩
theorem hPendingN (w : World) : Calls Tryz.prog 61 #[.pointer none] w (Made w (.int .i64 0)) := by
  go_enter Tryz.func61, Tryz.ntmps61
  go_wp2_with fail
  refine (hGroundN _).mono ?_
  rintro _ _ ⟨rfl, rfl⟩
  go_wp2_with fail
  refine (gseeN _).mono ?_
  rintro _ w1 ⟨rfl, K1⟩
  go_wp2_with fail
  go_ret
  exact ⟨rfl, K1⟩
theorem hSlotsN (l : Value) (w : World) : Calls Tryz.prog 204 #[.pointer none, l] w fun e w' => e = .returned (.int .i64 1) ∧ w = w' := by
  go_enter Tryz.func204, Tryz.ntmps204
  go_wp2
  go_ret
  exact ⟨rfl, rfl⟩
theorem hAllocN (s p d : Int) (w : World) : Calls Tryz.prog 131 #[.pointer none, .int .i64 s, .int .i64 p, .int .i64 d] w (Made w (.int .i64 1)) := by
  go_enter Tryz.func131, Tryz.ntmps131
  go_wp2_with fail
  refine (hSlotsN _ _).mono ?_
  rintro _ _ ⟨rfl, rfl⟩
  go_wp2_with fail
  go_ret
  exact ⟨rfl, (Stays.refl _ _).alloc _⟩
theorem hLoadN (s p d : Int) (w : World) : Calls Tryz.prog 132 #[.pointer none, .int .i64 s, .int .i64 p, .int .i64 d] w (Made w (.int .i64 1)) := by
  go_enter Tryz.func132, Tryz.ntmps132
  go_wp2_with fail
  refine (hSlotsN _ _).mono ?_
  rintro _ _ ⟨rfl, rfl⟩
  go_wp2_with fail
  go_ret
  exact ⟨rfl, (Stays.refl _ _).alloc _⟩
theorem hStoreN (s p d : Int) (w : World) : Calls Tryz.prog 133 #[.pointer none, .int .i64 s, .int .i64 p, .int .i64 d] w (Made w (.int .i64 1)) := by
  go_enter Tryz.func133, Tryz.ntmps133
  go_wp2_with fail
  refine (hSlotsN _ _).mono ?_
  rintro _ _ ⟨rfl, rfl⟩
  go_wp2_with fail
  go_ret
  exact ⟨rfl, (Stays.refl _ _).alloc _⟩
theorem hReadN (s p : Int) (w : World) : Calls Tryz.prog 134 #[.pointer none, .int .i64 s, .int .i64 p] w (Made w (.tuple #[.int .u32 0, .int .i64 1])) := by
  go_enter Tryz.func134, Tryz.ntmps134
  go_wp2_with fail
  refine (hSlotsN _ _).mono ?_
  rintro _ _ ⟨rfl, rfl⟩
  go_wp2_with fail
  go_ret2
  exact ⟨rfl, (Stays.refl _ _).alloc _⟩
theorem hWriteN (s p v : Int) (w : World) : Calls Tryz.prog 135 #[.pointer none, .int .i64 s, .int .i64 p, .int .u32 v] w (Made w (.int .i64 1)) := by
  go_enter Tryz.func135, Tryz.ntmps135
  go_wp2_with fail
  refine (hSlotsN _ _).mono ?_
  rintro _ _ ⟨rfl, rfl⟩
  go_wp2_with fail
  go_ret
  exact ⟨rfl, (Stays.refl _ _).alloc _⟩
theorem hCopyN (s p : Int) (w : World) : Calls Tryz.prog 136 #[.pointer none, .int .i64 s, .int .i64 p] w (Made w (.int .i64 1)) := by
  go_enter Tryz.func136, Tryz.ntmps136
  go_wp2_with fail
  refine (hSlotsN _ _).mono ?_
  rintro _ _ ⟨rfl, rfl⟩
  go_wp2_with fail
  go_ret
  exact ⟨rfl, (Stays.refl _ _).alloc _⟩
theorem hDropN (s : Int) (w : World) : Calls Tryz.prog 137 #[.pointer none, .int .i64 s] w (Made w (.int .i64 1)) := by
  go_enter Tryz.func137, Tryz.ntmps137
  go_wp2_with fail
  refine (hSlotsN _ _).mono ?_
  rintro _ _ ⟨rfl, rfl⟩
  go_wp2_with fail
  go_ret
  exact ⟨rfl, (Stays.refl _ _).alloc _⟩
theorem hSameN (s p : Int) (w : World) : Calls Tryz.prog 138 #[.pointer none, .int .i64 s, .int .i64 p] w (Made w (.tuple #[.bool false, .int .i64 1])) := by
  go_enter Tryz.func138, Tryz.ntmps138
  go_wp2_with fail
  refine (hSlotsN _ _).mono ?_
  rintro _ _ ⟨rfl, rfl⟩
  go_wp2_with fail
  go_ret2
  exact ⟨rfl, (Stays.refl _ _).alloc _⟩
theorem hLenN (s : Int) (w : World) : Calls Tryz.prog 139 #[.pointer none, .int .i64 s] w (Made w (.tuple #[.int .i64 0, .int .i64 0, .int .i64 1])) := by
  go_enter Tryz.func139, Tryz.ntmps139
  go_wp2_with fail
  refine (hSlotsN _ _).mono ?_
  rintro _ _ ⟨rfl, rfl⟩
  go_wp2_with fail
  go_ret3
  exact ⟨rfl, (Stays.refl _ _).alloc _⟩
theorem hTickN (w : World) : Calls Tryz.prog 140 #[.pointer none] w (Made w (.int .i64 1)) := by
  go_enter Tryz.func140, Tryz.ntmps140
  go_wp2
  go_ret
  exact ⟨rfl, Stays.refl _ _⟩
theorem doLN (o : Op5) (h0 : 1 ≤ o.kind) (h1 : o.kind ≤ 10) (w : World) :
    Calls Tryz.prog 57 #[.pointer none, o.val] w (Made w (Ans.val ⟨1, 0, 0, 0⟩)) := by
  obtain ⟨kd, a, b, c, v⟩ := o
  simp only [] at h0 h1
  unfold Op5.val Ans.val
  by_cases c1 : kd = 1
  · subst c1
    have Bo : Blk ((w.alloc (.cells #[.int .i64 1, .int .i64 a, .int .i64 b, .int .i64 c, .int .u32 v] 53)).alloc (.cells #[.int .i64 0, .int .i64 0, .int .i64 0, .int .u32 0] 56)) w.heap.size 53 #[.int .i64 1, .int .i64 a, .int .i64 b, .int .i64 c, .int .u32 v] := ((Blk.new w _ _).alloc _)
    have Bz0 : Blk ((w.alloc (.cells #[.int .i64 1, .int .i64 a, .int .i64 b, .int .i64 c, .int .u32 v] 53)).alloc (.cells #[.int .i64 0, .int .i64 0, .int .i64 0, .int .u32 0] 56)) (w.heap.size + 1) 56 #[.int .i64 0, .int .i64 0, .int .i64 0, .int .u32 0] := by
      have h := Blk.new (w.alloc (.cells #[.int .i64 1, .int .i64 a, .int .i64 b, .int .i64 c, .int .u32 v] 53)) 56 #[.int .i64 0, .int .i64 0, .int .i64 0, .int .u32 0]
      simpa using h
    have K0 : Stays (fun _ => False) w ((w.alloc (.cells #[.int .i64 1, .int .i64 a, .int .i64 b, .int .i64 c, .int .u32 v] 53)).alloc (.cells #[.int .i64 0, .int .i64 0, .int .i64 0, .int .u32 0] 56)) := (((Stays.refl (fun _ => False) w).alloc _).alloc _)
    have co0 := Bo.cell 0
    have co1 := Bo.cell 1
    have co2 := Bo.cell 2
    have co3 := Bo.cell 3
    have co4 := Bo.cell 4
    go_enter Tryz.func57, Tryz.ntmps57
    go_wp2_with fail
    refine (hAllocN _ _ _ _).mono ?_
    rintro _ w1 ⟨rfl, K1⟩
    have Bz0 := Bz0.stays K1 (fun x => x)
    go_wp2_with (refine wpList_store_blk rfl _ _ _ rfl (w.heap.size + 1) rfl 56 _ _ rfl Bz0 (by kernel_rfl) rfl (by simp [Value.oneCell']) ?_; intro wz Bz0Z KZ)
    refine bodyPost_ret (results_blk (P := Tryz.prog) (p := 4) (ty := 56) rfl _ _ (w.heap.size + 1) 56 _ _ rfl Bz0Z Tryz.underlying56 rfl (by kernel_rfl)) rfl ?_
    exact ⟨rfl, (K0.trans K1).own KZ (Nat.le_add_right _ 1)⟩
  have d1 : (kd == 1) = false := beq_eq_false_iff_ne.2 c1
  by_cases c2 : kd = 2
  · subst c2
    have Bo : Blk ((w.alloc (.cells #[.int .i64 2, .int .i64 a, .int .i64 b, .int .i64 c, .int .u32 v] 53)).alloc (.cells #[.int .i64 0, .int .i64 0, .int .i64 0, .int .u32 0] 56)) w.heap.size 53 #[.int .i64 2, .int .i64 a, .int .i64 b, .int .i64 c, .int .u32 v] := ((Blk.new w _ _).alloc _)
    have Bz0 : Blk ((w.alloc (.cells #[.int .i64 2, .int .i64 a, .int .i64 b, .int .i64 c, .int .u32 v] 53)).alloc (.cells #[.int .i64 0, .int .i64 0, .int .i64 0, .int .u32 0] 56)) (w.heap.size + 1) 56 #[.int .i64 0, .int .i64 0, .int .i64 0, .int .u32 0] := by
      have h := Blk.new (w.alloc (.cells #[.int .i64 2, .int .i64 a, .int .i64 b, .int .i64 c, .int .u32 v] 53)) 56 #[.int .i64 0, .int .i64 0, .int .i64 0, .int .u32 0]
      simpa using h
    have K0 : Stays (fun _ => False) w ((w.alloc (.cells #[.int .i64 2, .int .i64 a, .int .i64 b, .int .i64 c, .int .u32 v] 53)).alloc (.cells #[.int .i64 0, .int .i64 0, .int .i64 0, .int .u32 0] 56)) := (((Stays.refl (fun _ => False) w).alloc _).alloc _)
    have co0 := Bo.cell 0
    have co1 := Bo.cell 1
    have co2 := Bo.cell 2
    have co3 := Bo.cell 3
    have co4 := Bo.cell 4
    go_enter Tryz.func57, Tryz.ntmps57
    go_wp2_with fail
    refine (hLoadN _ _ _ _).mono ?_
    rintro _ w1 ⟨rfl, K1⟩
    have Bz0 := Bz0.stays K1 (fun x => x)
    go_wp2_with (refine wpList_store_blk rfl _ _ _ rfl (w.heap.size + 1) rfl 56 _ _ rfl Bz0 (by kernel_rfl) rfl (by simp [Value.oneCell']) ?_; intro wz Bz0Z KZ)
    refine bodyPost_ret (results_blk (P := Tryz.prog) (p := 4) (ty := 56) rfl _ _ (w.heap.size + 1) 56 _ _ rfl Bz0Z Tryz.underlying56 rfl (by kernel_rfl)) rfl ?_
    exact ⟨rfl, (K0.trans K1).own KZ (Nat.le_add_right _ 1)⟩
  have d2 : (kd == 2) = false := beq_eq_false_iff_ne.2 c2
  by_cases c3 : kd = 3
  · subst c3
    have Bo : Blk ((w.alloc (.cells #[.int .i64 3, .int .i64 a, .int .i64 b, .int .i64 c, .int .u32 v] 53)).alloc (.cells #[.int .i64 0, .int .i64 0, .int .i64 0, .int .u32 0] 56)) w.heap.size 53 #[.int .i64 3, .int .i64 a, .int .i64 b, .int .i64 c, .int .u32 v] := ((Blk.new w _ _).alloc _)
    have Bz0 : Blk ((w.alloc (.cells #[.int .i64 3, .int .i64 a, .int .i64 b, .int .i64 c, .int .u32 v] 53)).alloc (.cells #[.int .i64 0, .int .i64 0, .int .i64 0, .int .u32 0] 56)) (w.heap.size + 1) 56 #[.int .i64 0, .int .i64 0, .int .i64 0, .int .u32 0] := by
      have h := Blk.new (w.alloc (.cells #[.int .i64 3, .int .i64 a, .int .i64 b, .int .i64 c, .int .u32 v] 53)) 56 #[.int .i64 0, .int .i64 0, .int .i64 0, .int .u32 0]
      simpa using h
    have K0 : Stays (fun _ => False) w ((w.alloc (.cells #[.int .i64 3, .int .i64 a, .int .i64 b, .int .i64 c, .int .u32 v] 53)).alloc (.cells #[.int .i64 0, .int .i64 0, .int .i64 0, .int .u32 0] 56)) := (((Stays.refl (fun _ => False) w).alloc _).alloc _)
    have co0 := Bo.cell 0
    have co1 := Bo.cell 1
    have co2 := Bo.cell 2
    have co3 := Bo.cell 3
    have co4 := Bo.cell 4
    go_enter Tryz.func57, Tryz.ntmps57
    go_wp2_with fail
    refine (hStoreN _ _ _ _).mono ?_
    rintro _ w1 ⟨rfl, K1⟩
    have Bz0 := Bz0.stays K1 (fun x => x)
    go_wp2_with (refine wpList_store_blk rfl _ _ _ rfl (w.heap.size + 1) rfl 56 _ _ rfl Bz0 (by kernel_rfl) rfl (by simp [Value.oneCell']) ?_; intro wz Bz0Z KZ)
    refine bodyPost_ret (results_blk (P := Tryz.prog) (p := 4) (ty := 56) rfl _ _ (w.heap.size + 1) 56 _ _ rfl Bz0Z Tryz.underlying56 rfl (by kernel_rfl)) rfl ?_
    exact ⟨rfl, (K0.trans K1).own KZ (Nat.le_add_right _ 1)⟩
  have d3 : (kd == 3) = false := beq_eq_false_iff_ne.2 c3
  by_cases c4 : kd = 4
  · subst c4
    have Bo : Blk ((w.alloc (.cells #[.int .i64 4, .int .i64 a, .int .i64 b, .int .i64 c, .int .u32 v] 53)).alloc (.cells #[.int .i64 0, .int .i64 0, .int .i64 0, .int .u32 0] 56)) w.heap.size 53 #[.int .i64 4, .int .i64 a, .int .i64 b, .int .i64 c, .int .u32 v] := ((Blk.new w _ _).alloc _)
    have Bz0 : Blk ((w.alloc (.cells #[.int .i64 4, .int .i64 a, .int .i64 b, .int .i64 c, .int .u32 v] 53)).alloc (.cells #[.int .i64 0, .int .i64 0, .int .i64 0, .int .u32 0] 56)) (w.heap.size + 1) 56 #[.int .i64 0, .int .i64 0, .int .i64 0, .int .u32 0] := by
      have h := Blk.new (w.alloc (.cells #[.int .i64 4, .int .i64 a, .int .i64 b, .int .i64 c, .int .u32 v] 53)) 56 #[.int .i64 0, .int .i64 0, .int .i64 0, .int .u32 0]
      simpa using h
    have K0 : Stays (fun _ => False) w ((w.alloc (.cells #[.int .i64 4, .int .i64 a, .int .i64 b, .int .i64 c, .int .u32 v] 53)).alloc (.cells #[.int .i64 0, .int .i64 0, .int .i64 0, .int .u32 0] 56)) := (((Stays.refl (fun _ => False) w).alloc _).alloc _)
    have co0 := Bo.cell 0
    have co1 := Bo.cell 1
    have co2 := Bo.cell 2
    have co3 := Bo.cell 3
    have co4 := Bo.cell 4
    go_enter Tryz.func57, Tryz.ntmps57
    go_wp2_with fail
    refine (hReadN _ _ _).mono ?_
    rintro _ w1 ⟨rfl, K1⟩
    have Bz0 := Bz0.stays K1 (fun x => x)
    go_wp2_with (refine wpList_store_blk rfl _ _ _ rfl (w.heap.size + 1) rfl 56 _ _ rfl Bz0 (by kernel_rfl) rfl (by simp [Value.oneCell']) ?_; intro wz Bz0Z KZ)
    refine bodyPost_ret (results_blk (P := Tryz.prog) (p := 4) (ty := 56) rfl _ _ (w.heap.size + 1) 56 _ _ rfl Bz0Z Tryz.underlying56 rfl (by kernel_rfl)) rfl ?_
    exact ⟨rfl, (K0.trans K1).own KZ (Nat.le_add_right _ 1)⟩
  have d4 : (kd == 4) = false := beq_eq_false_iff_ne.2 c4
  by_cases c5 : kd = 5
  · subst c5
    have Bo : Blk ((w.alloc (.cells #[.int .i64 5, .int .i64 a, .int .i64 b, .int .i64 c, .int .u32 v] 53)).alloc (.cells #[.int .i64 0, .int .i64 0, .int .i64 0, .int .u32 0] 56)) w.heap.size 53 #[.int .i64 5, .int .i64 a, .int .i64 b, .int .i64 c, .int .u32 v] := ((Blk.new w _ _).alloc _)
    have Bz0 : Blk ((w.alloc (.cells #[.int .i64 5, .int .i64 a, .int .i64 b, .int .i64 c, .int .u32 v] 53)).alloc (.cells #[.int .i64 0, .int .i64 0, .int .i64 0, .int .u32 0] 56)) (w.heap.size + 1) 56 #[.int .i64 0, .int .i64 0, .int .i64 0, .int .u32 0] := by
      have h := Blk.new (w.alloc (.cells #[.int .i64 5, .int .i64 a, .int .i64 b, .int .i64 c, .int .u32 v] 53)) 56 #[.int .i64 0, .int .i64 0, .int .i64 0, .int .u32 0]
      simpa using h
    have K0 : Stays (fun _ => False) w ((w.alloc (.cells #[.int .i64 5, .int .i64 a, .int .i64 b, .int .i64 c, .int .u32 v] 53)).alloc (.cells #[.int .i64 0, .int .i64 0, .int .i64 0, .int .u32 0] 56)) := (((Stays.refl (fun _ => False) w).alloc _).alloc _)
    have co0 := Bo.cell 0
    have co1 := Bo.cell 1
    have co2 := Bo.cell 2
    have co3 := Bo.cell 3
    have co4 := Bo.cell 4
    go_enter Tryz.func57, Tryz.ntmps57
    go_wp2_with fail
    refine (hWriteN _ _ _ _).mono ?_
    rintro _ w1 ⟨rfl, K1⟩
    have Bz0 := Bz0.stays K1 (fun x => x)
    go_wp2_with (refine wpList_store_blk rfl _ _ _ rfl (w.heap.size + 1) rfl 56 _ _ rfl Bz0 (by kernel_rfl) rfl (by simp [Value.oneCell']) ?_; intro wz Bz0Z KZ)
    refine bodyPost_ret (results_blk (P := Tryz.prog) (p := 4) (ty := 56) rfl _ _ (w.heap.size + 1) 56 _ _ rfl Bz0Z Tryz.underlying56 rfl (by kernel_rfl)) rfl ?_
    exact ⟨rfl, (K0.trans K1).own KZ (Nat.le_add_right _ 1)⟩
  have d5 : (kd == 5) = false := beq_eq_false_iff_ne.2 c5
  by_cases c6 : kd = 6
  · subst c6
    have Bo : Blk ((w.alloc (.cells #[.int .i64 6, .int .i64 a, .int .i64 b, .int .i64 c, .int .u32 v] 53)).alloc (.cells #[.int .i64 0, .int .i64 0, .int .i64 0, .int .u32 0] 56)) w.heap.size 53 #[.int .i64 6, .int .i64 a, .int .i64 b, .int .i64 c, .int .u32 v] := ((Blk.new w _ _).alloc _)
    have Bz0 : Blk ((w.alloc (.cells #[.int .i64 6, .int .i64 a, .int .i64 b, .int .i64 c, .int .u32 v] 53)).alloc (.cells #[.int .i64 0, .int .i64 0, .int .i64 0, .int .u32 0] 56)) (w.heap.size + 1) 56 #[.int .i64 0, .int .i64 0, .int .i64 0, .int .u32 0] := by
      have h := Blk.new (w.alloc (.cells #[.int .i64 6, .int .i64 a, .int .i64 b, .int .i64 c, .int .u32 v] 53)) 56 #[.int .i64 0, .int .i64 0, .int .i64 0, .int .u32 0]
      simpa using h
    have K0 : Stays (fun _ => False) w ((w.alloc (.cells #[.int .i64 6, .int .i64 a, .int .i64 b, .int .i64 c, .int .u32 v] 53)).alloc (.cells #[.int .i64 0, .int .i64 0, .int .i64 0, .int .u32 0] 56)) := (((Stays.refl (fun _ => False) w).alloc _).alloc _)
    have co0 := Bo.cell 0
    have co1 := Bo.cell 1
    have co2 := Bo.cell 2
    have co3 := Bo.cell 3
    have co4 := Bo.cell 4
    go_enter Tryz.func57, Tryz.ntmps57
    go_wp2_with fail
    refine (hCopyN _ _ _).mono ?_
    rintro _ w1 ⟨rfl, K1⟩
    have Bz0 := Bz0.stays K1 (fun x => x)
    go_wp2_with (refine wpList_store_blk rfl _ _ _ rfl (w.heap.size + 1) rfl 56 _ _ rfl Bz0 (by kernel_rfl) rfl (by simp [Value.oneCell']) ?_; intro wz Bz0Z KZ)
    refine bodyPost_ret (results_blk (P := Tryz.prog) (p := 4) (ty := 56) rfl _ _ (w.heap.size + 1) 56 _ _ rfl Bz0Z Tryz.underlying56 rfl (by kernel_rfl)) rfl ?_
    exact ⟨rfl, (K0.trans K1).own KZ (Nat.le_add_right _ 1)⟩
  have d6 : (kd == 6) = false := beq_eq_false_iff_ne.2 c6
  by_cases c7 : kd = 7
  · subst c7
    have Bo : Blk ((w.alloc (.cells #[.int .i64 7, .int .i64 a, .int .i64 b, .int .i64 c, .int .u32 v] 53)).alloc (.cells #[.int .i64 0, .int .i64 0, .int .i64 0, .int .u32 0] 56)) w.heap.size 53 #[.int .i64 7, .int .i64 a, .int .i64 b, .int .i64 c, .int .u32 v] := ((Blk.new w _ _).alloc _)
    have Bz0 : Blk ((w.alloc (.cells #[.int .i64 7, .int .i64 a, .int .i64 b, .int .i64 c, .int .u32 v] 53)).alloc (.cells #[.int .i64 0, .int .i64 0, .int .i64 0, .int .u32 0] 56)) (w.heap.size + 1) 56 #[.int .i64 0, .int .i64 0, .int .i64 0, .int .u32 0] := by
      have h := Blk.new (w.alloc (.cells #[.int .i64 7, .int .i64 a, .int .i64 b, .int .i64 c, .int .u32 v] 53)) 56 #[.int .i64 0, .int .i64 0, .int .i64 0, .int .u32 0]
      simpa using h
    have K0 : Stays (fun _ => False) w ((w.alloc (.cells #[.int .i64 7, .int .i64 a, .int .i64 b, .int .i64 c, .int .u32 v] 53)).alloc (.cells #[.int .i64 0, .int .i64 0, .int .i64 0, .int .u32 0] 56)) := (((Stays.refl (fun _ => False) w).alloc _).alloc _)
    have co0 := Bo.cell 0
    have co1 := Bo.cell 1
    have co2 := Bo.cell 2
    have co3 := Bo.cell 3
    have co4 := Bo.cell 4
    go_enter Tryz.func57, Tryz.ntmps57
    go_wp2_with fail
    refine (hDropN _ _).mono ?_
    rintro _ w1 ⟨rfl, K1⟩
    have Bz0 := Bz0.stays K1 (fun x => x)
    go_wp2_with (refine wpList_store_blk rfl _ _ _ rfl (w.heap.size + 1) rfl 56 _ _ rfl Bz0 (by kernel_rfl) rfl (by simp [Value.oneCell']) ?_; intro wz Bz0Z KZ)
    refine bodyPost_ret (results_blk (P := Tryz.prog) (p := 4) (ty := 56) rfl _ _ (w.heap.size + 1) 56 _ _ rfl Bz0Z Tryz.underlying56 rfl (by kernel_rfl)) rfl ?_
    exact ⟨rfl, (K0.trans K1).own KZ (Nat.le_add_right _ 1)⟩
  have d7 : (kd == 7) = false := beq_eq_false_iff_ne.2 c7
  by_cases c8 : kd = 8
  · subst c8
    have Bo : Blk ((w.alloc (.cells #[.int .i64 8, .int .i64 a, .int .i64 b, .int .i64 c, .int .u32 v] 53)).alloc (.cells #[.int .i64 0, .int .i64 0, .int .i64 0, .int .u32 0] 56)) w.heap.size 53 #[.int .i64 8, .int .i64 a, .int .i64 b, .int .i64 c, .int .u32 v] := ((Blk.new w _ _).alloc _)
    have Bz0 : Blk ((w.alloc (.cells #[.int .i64 8, .int .i64 a, .int .i64 b, .int .i64 c, .int .u32 v] 53)).alloc (.cells #[.int .i64 0, .int .i64 0, .int .i64 0, .int .u32 0] 56)) (w.heap.size + 1) 56 #[.int .i64 0, .int .i64 0, .int .i64 0, .int .u32 0] := by
      have h := Blk.new (w.alloc (.cells #[.int .i64 8, .int .i64 a, .int .i64 b, .int .i64 c, .int .u32 v] 53)) 56 #[.int .i64 0, .int .i64 0, .int .i64 0, .int .u32 0]
      simpa using h
    have K0 : Stays (fun _ => False) w ((w.alloc (.cells #[.int .i64 8, .int .i64 a, .int .i64 b, .int .i64 c, .int .u32 v] 53)).alloc (.cells #[.int .i64 0, .int .i64 0, .int .i64 0, .int .u32 0] 56)) := (((Stays.refl (fun _ => False) w).alloc _).alloc _)
    have co0 := Bo.cell 0
    have co1 := Bo.cell 1
    have co2 := Bo.cell 2
    have co3 := Bo.cell 3
    have co4 := Bo.cell 4
    go_enter Tryz.func57, Tryz.ntmps57
    go_wp2_with fail
    refine (hSameN _ _ _).mono ?_
    rintro _ w1 ⟨rfl, K1⟩
    have Bz0 := Bz0.stays K1 (fun x => x)
    go_wp2_with (refine wpList_store_blk rfl _ _ _ rfl (w.heap.size + 1) rfl 56 _ _ rfl Bz0 (by kernel_rfl) rfl (by simp [Value.oneCell']) ?_; intro wz Bz0Z KZ)
    refine bodyPost_ret (results_blk (P := Tryz.prog) (p := 4) (ty := 56) rfl _ _ (w.heap.size + 1) 56 _ _ rfl Bz0Z Tryz.underlying56 rfl (by kernel_rfl)) rfl ?_
    exact ⟨rfl, (K0.trans K1).own KZ (Nat.le_add_right _ 1)⟩
  have d8 : (kd == 8) = false := beq_eq_false_iff_ne.2 c8
  by_cases c9 : kd = 9
  · subst c9
    have Bo : Blk ((w.alloc (.cells #[.int .i64 9, .int .i64 a, .int .i64 b, .int .i64 c, .int .u32 v] 53)).alloc (.cells #[.int .i64 0, .int .i64 0, .int .i64 0, .int .u32 0] 56)) w.heap.size 53 #[.int .i64 9, .int .i64 a, .int .i64 b, .int .i64 c, .int .u32 v] := ((Blk.new w _ _).alloc _)
    have Bz0 : Blk ((w.alloc (.cells #[.int .i64 9, .int .i64 a, .int .i64 b, .int .i64 c, .int .u32 v] 53)).alloc (.cells #[.int .i64 0, .int .i64 0, .int .i64 0, .int .u32 0] 56)) (w.heap.size + 1) 56 #[.int .i64 0, .int .i64 0, .int .i64 0, .int .u32 0] := by
      have h := Blk.new (w.alloc (.cells #[.int .i64 9, .int .i64 a, .int .i64 b, .int .i64 c, .int .u32 v] 53)) 56 #[.int .i64 0, .int .i64 0, .int .i64 0, .int .u32 0]
      simpa using h
    have K0 : Stays (fun _ => False) w ((w.alloc (.cells #[.int .i64 9, .int .i64 a, .int .i64 b, .int .i64 c, .int .u32 v] 53)).alloc (.cells #[.int .i64 0, .int .i64 0, .int .i64 0, .int .u32 0] 56)) := (((Stays.refl (fun _ => False) w).alloc _).alloc _)
    have co0 := Bo.cell 0
    have co1 := Bo.cell 1
    have co2 := Bo.cell 2
    have co3 := Bo.cell 3
    have co4 := Bo.cell 4
    go_enter Tryz.func57, Tryz.ntmps57
    go_wp2_with fail
    refine (hLenN _ _).mono ?_
    rintro _ w1 ⟨rfl, K1⟩
    have Bz0 := Bz0.stays K1 (fun x => x)
    go_wp2_with (refine wpList_store_blk rfl _ _ _ rfl (w.heap.size + 1) rfl 56 _ _ rfl Bz0 (by kernel_rfl) rfl (by simp [Value.oneCell']) ?_; intro wz Bz0Z KZ)
    refine bodyPost_ret (results_blk (P := Tryz.prog) (p := 4) (ty := 56) rfl _ _ (w.heap.size + 1) 56 _ _ rfl Bz0Z Tryz.underlying56 rfl (by kernel_rfl)) rfl ?_
    exact ⟨rfl, (K0.trans K1).own KZ (Nat.le_add_right _ 1)⟩
  have d9 : (kd == 9) = false := beq_eq_false_iff_ne.2 c9
  obtain rfl : kd = 10 := by omega
  have Bo : Blk ((w.alloc (.cells #[.int .i64 10, .int .i64 a, .int .i64 b, .int .i64 c, .int .u32 v] 53)).alloc (.cells #[.int .i64 0, .int .i64 0, .int .i64 0, .int .u32 0] 56)) w.heap.size 53 #[.int .i64 10, .int .i64 a, .int .i64 b, .int .i64 c, .int .u32 v] := ((Blk.new w _ _).alloc _)
  have Bz0 : Blk ((w.alloc (.cells #[.int .i64 10, .int .i64 a, .int .i64 b, .int .i64 c, .int .u32 v] 53)).alloc (.cells #[.int .i64 0, .int .i64 0, .int .i64 0, .int .u32 0] 56)) (w.heap.size + 1) 56 #[.int .i64 0, .int .i64 0, .int .i64 0, .int .u32 0] := by
    have h := Blk.new (w.alloc (.cells #[.int .i64 10, .int .i64 a, .int .i64 b, .int .i64 c, .int .u32 v] 53)) 56 #[.int .i64 0, .int .i64 0, .int .i64 0, .int .u32 0]
    simpa using h
  have K0 : Stays (fun _ => False) w ((w.alloc (.cells #[.int .i64 10, .int .i64 a, .int .i64 b, .int .i64 c, .int .u32 v] 53)).alloc (.cells #[.int .i64 0, .int .i64 0, .int .i64 0, .int .u32 0] 56)) := (((Stays.refl (fun _ => False) w).alloc _).alloc _)
  have co0 := Bo.cell 0
  have co1 := Bo.cell 1
  have co2 := Bo.cell 2
  have co3 := Bo.cell 3
  have co4 := Bo.cell 4
  go_enter Tryz.func57, Tryz.ntmps57
  go_wp2_with fail
  refine (hTickN _).mono ?_
  rintro _ w1 ⟨rfl, K1⟩
  have Bz0 := Bz0.stays K1 (fun x => x)
  go_wp2_with (refine wpList_store_blk rfl _ _ _ rfl (w.heap.size + 1) rfl 56 _ _ rfl Bz0 (by kernel_rfl) rfl (by simp [Value.oneCell']) ?_; intro wz Bz0Z KZ)
  refine bodyPost_ret (results_blk (P := Tryz.prog) (p := 4) (ty := 56) rfl _ _ (w.heap.size + 1) 56 _ _ rfl Bz0Z Tryz.underlying56 rfl (by kernel_rfl)) rfl ?_
  exact ⟨rfl, (K0.trans K1).own KZ (Nat.le_add_right _ 1)⟩
end Go.Proofs.YtadhdjldcpkfiaaGreatDoor
