/- HeapNobody: the law itself, walked. -/
import Derived.Test.YtadhdjldcpkfiaaGreatDoorK11
import Derived.Test.YtadhdjldcpkfiaaGreatDoorZh
import Derived.Test.YtadhdjldcpkfiaaGreatDoorDr
namespace Go.Proofs.YtadhdjldcpkfiaaGreatDoor
set_option linter.unusedVariables false
set_option linter.unusedSimpArgs false
open Go.RowKit
set_option maxRecDepth 100000
set_option maxHeartbeats 8000000

theorem lawHN_inbig (N W R K kd a b c v : Int) (w : World) (HZ : NoneZ w) (h0 : 1 ≤ kd) (h1 : kd ≤ 10) (hp : plCheck N W R K = 0) (hn : 3000 < N) :
    Calls Tryz.prog 11 #[.agg #[.int .i64 N, .int .i64 W, .int .i64 R, .int .i64 K], .agg #[.int .i64 kd, .int .i64 a, .int .i64 b, .int .i64 c, .int .u32 v]] w (Made w (.bool true)) := by
  have HB := Hd.mk (fun w HZ => begunHeap_c w HZ)
  have HZ' := Hd.mk HZ
  clear HZ
  have K0 : Stays (fun _ => False) w ((w.alloc (.cells #[.int .i64 N, .int .i64 W, .int .i64 R, .int .i64 K] 46)).alloc (.cells #[.int .i64 kd, .int .i64 a, .int .i64 b, .int .i64 c, .int .u32 v] 53)) := ((Stays.refl _ _).alloc _).alloc _
  have Bc : Blk ((w.alloc (.cells #[.int .i64 N, .int .i64 W, .int .i64 R, .int .i64 K] 46)).alloc (.cells #[.int .i64 kd, .int .i64 a, .int .i64 b, .int .i64 c, .int .u32 v] 53)) w.heap.size 46 #[.int .i64 N, .int .i64 W, .int .i64 R, .int .i64 K] := (Blk.new w _ _).alloc _
  have Bo : Blk ((w.alloc (.cells #[.int .i64 N, .int .i64 W, .int .i64 R, .int .i64 K] 46)).alloc (.cells #[.int .i64 kd, .int .i64 a, .int .i64 b, .int .i64 c, .int .u32 v] 53)) (w.heap.size + 1) 53 #[.int .i64 kd, .int .i64 a, .int .i64 b, .int .i64 c, .int .u32 v] := by
    have h := Blk.new (w.alloc (.cells #[.int .i64 N, .int .i64 W, .int .i64 R, .int .i64 K] 46)) 53 #[.int .i64 kd, .int .i64 a, .int .i64 b, .int .i64 c, .int .u32 v]
    simpa using h
  have HK := Hd.mk (And.intro h0 h1)
  have t1 : decide (1 ≤ kd) = true := decide_eq_true h0
  have t2 : decide (kd ≤ 10) = true := decide_eq_true h1
  clear h0 h1
  have P : Hd (decide (plCheck N W R K = 0) = true) := ⟨decide_eq_true hp⟩
  have t3 : decide (3000 < N) = true := decide_eq_true hn
  clear hp hn
  have fc0 := Bc.cell 0
  have fc1 := Bc.cell 1
  have fc2 := Bc.cell 2
  have fc3 := Bc.cell 3
  have fo0 := Bo.cell 0
  have fo1 := Bo.cell 1
  have fo2 := Bo.cell 2
  have fo3 := Bo.cell 3
  have fo4 := Bo.cell 4
  have KK := K0
  go_enter Tryz.func11, Tryz.ntmps11
  go_wp2_with fail
  refine (doLN ⟨kd, a, b, c, v⟩ HK.out.1 HK.out.2 _).mono ?_
  rintro _ w1 ⟨rfl, K1⟩
  replace Bc := Bc.stays K1 (fun x => x)
  replace Bo := Bo.stays K1 (fun x => x)
  have KK := KK.trans K1
  have fc0 := Bc.cell 0
  have fc1 := Bc.cell 1
  have fc2 := Bc.cell 2
  have fc3 := Bc.cell 3
  have fo0 := Bo.cell 0
  have fo1 := Bo.cell 1
  have fo2 := Bo.cell 2
  have fo3 := Bo.cell 3
  have fo4 := Bo.cell 4
  unfold Ans.val
  go_wp2_with fail
  refine (hConfN _).mono ?_
  rintro _ w2 ⟨rfl, K2⟩
  replace Bc := Bc.stays K2 (fun x => x)
  replace Bo := Bo.stays K2 (fun x => x)
  have KK := KK.trans K2
  have fc0 := Bc.cell 0
  have fc1 := Bc.cell 1
  have fc2 := Bc.cell 2
  have fc3 := Bc.cell 3
  have fo0 := Bo.cell 0
  have fo1 := Bo.cell 1
  have fo2 := Bo.cell 2
  have fo3 := Bo.cell 3
  have fo4 := Bo.cell 4
  go_wp2_with fail
  refine (hMeterN _).mono ?_
  rintro _ _ ⟨rfl, rfl⟩
  go_wp2_with fail
  refine (hCleanN _).mono ?_
  rintro _ _ ⟨rfl, rfl⟩
  go_wp2_with fail
  refine (hPendingN _).mono ?_
  rintro _ w3 ⟨rfl, K3⟩
  replace Bc := Bc.stays K3 (fun x => x)
  replace Bo := Bo.stays K3 (fun x => x)
  have KK := KK.trans K3
  have fc0 := Bc.cell 0
  have fc1 := Bc.cell 1
  have fc2 := Bc.cell 2
  have fc3 := Bc.cell 3
  have fo0 := Bo.cell 0
  have fo1 := Bo.cell 1
  have fo2 := Bo.cell 2
  have fo3 := Bo.cell 3
  have fo4 := Bo.cell 4
  go_wp2_with fail
  refine (hGroundN _).mono ?_
  rintro _ _ ⟨rfl, rfl⟩
  go_wp2_with fail
  refine (May_c _ _ _ _ _).mono ?_
  rintro _ w4 ⟨rfl, K4⟩
  replace Bc := Bc.stays K4 (fun x => x)
  replace Bo := Bo.stays K4 (fun x => x)
  have KK := KK.trans K4
  have fc0 := Bc.cell 0
  have fc1 := Bc.cell 1
  have fc2 := Bc.cell 2
  have fc3 := Bc.cell 3
  have fo0 := Bo.cell 0
  have fo1 := Bo.cell 1
  have fo2 := Bo.cell 2
  have fo3 := Bo.cell 3
  have fo4 := Bo.cell 4
  rw [P.out]
  go_wp2_with fail
  refine (HB.out _ (HZ'.out.stays KK (fun x => x))).mono ?_
  rintro _ w5 ⟨rfl, K5⟩
  go_wp2_with fail
  go_ret
  exact ⟨rfl, KK.trans K5⟩
theorem lawHN_inok (N W R K kd a b c v : Int) (w : World) (HZ : NoneZ w) (h0 : 1 ≤ kd) (h1 : kd ≤ 10) (hp : plCheck N W R K = 0) (hn : ¬ 3000 < N) :
    Calls Tryz.prog 11 #[.agg #[.int .i64 N, .int .i64 W, .int .i64 R, .int .i64 K], .agg #[.int .i64 kd, .int .i64 a, .int .i64 b, .int .i64 c, .int .u32 v]] w (Made w (.bool true)) := by
  have HB := Hd.mk (fun w HZ => begunHeap_c w HZ)
  have HZ' := Hd.mk HZ
  clear HZ
  have K0 : Stays (fun _ => False) w ((w.alloc (.cells #[.int .i64 N, .int .i64 W, .int .i64 R, .int .i64 K] 46)).alloc (.cells #[.int .i64 kd, .int .i64 a, .int .i64 b, .int .i64 c, .int .u32 v] 53)) := ((Stays.refl _ _).alloc _).alloc _
  have Bc : Blk ((w.alloc (.cells #[.int .i64 N, .int .i64 W, .int .i64 R, .int .i64 K] 46)).alloc (.cells #[.int .i64 kd, .int .i64 a, .int .i64 b, .int .i64 c, .int .u32 v] 53)) w.heap.size 46 #[.int .i64 N, .int .i64 W, .int .i64 R, .int .i64 K] := (Blk.new w _ _).alloc _
  have Bo : Blk ((w.alloc (.cells #[.int .i64 N, .int .i64 W, .int .i64 R, .int .i64 K] 46)).alloc (.cells #[.int .i64 kd, .int .i64 a, .int .i64 b, .int .i64 c, .int .u32 v] 53)) (w.heap.size + 1) 53 #[.int .i64 kd, .int .i64 a, .int .i64 b, .int .i64 c, .int .u32 v] := by
    have h := Blk.new (w.alloc (.cells #[.int .i64 N, .int .i64 W, .int .i64 R, .int .i64 K] 46)) 53 #[.int .i64 kd, .int .i64 a, .int .i64 b, .int .i64 c, .int .u32 v]
    simpa using h
  have HK := Hd.mk (And.intro h0 h1)
  have t1 : decide (1 ≤ kd) = true := decide_eq_true h0
  have t2 : decide (kd ≤ 10) = true := decide_eq_true h1
  clear h0 h1
  have P : Hd (decide (plCheck N W R K = 0) = true) := ⟨decide_eq_true hp⟩
  have PL := Hd.mk hp
  have t3 : decide (3000 < N) = false := decide_eq_false hn
  clear hp hn
  have fc0 := Bc.cell 0
  have fc1 := Bc.cell 1
  have fc2 := Bc.cell 2
  have fc3 := Bc.cell 3
  have fo0 := Bo.cell 0
  have fo1 := Bo.cell 1
  have fo2 := Bo.cell 2
  have fo3 := Bo.cell 3
  have fo4 := Bo.cell 4
  have KK := K0
  go_enter Tryz.func11, Tryz.ntmps11
  go_wp2_with fail
  refine (doLN ⟨kd, a, b, c, v⟩ HK.out.1 HK.out.2 _).mono ?_
  rintro _ w1 ⟨rfl, K1⟩
  replace Bc := Bc.stays K1 (fun x => x)
  replace Bo := Bo.stays K1 (fun x => x)
  have KK := KK.trans K1
  have fc0 := Bc.cell 0
  have fc1 := Bc.cell 1
  have fc2 := Bc.cell 2
  have fc3 := Bc.cell 3
  have fo0 := Bo.cell 0
  have fo1 := Bo.cell 1
  have fo2 := Bo.cell 2
  have fo3 := Bo.cell 3
  have fo4 := Bo.cell 4
  unfold Ans.val
  go_wp2_with fail
  refine (hConfN _).mono ?_
  rintro _ w2 ⟨rfl, K2⟩
  replace Bc := Bc.stays K2 (fun x => x)
  replace Bo := Bo.stays K2 (fun x => x)
  have KK := KK.trans K2
  have fc0 := Bc.cell 0
  have fc1 := Bc.cell 1
  have fc2 := Bc.cell 2
  have fc3 := Bc.cell 3
  have fo0 := Bo.cell 0
  have fo1 := Bo.cell 1
  have fo2 := Bo.cell 2
  have fo3 := Bo.cell 3
  have fo4 := Bo.cell 4
  go_wp2_with fail
  refine (hMeterN _).mono ?_
  rintro _ _ ⟨rfl, rfl⟩
  go_wp2_with fail
  refine (hCleanN _).mono ?_
  rintro _ _ ⟨rfl, rfl⟩
  go_wp2_with fail
  refine (hPendingN _).mono ?_
  rintro _ w3 ⟨rfl, K3⟩
  replace Bc := Bc.stays K3 (fun x => x)
  replace Bo := Bo.stays K3 (fun x => x)
  have KK := KK.trans K3
  have fc0 := Bc.cell 0
  have fc1 := Bc.cell 1
  have fc2 := Bc.cell 2
  have fc3 := Bc.cell 3
  have fo0 := Bo.cell 0
  have fo1 := Bo.cell 1
  have fo2 := Bo.cell 2
  have fo3 := Bo.cell 3
  have fo4 := Bo.cell 4
  go_wp2_with fail
  refine (hGroundN _).mono ?_
  rintro _ _ ⟨rfl, rfl⟩
  go_wp2_with fail
  refine (May_c _ _ _ _ _).mono ?_
  rintro _ w4 ⟨rfl, K4⟩
  replace Bc := Bc.stays K4 (fun x => x)
  replace Bo := Bo.stays K4 (fun x => x)
  have KK := KK.trans K4
  have fc0 := Bc.cell 0
  have fc1 := Bc.cell 1
  have fc2 := Bc.cell 2
  have fc3 := Bc.cell 3
  have fo0 := Bo.cell 0
  have fo1 := Bo.cell 1
  have fo2 := Bo.cell 2
  have fo3 := Bo.cell 3
  have fo4 := Bo.cell 4
  rw [P.out]
  go_wp2_with fail
  refine (hNew_c _ _ _ _ _ (HZ'.out.stays KK (fun x => x)) PL.out).mono ?_
  rintro _ w5 ⟨A, hb, ⟨rfl, K5⟩, -, -⟩
  replace Bc := Bc.stays K5 (fun x => x)
  have KK := KK.trans K5
  have fc0 := Bc.cell 0
  have fc1 := Bc.cell 1
  have fc2 := Bc.cell 2
  have fc3 := Bc.cell 3
  go_wp2_with fail
  refine (May_c _ _ _ _ _).mono ?_
  rintro _ w6 ⟨rfl, K6⟩
  replace Bc := Bc.stays K6 (fun x => x)
  have KK := KK.trans K6
  have fc0 := Bc.cell 0
  have fc1 := Bc.cell 1
  have fc2 := Bc.cell 2
  have fc3 := Bc.cell 3
  have fo0 := Bo.cell 0
  have fo1 := Bo.cell 1
  have fo2 := Bo.cell 2
  have fo3 := Bo.cell 3
  have fo4 := Bo.cell 4
  rw [P.out]
  go_wp2_with fail
  refine (HB.out _ (HZ'.out.stays KK (fun x => x))).mono ?_
  rintro _ w7 ⟨rfl, K7⟩
  go_wp2_with fail
  go_ret
  exact ⟨rfl, KK.trans K7⟩
theorem lawHN_inbad (N W R K kd a b c v : Int) (w : World) (HZ : NoneZ w) (h0 : 1 ≤ kd) (h1 : kd ≤ 10) (hp : plCheck N W R K = 1) :
    Calls Tryz.prog 11 #[.agg #[.int .i64 N, .int .i64 W, .int .i64 R, .int .i64 K], .agg #[.int .i64 kd, .int .i64 a, .int .i64 b, .int .i64 c, .int .u32 v]] w (Made w (.bool true)) := by
  have HB := Hd.mk (fun w HZ => begunHeap_c w HZ)
  have HZ' := Hd.mk HZ
  clear HZ
  have K0 : Stays (fun _ => False) w ((w.alloc (.cells #[.int .i64 N, .int .i64 W, .int .i64 R, .int .i64 K] 46)).alloc (.cells #[.int .i64 kd, .int .i64 a, .int .i64 b, .int .i64 c, .int .u32 v] 53)) := ((Stays.refl _ _).alloc _).alloc _
  have Bc : Blk ((w.alloc (.cells #[.int .i64 N, .int .i64 W, .int .i64 R, .int .i64 K] 46)).alloc (.cells #[.int .i64 kd, .int .i64 a, .int .i64 b, .int .i64 c, .int .u32 v] 53)) w.heap.size 46 #[.int .i64 N, .int .i64 W, .int .i64 R, .int .i64 K] := (Blk.new w _ _).alloc _
  have Bo : Blk ((w.alloc (.cells #[.int .i64 N, .int .i64 W, .int .i64 R, .int .i64 K] 46)).alloc (.cells #[.int .i64 kd, .int .i64 a, .int .i64 b, .int .i64 c, .int .u32 v] 53)) (w.heap.size + 1) 53 #[.int .i64 kd, .int .i64 a, .int .i64 b, .int .i64 c, .int .u32 v] := by
    have h := Blk.new (w.alloc (.cells #[.int .i64 N, .int .i64 W, .int .i64 R, .int .i64 K] 46)) 53 #[.int .i64 kd, .int .i64 a, .int .i64 b, .int .i64 c, .int .u32 v]
    simpa using h
  have HK := Hd.mk (And.intro h0 h1)
  have t1 : decide (1 ≤ kd) = true := decide_eq_true h0
  have t2 : decide (kd ≤ 10) = true := decide_eq_true h1
  clear h0 h1
  have P : Hd (decide (plCheck N W R K = 0) = false) := ⟨decide_eq_false (by omega)⟩
  have PL := Hd.mk hp
  clear hp
  have fc0 := Bc.cell 0
  have fc1 := Bc.cell 1
  have fc2 := Bc.cell 2
  have fc3 := Bc.cell 3
  have fo0 := Bo.cell 0
  have fo1 := Bo.cell 1
  have fo2 := Bo.cell 2
  have fo3 := Bo.cell 3
  have fo4 := Bo.cell 4
  have KK := K0
  go_enter Tryz.func11, Tryz.ntmps11
  go_wp2_with fail
  refine (doLN ⟨kd, a, b, c, v⟩ HK.out.1 HK.out.2 _).mono ?_
  rintro _ w1 ⟨rfl, K1⟩
  replace Bc := Bc.stays K1 (fun x => x)
  replace Bo := Bo.stays K1 (fun x => x)
  have KK := KK.trans K1
  have fc0 := Bc.cell 0
  have fc1 := Bc.cell 1
  have fc2 := Bc.cell 2
  have fc3 := Bc.cell 3
  have fo0 := Bo.cell 0
  have fo1 := Bo.cell 1
  have fo2 := Bo.cell 2
  have fo3 := Bo.cell 3
  have fo4 := Bo.cell 4
  unfold Ans.val
  go_wp2_with fail
  refine (hConfN _).mono ?_
  rintro _ w2 ⟨rfl, K2⟩
  replace Bc := Bc.stays K2 (fun x => x)
  replace Bo := Bo.stays K2 (fun x => x)
  have KK := KK.trans K2
  have fc0 := Bc.cell 0
  have fc1 := Bc.cell 1
  have fc2 := Bc.cell 2
  have fc3 := Bc.cell 3
  have fo0 := Bo.cell 0
  have fo1 := Bo.cell 1
  have fo2 := Bo.cell 2
  have fo3 := Bo.cell 3
  have fo4 := Bo.cell 4
  go_wp2_with fail
  refine (hMeterN _).mono ?_
  rintro _ _ ⟨rfl, rfl⟩
  go_wp2_with fail
  refine (hCleanN _).mono ?_
  rintro _ _ ⟨rfl, rfl⟩
  go_wp2_with fail
  refine (hPendingN _).mono ?_
  rintro _ w3 ⟨rfl, K3⟩
  replace Bc := Bc.stays K3 (fun x => x)
  replace Bo := Bo.stays K3 (fun x => x)
  have KK := KK.trans K3
  have fc0 := Bc.cell 0
  have fc1 := Bc.cell 1
  have fc2 := Bc.cell 2
  have fc3 := Bc.cell 3
  have fo0 := Bo.cell 0
  have fo1 := Bo.cell 1
  have fo2 := Bo.cell 2
  have fo3 := Bo.cell 3
  have fo4 := Bo.cell 4
  go_wp2_with fail
  refine (hGroundN _).mono ?_
  rintro _ _ ⟨rfl, rfl⟩
  go_wp2_with fail
  refine (May_c _ _ _ _ _).mono ?_
  rintro _ w4 ⟨rfl, K4⟩
  replace Bc := Bc.stays K4 (fun x => x)
  replace Bo := Bo.stays K4 (fun x => x)
  have KK := KK.trans K4
  have fc0 := Bc.cell 0
  have fc1 := Bc.cell 1
  have fc2 := Bc.cell 2
  have fc3 := Bc.cell 3
  have fo0 := Bo.cell 0
  have fo1 := Bo.cell 1
  have fo2 := Bo.cell 2
  have fo3 := Bo.cell 3
  have fo4 := Bo.cell 4
  rw [P.out]
  go_wp2_with fail
  refine (hNewBad_c _ _ _ _ _ PL.out).mono ?_
  rintro _ w5 ⟨rfl, K5⟩
  replace Bc := Bc.stays K5 (fun x => x)
  have KK := KK.trans K5
  have fc0 := Bc.cell 0
  have fc1 := Bc.cell 1
  have fc2 := Bc.cell 2
  have fc3 := Bc.cell 3
  go_wp2_with fail
  refine (May_c _ _ _ _ _).mono ?_
  rintro _ w6 ⟨rfl, K6⟩
  replace Bc := Bc.stays K6 (fun x => x)
  have KK := KK.trans K6
  have fc0 := Bc.cell 0
  have fc1 := Bc.cell 1
  have fc2 := Bc.cell 2
  have fc3 := Bc.cell 3
  have fo0 := Bo.cell 0
  have fo1 := Bo.cell 1
  have fo2 := Bo.cell 2
  have fo3 := Bo.cell 3
  have fo4 := Bo.cell 4
  rw [P.out]
  go_wp2_with fail
  refine (HB.out _ (HZ'.out.stays KK (fun x => x))).mono ?_
  rintro _ w7 ⟨rfl, K7⟩
  go_wp2_with fail
  go_ret
  exact ⟨rfl, KK.trans K7⟩
theorem lawHN_lobig (N W R K kd a b c v : Int) (w : World) (HZ : NoneZ w) (h0 : kd < 1) (hp : plCheck N W R K = 0) (hn : 3000 < N) :
    Calls Tryz.prog 11 #[.agg #[.int .i64 N, .int .i64 W, .int .i64 R, .int .i64 K], .agg #[.int .i64 kd, .int .i64 a, .int .i64 b, .int .i64 c, .int .u32 v]] w (Made w (.bool true)) := by
  have HB := Hd.mk (fun w HZ => begunHeap_c w HZ)
  have HZ' := Hd.mk HZ
  clear HZ
  have K0 : Stays (fun _ => False) w ((w.alloc (.cells #[.int .i64 N, .int .i64 W, .int .i64 R, .int .i64 K] 46)).alloc (.cells #[.int .i64 kd, .int .i64 a, .int .i64 b, .int .i64 c, .int .u32 v] 53)) := ((Stays.refl _ _).alloc _).alloc _
  have Bc : Blk ((w.alloc (.cells #[.int .i64 N, .int .i64 W, .int .i64 R, .int .i64 K] 46)).alloc (.cells #[.int .i64 kd, .int .i64 a, .int .i64 b, .int .i64 c, .int .u32 v] 53)) w.heap.size 46 #[.int .i64 N, .int .i64 W, .int .i64 R, .int .i64 K] := (Blk.new w _ _).alloc _
  have Bo : Blk ((w.alloc (.cells #[.int .i64 N, .int .i64 W, .int .i64 R, .int .i64 K] 46)).alloc (.cells #[.int .i64 kd, .int .i64 a, .int .i64 b, .int .i64 c, .int .u32 v] 53)) (w.heap.size + 1) 53 #[.int .i64 kd, .int .i64 a, .int .i64 b, .int .i64 c, .int .u32 v] := by
    have h := Blk.new (w.alloc (.cells #[.int .i64 N, .int .i64 W, .int .i64 R, .int .i64 K] 46)) 53 #[.int .i64 kd, .int .i64 a, .int .i64 b, .int .i64 c, .int .u32 v]
    simpa using h
  have t1 : decide (1 ≤ kd) = false := decide_eq_false (by omega)
  clear h0
  have P : Hd (decide (plCheck N W R K = 0) = true) := ⟨decide_eq_true hp⟩
  have t3 : decide (3000 < N) = true := decide_eq_true hn
  clear hp hn
  have fc0 := Bc.cell 0
  have fc1 := Bc.cell 1
  have fc2 := Bc.cell 2
  have fc3 := Bc.cell 3
  have fo0 := Bo.cell 0
  have fo1 := Bo.cell 1
  have fo2 := Bo.cell 2
  have fo3 := Bo.cell 3
  have fo4 := Bo.cell 4
  have KK := K0
  go_enter Tryz.func11, Tryz.ntmps11
  go_wp2_with fail
  refine (hConfN _).mono ?_
  rintro _ w2 ⟨rfl, K2⟩
  replace Bc := Bc.stays K2 (fun x => x)
  replace Bo := Bo.stays K2 (fun x => x)
  have KK := KK.trans K2
  have fc0 := Bc.cell 0
  have fc1 := Bc.cell 1
  have fc2 := Bc.cell 2
  have fc3 := Bc.cell 3
  have fo0 := Bo.cell 0
  have fo1 := Bo.cell 1
  have fo2 := Bo.cell 2
  have fo3 := Bo.cell 3
  have fo4 := Bo.cell 4
  go_wp2_with fail
  refine (hMeterN _).mono ?_
  rintro _ _ ⟨rfl, rfl⟩
  go_wp2_with fail
  refine (hCleanN _).mono ?_
  rintro _ _ ⟨rfl, rfl⟩
  go_wp2_with fail
  refine (hPendingN _).mono ?_
  rintro _ w3 ⟨rfl, K3⟩
  replace Bc := Bc.stays K3 (fun x => x)
  replace Bo := Bo.stays K3 (fun x => x)
  have KK := KK.trans K3
  have fc0 := Bc.cell 0
  have fc1 := Bc.cell 1
  have fc2 := Bc.cell 2
  have fc3 := Bc.cell 3
  have fo0 := Bo.cell 0
  have fo1 := Bo.cell 1
  have fo2 := Bo.cell 2
  have fo3 := Bo.cell 3
  have fo4 := Bo.cell 4
  go_wp2_with fail
  refine (hGroundN _).mono ?_
  rintro _ _ ⟨rfl, rfl⟩
  go_wp2_with fail
  refine (May_c _ _ _ _ _).mono ?_
  rintro _ w4 ⟨rfl, K4⟩
  replace Bc := Bc.stays K4 (fun x => x)
  replace Bo := Bo.stays K4 (fun x => x)
  have KK := KK.trans K4
  have fc0 := Bc.cell 0
  have fc1 := Bc.cell 1
  have fc2 := Bc.cell 2
  have fc3 := Bc.cell 3
  have fo0 := Bo.cell 0
  have fo1 := Bo.cell 1
  have fo2 := Bo.cell 2
  have fo3 := Bo.cell 3
  have fo4 := Bo.cell 4
  rw [P.out]
  go_wp2_with fail
  refine (HB.out _ (HZ'.out.stays KK (fun x => x))).mono ?_
  rintro _ w5 ⟨rfl, K5⟩
  go_wp2_with fail
  go_ret
  exact ⟨rfl, KK.trans K5⟩
theorem lawHN_look (N W R K kd a b c v : Int) (w : World) (HZ : NoneZ w) (h0 : kd < 1) (hp : plCheck N W R K = 0) (hn : ¬ 3000 < N) :
    Calls Tryz.prog 11 #[.agg #[.int .i64 N, .int .i64 W, .int .i64 R, .int .i64 K], .agg #[.int .i64 kd, .int .i64 a, .int .i64 b, .int .i64 c, .int .u32 v]] w (Made w (.bool true)) := by
  have HB := Hd.mk (fun w HZ => begunHeap_c w HZ)
  have HZ' := Hd.mk HZ
  clear HZ
  have K0 : Stays (fun _ => False) w ((w.alloc (.cells #[.int .i64 N, .int .i64 W, .int .i64 R, .int .i64 K] 46)).alloc (.cells #[.int .i64 kd, .int .i64 a, .int .i64 b, .int .i64 c, .int .u32 v] 53)) := ((Stays.refl _ _).alloc _).alloc _
  have Bc : Blk ((w.alloc (.cells #[.int .i64 N, .int .i64 W, .int .i64 R, .int .i64 K] 46)).alloc (.cells #[.int .i64 kd, .int .i64 a, .int .i64 b, .int .i64 c, .int .u32 v] 53)) w.heap.size 46 #[.int .i64 N, .int .i64 W, .int .i64 R, .int .i64 K] := (Blk.new w _ _).alloc _
  have Bo : Blk ((w.alloc (.cells #[.int .i64 N, .int .i64 W, .int .i64 R, .int .i64 K] 46)).alloc (.cells #[.int .i64 kd, .int .i64 a, .int .i64 b, .int .i64 c, .int .u32 v] 53)) (w.heap.size + 1) 53 #[.int .i64 kd, .int .i64 a, .int .i64 b, .int .i64 c, .int .u32 v] := by
    have h := Blk.new (w.alloc (.cells #[.int .i64 N, .int .i64 W, .int .i64 R, .int .i64 K] 46)) 53 #[.int .i64 kd, .int .i64 a, .int .i64 b, .int .i64 c, .int .u32 v]
    simpa using h
  have t1 : decide (1 ≤ kd) = false := decide_eq_false (by omega)
  clear h0
  have P : Hd (decide (plCheck N W R K = 0) = true) := ⟨decide_eq_true hp⟩
  have PL := Hd.mk hp
  have t3 : decide (3000 < N) = false := decide_eq_false hn
  clear hp hn
  have fc0 := Bc.cell 0
  have fc1 := Bc.cell 1
  have fc2 := Bc.cell 2
  have fc3 := Bc.cell 3
  have fo0 := Bo.cell 0
  have fo1 := Bo.cell 1
  have fo2 := Bo.cell 2
  have fo3 := Bo.cell 3
  have fo4 := Bo.cell 4
  have KK := K0
  go_enter Tryz.func11, Tryz.ntmps11
  go_wp2_with fail
  refine (hConfN _).mono ?_
  rintro _ w2 ⟨rfl, K2⟩
  replace Bc := Bc.stays K2 (fun x => x)
  replace Bo := Bo.stays K2 (fun x => x)
  have KK := KK.trans K2
  have fc0 := Bc.cell 0
  have fc1 := Bc.cell 1
  have fc2 := Bc.cell 2
  have fc3 := Bc.cell 3
  have fo0 := Bo.cell 0
  have fo1 := Bo.cell 1
  have fo2 := Bo.cell 2
  have fo3 := Bo.cell 3
  have fo4 := Bo.cell 4
  go_wp2_with fail
  refine (hMeterN _).mono ?_
  rintro _ _ ⟨rfl, rfl⟩
  go_wp2_with fail
  refine (hCleanN _).mono ?_
  rintro _ _ ⟨rfl, rfl⟩
  go_wp2_with fail
  refine (hPendingN _).mono ?_
  rintro _ w3 ⟨rfl, K3⟩
  replace Bc := Bc.stays K3 (fun x => x)
  replace Bo := Bo.stays K3 (fun x => x)
  have KK := KK.trans K3
  have fc0 := Bc.cell 0
  have fc1 := Bc.cell 1
  have fc2 := Bc.cell 2
  have fc3 := Bc.cell 3
  have fo0 := Bo.cell 0
  have fo1 := Bo.cell 1
  have fo2 := Bo.cell 2
  have fo3 := Bo.cell 3
  have fo4 := Bo.cell 4
  go_wp2_with fail
  refine (hGroundN _).mono ?_
  rintro _ _ ⟨rfl, rfl⟩
  go_wp2_with fail
  refine (May_c _ _ _ _ _).mono ?_
  rintro _ w4 ⟨rfl, K4⟩
  replace Bc := Bc.stays K4 (fun x => x)
  replace Bo := Bo.stays K4 (fun x => x)
  have KK := KK.trans K4
  have fc0 := Bc.cell 0
  have fc1 := Bc.cell 1
  have fc2 := Bc.cell 2
  have fc3 := Bc.cell 3
  have fo0 := Bo.cell 0
  have fo1 := Bo.cell 1
  have fo2 := Bo.cell 2
  have fo3 := Bo.cell 3
  have fo4 := Bo.cell 4
  rw [P.out]
  go_wp2_with fail
  refine (hNew_c _ _ _ _ _ (HZ'.out.stays KK (fun x => x)) PL.out).mono ?_
  rintro _ w5 ⟨A, hb, ⟨rfl, K5⟩, -, -⟩
  replace Bc := Bc.stays K5 (fun x => x)
  have KK := KK.trans K5
  have fc0 := Bc.cell 0
  have fc1 := Bc.cell 1
  have fc2 := Bc.cell 2
  have fc3 := Bc.cell 3
  go_wp2_with fail
  refine (May_c _ _ _ _ _).mono ?_
  rintro _ w6 ⟨rfl, K6⟩
  replace Bc := Bc.stays K6 (fun x => x)
  have KK := KK.trans K6
  have fc0 := Bc.cell 0
  have fc1 := Bc.cell 1
  have fc2 := Bc.cell 2
  have fc3 := Bc.cell 3
  have fo0 := Bo.cell 0
  have fo1 := Bo.cell 1
  have fo2 := Bo.cell 2
  have fo3 := Bo.cell 3
  have fo4 := Bo.cell 4
  rw [P.out]
  go_wp2_with fail
  refine (HB.out _ (HZ'.out.stays KK (fun x => x))).mono ?_
  rintro _ w7 ⟨rfl, K7⟩
  go_wp2_with fail
  go_ret
  exact ⟨rfl, KK.trans K7⟩
theorem lawHN_lobad (N W R K kd a b c v : Int) (w : World) (HZ : NoneZ w) (h0 : kd < 1) (hp : plCheck N W R K = 1) :
    Calls Tryz.prog 11 #[.agg #[.int .i64 N, .int .i64 W, .int .i64 R, .int .i64 K], .agg #[.int .i64 kd, .int .i64 a, .int .i64 b, .int .i64 c, .int .u32 v]] w (Made w (.bool true)) := by
  have HB := Hd.mk (fun w HZ => begunHeap_c w HZ)
  have HZ' := Hd.mk HZ
  clear HZ
  have K0 : Stays (fun _ => False) w ((w.alloc (.cells #[.int .i64 N, .int .i64 W, .int .i64 R, .int .i64 K] 46)).alloc (.cells #[.int .i64 kd, .int .i64 a, .int .i64 b, .int .i64 c, .int .u32 v] 53)) := ((Stays.refl _ _).alloc _).alloc _
  have Bc : Blk ((w.alloc (.cells #[.int .i64 N, .int .i64 W, .int .i64 R, .int .i64 K] 46)).alloc (.cells #[.int .i64 kd, .int .i64 a, .int .i64 b, .int .i64 c, .int .u32 v] 53)) w.heap.size 46 #[.int .i64 N, .int .i64 W, .int .i64 R, .int .i64 K] := (Blk.new w _ _).alloc _
  have Bo : Blk ((w.alloc (.cells #[.int .i64 N, .int .i64 W, .int .i64 R, .int .i64 K] 46)).alloc (.cells #[.int .i64 kd, .int .i64 a, .int .i64 b, .int .i64 c, .int .u32 v] 53)) (w.heap.size + 1) 53 #[.int .i64 kd, .int .i64 a, .int .i64 b, .int .i64 c, .int .u32 v] := by
    have h := Blk.new (w.alloc (.cells #[.int .i64 N, .int .i64 W, .int .i64 R, .int .i64 K] 46)) 53 #[.int .i64 kd, .int .i64 a, .int .i64 b, .int .i64 c, .int .u32 v]
    simpa using h
  have t1 : decide (1 ≤ kd) = false := decide_eq_false (by omega)
  clear h0
  have P : Hd (decide (plCheck N W R K = 0) = false) := ⟨decide_eq_false (by omega)⟩
  have PL := Hd.mk hp
  clear hp
  have fc0 := Bc.cell 0
  have fc1 := Bc.cell 1
  have fc2 := Bc.cell 2
  have fc3 := Bc.cell 3
  have fo0 := Bo.cell 0
  have fo1 := Bo.cell 1
  have fo2 := Bo.cell 2
  have fo3 := Bo.cell 3
  have fo4 := Bo.cell 4
  have KK := K0
  go_enter Tryz.func11, Tryz.ntmps11
  go_wp2_with fail
  refine (hConfN _).mono ?_
  rintro _ w2 ⟨rfl, K2⟩
  replace Bc := Bc.stays K2 (fun x => x)
  replace Bo := Bo.stays K2 (fun x => x)
  have KK := KK.trans K2
  have fc0 := Bc.cell 0
  have fc1 := Bc.cell 1
  have fc2 := Bc.cell 2
  have fc3 := Bc.cell 3
  have fo0 := Bo.cell 0
  have fo1 := Bo.cell 1
  have fo2 := Bo.cell 2
  have fo3 := Bo.cell 3
  have fo4 := Bo.cell 4
  go_wp2_with fail
  refine (hMeterN _).mono ?_
  rintro _ _ ⟨rfl, rfl⟩
  go_wp2_with fail
  refine (hCleanN _).mono ?_
  rintro _ _ ⟨rfl, rfl⟩
  go_wp2_with fail
  refine (hPendingN _).mono ?_
  rintro _ w3 ⟨rfl, K3⟩
  replace Bc := Bc.stays K3 (fun x => x)
  replace Bo := Bo.stays K3 (fun x => x)
  have KK := KK.trans K3
  have fc0 := Bc.cell 0
  have fc1 := Bc.cell 1
  have fc2 := Bc.cell 2
  have fc3 := Bc.cell 3
  have fo0 := Bo.cell 0
  have fo1 := Bo.cell 1
  have fo2 := Bo.cell 2
  have fo3 := Bo.cell 3
  have fo4 := Bo.cell 4
  go_wp2_with fail
  refine (hGroundN _).mono ?_
  rintro _ _ ⟨rfl, rfl⟩
  go_wp2_with fail
  refine (May_c _ _ _ _ _).mono ?_
  rintro _ w4 ⟨rfl, K4⟩
  replace Bc := Bc.stays K4 (fun x => x)
  replace Bo := Bo.stays K4 (fun x => x)
  have KK := KK.trans K4
  have fc0 := Bc.cell 0
  have fc1 := Bc.cell 1
  have fc2 := Bc.cell 2
  have fc3 := Bc.cell 3
  have fo0 := Bo.cell 0
  have fo1 := Bo.cell 1
  have fo2 := Bo.cell 2
  have fo3 := Bo.cell 3
  have fo4 := Bo.cell 4
  rw [P.out]
  go_wp2_with fail
  refine (hNewBad_c _ _ _ _ _ PL.out).mono ?_
  rintro _ w5 ⟨rfl, K5⟩
  replace Bc := Bc.stays K5 (fun x => x)
  have KK := KK.trans K5
  have fc0 := Bc.cell 0
  have fc1 := Bc.cell 1
  have fc2 := Bc.cell 2
  have fc3 := Bc.cell 3
  go_wp2_with fail
  refine (May_c _ _ _ _ _).mono ?_
  rintro _ w6 ⟨rfl, K6⟩
  replace Bc := Bc.stays K6 (fun x => x)
  have KK := KK.trans K6
  have fc0 := Bc.cell 0
  have fc1 := Bc.cell 1
  have fc2 := Bc.cell 2
  have fc3 := Bc.cell 3
  have fo0 := Bo.cell 0
  have fo1 := Bo.cell 1
  have fo2 := Bo.cell 2
  have fo3 := Bo.cell 3
  have fo4 := Bo.cell 4
  rw [P.out]
  go_wp2_with fail
  refine (HB.out _ (HZ'.out.stays KK (fun x => x))).mono ?_
  rintro _ w7 ⟨rfl, K7⟩
  go_wp2_with fail
  go_ret
  exact ⟨rfl, KK.trans K7⟩
theorem lawHN_hibig (N W R K kd a b c v : Int) (w : World) (HZ : NoneZ w) (h0 : 10 < kd) (hp : plCheck N W R K = 0) (hn : 3000 < N) :
    Calls Tryz.prog 11 #[.agg #[.int .i64 N, .int .i64 W, .int .i64 R, .int .i64 K], .agg #[.int .i64 kd, .int .i64 a, .int .i64 b, .int .i64 c, .int .u32 v]] w (Made w (.bool true)) := by
  have HB := Hd.mk (fun w HZ => begunHeap_c w HZ)
  have HZ' := Hd.mk HZ
  clear HZ
  have K0 : Stays (fun _ => False) w ((w.alloc (.cells #[.int .i64 N, .int .i64 W, .int .i64 R, .int .i64 K] 46)).alloc (.cells #[.int .i64 kd, .int .i64 a, .int .i64 b, .int .i64 c, .int .u32 v] 53)) := ((Stays.refl _ _).alloc _).alloc _
  have Bc : Blk ((w.alloc (.cells #[.int .i64 N, .int .i64 W, .int .i64 R, .int .i64 K] 46)).alloc (.cells #[.int .i64 kd, .int .i64 a, .int .i64 b, .int .i64 c, .int .u32 v] 53)) w.heap.size 46 #[.int .i64 N, .int .i64 W, .int .i64 R, .int .i64 K] := (Blk.new w _ _).alloc _
  have Bo : Blk ((w.alloc (.cells #[.int .i64 N, .int .i64 W, .int .i64 R, .int .i64 K] 46)).alloc (.cells #[.int .i64 kd, .int .i64 a, .int .i64 b, .int .i64 c, .int .u32 v] 53)) (w.heap.size + 1) 53 #[.int .i64 kd, .int .i64 a, .int .i64 b, .int .i64 c, .int .u32 v] := by
    have h := Blk.new (w.alloc (.cells #[.int .i64 N, .int .i64 W, .int .i64 R, .int .i64 K] 46)) 53 #[.int .i64 kd, .int .i64 a, .int .i64 b, .int .i64 c, .int .u32 v]
    simpa using h
  have t1 : decide (1 ≤ kd) = true := decide_eq_true (by omega)
  have t2 : decide (kd ≤ 10) = false := decide_eq_false (by omega)
  clear h0
  have P : Hd (decide (plCheck N W R K = 0) = true) := ⟨decide_eq_true hp⟩
  have t3 : decide (3000 < N) = true := decide_eq_true hn
  clear hp hn
  have fc0 := Bc.cell 0
  have fc1 := Bc.cell 1
  have fc2 := Bc.cell 2
  have fc3 := Bc.cell 3
  have fo0 := Bo.cell 0
  have fo1 := Bo.cell 1
  have fo2 := Bo.cell 2
  have fo3 := Bo.cell 3
  have fo4 := Bo.cell 4
  have KK := K0
  go_enter Tryz.func11, Tryz.ntmps11
  go_wp2_with fail
  refine (hConfN _).mono ?_
  rintro _ w2 ⟨rfl, K2⟩
  replace Bc := Bc.stays K2 (fun x => x)
  replace Bo := Bo.stays K2 (fun x => x)
  have KK := KK.trans K2
  have fc0 := Bc.cell 0
  have fc1 := Bc.cell 1
  have fc2 := Bc.cell 2
  have fc3 := Bc.cell 3
  have fo0 := Bo.cell 0
  have fo1 := Bo.cell 1
  have fo2 := Bo.cell 2
  have fo3 := Bo.cell 3
  have fo4 := Bo.cell 4
  go_wp2_with fail
  refine (hMeterN _).mono ?_
  rintro _ _ ⟨rfl, rfl⟩
  go_wp2_with fail
  refine (hCleanN _).mono ?_
  rintro _ _ ⟨rfl, rfl⟩
  go_wp2_with fail
  refine (hPendingN _).mono ?_
  rintro _ w3 ⟨rfl, K3⟩
  replace Bc := Bc.stays K3 (fun x => x)
  replace Bo := Bo.stays K3 (fun x => x)
  have KK := KK.trans K3
  have fc0 := Bc.cell 0
  have fc1 := Bc.cell 1
  have fc2 := Bc.cell 2
  have fc3 := Bc.cell 3
  have fo0 := Bo.cell 0
  have fo1 := Bo.cell 1
  have fo2 := Bo.cell 2
  have fo3 := Bo.cell 3
  have fo4 := Bo.cell 4
  go_wp2_with fail
  refine (hGroundN _).mono ?_
  rintro _ _ ⟨rfl, rfl⟩
  go_wp2_with fail
  refine (May_c _ _ _ _ _).mono ?_
  rintro _ w4 ⟨rfl, K4⟩
  replace Bc := Bc.stays K4 (fun x => x)
  replace Bo := Bo.stays K4 (fun x => x)
  have KK := KK.trans K4
  have fc0 := Bc.cell 0
  have fc1 := Bc.cell 1
  have fc2 := Bc.cell 2
  have fc3 := Bc.cell 3
  have fo0 := Bo.cell 0
  have fo1 := Bo.cell 1
  have fo2 := Bo.cell 2
  have fo3 := Bo.cell 3
  have fo4 := Bo.cell 4
  rw [P.out]
  go_wp2_with fail
  refine (HB.out _ (HZ'.out.stays KK (fun x => x))).mono ?_
  rintro _ w5 ⟨rfl, K5⟩
  go_wp2_with fail
  go_ret
  exact ⟨rfl, KK.trans K5⟩
theorem lawHN_hiok (N W R K kd a b c v : Int) (w : World) (HZ : NoneZ w) (h0 : 10 < kd) (hp : plCheck N W R K = 0) (hn : ¬ 3000 < N) :
    Calls Tryz.prog 11 #[.agg #[.int .i64 N, .int .i64 W, .int .i64 R, .int .i64 K], .agg #[.int .i64 kd, .int .i64 a, .int .i64 b, .int .i64 c, .int .u32 v]] w (Made w (.bool true)) := by
  have HB := Hd.mk (fun w HZ => begunHeap_c w HZ)
  have HZ' := Hd.mk HZ
  clear HZ
  have K0 : Stays (fun _ => False) w ((w.alloc (.cells #[.int .i64 N, .int .i64 W, .int .i64 R, .int .i64 K] 46)).alloc (.cells #[.int .i64 kd, .int .i64 a, .int .i64 b, .int .i64 c, .int .u32 v] 53)) := ((Stays.refl _ _).alloc _).alloc _
  have Bc : Blk ((w.alloc (.cells #[.int .i64 N, .int .i64 W, .int .i64 R, .int .i64 K] 46)).alloc (.cells #[.int .i64 kd, .int .i64 a, .int .i64 b, .int .i64 c, .int .u32 v] 53)) w.heap.size 46 #[.int .i64 N, .int .i64 W, .int .i64 R, .int .i64 K] := (Blk.new w _ _).alloc _
  have Bo : Blk ((w.alloc (.cells #[.int .i64 N, .int .i64 W, .int .i64 R, .int .i64 K] 46)).alloc (.cells #[.int .i64 kd, .int .i64 a, .int .i64 b, .int .i64 c, .int .u32 v] 53)) (w.heap.size + 1) 53 #[.int .i64 kd, .int .i64 a, .int .i64 b, .int .i64 c, .int .u32 v] := by
    have h := Blk.new (w.alloc (.cells #[.int .i64 N, .int .i64 W, .int .i64 R, .int .i64 K] 46)) 53 #[.int .i64 kd, .int .i64 a, .int .i64 b, .int .i64 c, .int .u32 v]
    simpa using h
  have t1 : decide (1 ≤ kd) = true := decide_eq_true (by omega)
  have t2 : decide (kd ≤ 10) = false := decide_eq_false (by omega)
  clear h0
  have P : Hd (decide (plCheck N W R K = 0) = true) := ⟨decide_eq_true hp⟩
  have PL := Hd.mk hp
  have t3 : decide (3000 < N) = false := decide_eq_false hn
  clear hp hn
  have fc0 := Bc.cell 0
  have fc1 := Bc.cell 1
  have fc2 := Bc.cell 2
  have fc3 := Bc.cell 3
  have fo0 := Bo.cell 0
  have fo1 := Bo.cell 1
  have fo2 := Bo.cell 2
  have fo3 := Bo.cell 3
  have fo4 := Bo.cell 4
  have KK := K0
  go_enter Tryz.func11, Tryz.ntmps11
  go_wp2_with fail
  refine (hConfN _).mono ?_
  rintro _ w2 ⟨rfl, K2⟩
  replace Bc := Bc.stays K2 (fun x => x)
  replace Bo := Bo.stays K2 (fun x => x)
  have KK := KK.trans K2
  have fc0 := Bc.cell 0
  have fc1 := Bc.cell 1
  have fc2 := Bc.cell 2
  have fc3 := Bc.cell 3
  have fo0 := Bo.cell 0
  have fo1 := Bo.cell 1
  have fo2 := Bo.cell 2
  have fo3 := Bo.cell 3
  have fo4 := Bo.cell 4
  go_wp2_with fail
  refine (hMeterN _).mono ?_
  rintro _ _ ⟨rfl, rfl⟩
  go_wp2_with fail
  refine (hCleanN _).mono ?_
  rintro _ _ ⟨rfl, rfl⟩
  go_wp2_with fail
  refine (hPendingN _).mono ?_
  rintro _ w3 ⟨rfl, K3⟩
  replace Bc := Bc.stays K3 (fun x => x)
  replace Bo := Bo.stays K3 (fun x => x)
  have KK := KK.trans K3
  have fc0 := Bc.cell 0
  have fc1 := Bc.cell 1
  have fc2 := Bc.cell 2
  have fc3 := Bc.cell 3
  have fo0 := Bo.cell 0
  have fo1 := Bo.cell 1
  have fo2 := Bo.cell 2
  have fo3 := Bo.cell 3
  have fo4 := Bo.cell 4
  go_wp2_with fail
  refine (hGroundN _).mono ?_
  rintro _ _ ⟨rfl, rfl⟩
  go_wp2_with fail
  refine (May_c _ _ _ _ _).mono ?_
  rintro _ w4 ⟨rfl, K4⟩
  replace Bc := Bc.stays K4 (fun x => x)
  replace Bo := Bo.stays K4 (fun x => x)
  have KK := KK.trans K4
  have fc0 := Bc.cell 0
  have fc1 := Bc.cell 1
  have fc2 := Bc.cell 2
  have fc3 := Bc.cell 3
  have fo0 := Bo.cell 0
  have fo1 := Bo.cell 1
  have fo2 := Bo.cell 2
  have fo3 := Bo.cell 3
  have fo4 := Bo.cell 4
  rw [P.out]
  go_wp2_with fail
  refine (hNew_c _ _ _ _ _ (HZ'.out.stays KK (fun x => x)) PL.out).mono ?_
  rintro _ w5 ⟨A, hb, ⟨rfl, K5⟩, -, -⟩
  replace Bc := Bc.stays K5 (fun x => x)
  have KK := KK.trans K5
  have fc0 := Bc.cell 0
  have fc1 := Bc.cell 1
  have fc2 := Bc.cell 2
  have fc3 := Bc.cell 3
  go_wp2_with fail
  refine (May_c _ _ _ _ _).mono ?_
  rintro _ w6 ⟨rfl, K6⟩
  replace Bc := Bc.stays K6 (fun x => x)
  have KK := KK.trans K6
  have fc0 := Bc.cell 0
  have fc1 := Bc.cell 1
  have fc2 := Bc.cell 2
  have fc3 := Bc.cell 3
  have fo0 := Bo.cell 0
  have fo1 := Bo.cell 1
  have fo2 := Bo.cell 2
  have fo3 := Bo.cell 3
  have fo4 := Bo.cell 4
  rw [P.out]
  go_wp2_with fail
  refine (HB.out _ (HZ'.out.stays KK (fun x => x))).mono ?_
  rintro _ w7 ⟨rfl, K7⟩
  go_wp2_with fail
  go_ret
  exact ⟨rfl, KK.trans K7⟩
theorem lawHN_hibad (N W R K kd a b c v : Int) (w : World) (HZ : NoneZ w) (h0 : 10 < kd) (hp : plCheck N W R K = 1) :
    Calls Tryz.prog 11 #[.agg #[.int .i64 N, .int .i64 W, .int .i64 R, .int .i64 K], .agg #[.int .i64 kd, .int .i64 a, .int .i64 b, .int .i64 c, .int .u32 v]] w (Made w (.bool true)) := by
  have HB := Hd.mk (fun w HZ => begunHeap_c w HZ)
  have HZ' := Hd.mk HZ
  clear HZ
  have K0 : Stays (fun _ => False) w ((w.alloc (.cells #[.int .i64 N, .int .i64 W, .int .i64 R, .int .i64 K] 46)).alloc (.cells #[.int .i64 kd, .int .i64 a, .int .i64 b, .int .i64 c, .int .u32 v] 53)) := ((Stays.refl _ _).alloc _).alloc _
  have Bc : Blk ((w.alloc (.cells #[.int .i64 N, .int .i64 W, .int .i64 R, .int .i64 K] 46)).alloc (.cells #[.int .i64 kd, .int .i64 a, .int .i64 b, .int .i64 c, .int .u32 v] 53)) w.heap.size 46 #[.int .i64 N, .int .i64 W, .int .i64 R, .int .i64 K] := (Blk.new w _ _).alloc _
  have Bo : Blk ((w.alloc (.cells #[.int .i64 N, .int .i64 W, .int .i64 R, .int .i64 K] 46)).alloc (.cells #[.int .i64 kd, .int .i64 a, .int .i64 b, .int .i64 c, .int .u32 v] 53)) (w.heap.size + 1) 53 #[.int .i64 kd, .int .i64 a, .int .i64 b, .int .i64 c, .int .u32 v] := by
    have h := Blk.new (w.alloc (.cells #[.int .i64 N, .int .i64 W, .int .i64 R, .int .i64 K] 46)) 53 #[.int .i64 kd, .int .i64 a, .int .i64 b, .int .i64 c, .int .u32 v]
    simpa using h
  have t1 : decide (1 ≤ kd) = true := decide_eq_true (by omega)
  have t2 : decide (kd ≤ 10) = false := decide_eq_false (by omega)
  clear h0
  have P : Hd (decide (plCheck N W R K = 0) = false) := ⟨decide_eq_false (by omega)⟩
  have PL := Hd.mk hp
  clear hp
  have fc0 := Bc.cell 0
  have fc1 := Bc.cell 1
  have fc2 := Bc.cell 2
  have fc3 := Bc.cell 3
  have fo0 := Bo.cell 0
  have fo1 := Bo.cell 1
  have fo2 := Bo.cell 2
  have fo3 := Bo.cell 3
  have fo4 := Bo.cell 4
  have KK := K0
  go_enter Tryz.func11, Tryz.ntmps11
  go_wp2_with fail
  refine (hConfN _).mono ?_
  rintro _ w2 ⟨rfl, K2⟩
  replace Bc := Bc.stays K2 (fun x => x)
  replace Bo := Bo.stays K2 (fun x => x)
  have KK := KK.trans K2
  have fc0 := Bc.cell 0
  have fc1 := Bc.cell 1
  have fc2 := Bc.cell 2
  have fc3 := Bc.cell 3
  have fo0 := Bo.cell 0
  have fo1 := Bo.cell 1
  have fo2 := Bo.cell 2
  have fo3 := Bo.cell 3
  have fo4 := Bo.cell 4
  go_wp2_with fail
  refine (hMeterN _).mono ?_
  rintro _ _ ⟨rfl, rfl⟩
  go_wp2_with fail
  refine (hCleanN _).mono ?_
  rintro _ _ ⟨rfl, rfl⟩
  go_wp2_with fail
  refine (hPendingN _).mono ?_
  rintro _ w3 ⟨rfl, K3⟩
  replace Bc := Bc.stays K3 (fun x => x)
  replace Bo := Bo.stays K3 (fun x => x)
  have KK := KK.trans K3
  have fc0 := Bc.cell 0
  have fc1 := Bc.cell 1
  have fc2 := Bc.cell 2
  have fc3 := Bc.cell 3
  have fo0 := Bo.cell 0
  have fo1 := Bo.cell 1
  have fo2 := Bo.cell 2
  have fo3 := Bo.cell 3
  have fo4 := Bo.cell 4
  go_wp2_with fail
  refine (hGroundN _).mono ?_
  rintro _ _ ⟨rfl, rfl⟩
  go_wp2_with fail
  refine (May_c _ _ _ _ _).mono ?_
  rintro _ w4 ⟨rfl, K4⟩
  replace Bc := Bc.stays K4 (fun x => x)
  replace Bo := Bo.stays K4 (fun x => x)
  have KK := KK.trans K4
  have fc0 := Bc.cell 0
  have fc1 := Bc.cell 1
  have fc2 := Bc.cell 2
  have fc3 := Bc.cell 3
  have fo0 := Bo.cell 0
  have fo1 := Bo.cell 1
  have fo2 := Bo.cell 2
  have fo3 := Bo.cell 3
  have fo4 := Bo.cell 4
  rw [P.out]
  go_wp2_with fail
  refine (hNewBad_c _ _ _ _ _ PL.out).mono ?_
  rintro _ w5 ⟨rfl, K5⟩
  replace Bc := Bc.stays K5 (fun x => x)
  have KK := KK.trans K5
  have fc0 := Bc.cell 0
  have fc1 := Bc.cell 1
  have fc2 := Bc.cell 2
  have fc3 := Bc.cell 3
  go_wp2_with fail
  refine (May_c _ _ _ _ _).mono ?_
  rintro _ w6 ⟨rfl, K6⟩
  replace Bc := Bc.stays K6 (fun x => x)
  have KK := KK.trans K6
  have fc0 := Bc.cell 0
  have fc1 := Bc.cell 1
  have fc2 := Bc.cell 2
  have fc3 := Bc.cell 3
  have fo0 := Bo.cell 0
  have fo1 := Bo.cell 1
  have fo2 := Bo.cell 2
  have fo3 := Bo.cell 3
  have fo4 := Bo.cell 4
  rw [P.out]
  go_wp2_with fail
  refine (HB.out _ (HZ'.out.stays KK (fun x => x))).mono ?_
  rintro _ w7 ⟨rfl, K7⟩
  go_wp2_with fail
  go_ret
  exact ⟨rfl, KK.trans K7⟩
theorem lawHeapN_c (N W R K kd a b c v : Int) (w : World) (HZ : NoneZ w) :
    Calls Tryz.prog 11 #[.agg #[.int .i64 N, .int .i64 W, .int .i64 R, .int .i64 K], .agg #[.int .i64 kd, .int .i64 a, .int .i64 b, .int .i64 c, .int .u32 v]] w (Made w (.bool true)) := by
  rcases plCheck_cases N W R K with hp | ⟨hp, _⟩
  · rcases (by omega : kd < 1 ∨ 10 < kd ∨ (1 ≤ kd ∧ kd ≤ 10)) with h | h | ⟨h, h'⟩
    · exact lawHN_lobad N W R K kd a b c v w HZ h hp
    · exact lawHN_hibad N W R K kd a b c v w HZ h hp
    · exact lawHN_inbad N W R K kd a b c v w HZ h h' hp
  · by_cases hn : 3000 < N
    · rcases (by omega : kd < 1 ∨ 10 < kd ∨ (1 ≤ kd ∧ kd ≤ 10)) with h | h | ⟨h, h'⟩
      · exact lawHN_lobig N W R K kd a b c v w HZ h hp hn
      · exact lawHN_hibig N W R K kd a b c v w HZ h hp hn
      · exact lawHN_inbig N W R K kd a b c v w HZ h h' hp hn
    · rcases (by omega : kd < 1 ∨ 10 < kd ∨ (1 ≤ kd ∧ kd ≤ 10)) with h | h | ⟨h, h'⟩
      · exact lawHN_look N W R K kd a b c v w HZ h hp hn
      · exact lawHN_hiok N W R K kd a b c v w HZ h hp hn
      · exact lawHN_inok N W R K kd a b c v w HZ h h' hp hn
end Go.Proofs.YtadhdjldcpkfiaaGreatDoor
