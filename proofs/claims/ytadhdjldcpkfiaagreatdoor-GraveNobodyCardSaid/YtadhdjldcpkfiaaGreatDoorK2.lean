/- GraveNobody: its example and the law itself, walked. -/
import Derived.Test.YtadhdjldcpkfiaaGreatDoorN2
import Derived.Test.YtadhdjldcpkfiaaGreatDoorZ2
import Derived.Test.YtadhdjldcpkfiaaGreatDoorEx
namespace Go.Proofs.YtadhdjldcpkfiaaGreatDoor
set_option linter.unusedVariables false
set_option linter.unusedSimpArgs false
open Go.RowKit
set_option maxRecDepth 100000
set_option maxHeartbeats 1600000

def exGrave : GM Bool := poOpen >>= fun v1 => obMake 2 0 >>= fun v2 => gvBury 1 >>= fun v3 => gvBury 1 >>= fun v4 => gvPending >>= fun v5 => gvStep >>= fun v6 => gvStep >>= fun v7 => poLen >>= fun v8 => gvStep >>= fun v9 => poLen >>= fun v10 => gvStep >>= fun v11 => gvPending >>= fun v12 => 
  pure (decide (v1 = true) && (decide (v2.1 = 1) && (decide (v2.2 = 0) && (decide (v3 = true) && (decide (v4 = false) && (decide (v5 = 1) && (decide (v6 = true) && (decide (v7 = true) && (decide (v8 = 1) && (decide (v9 = true) && (decide (v10 = 2) && (decide (v11 = false) && (decide (v12 = 0) && true)))))))))))))
theorem exGrave_holds : (exGrave (gsNew 2 16 1 1)).1 = true := by decide +kernel
theorem begunGrave_c (w : World) (HZ : NoneZ w) : Calls Tryz.prog 38 #[] w (Made w (.bool true)) := by
  obtain ⟨T, hT⟩ := ex_of exGrave_holds
  obtain ⟨S0, hS0⟩ : ∃ S0, S0 = gsNew 2 16 1 1 := ⟨_, rfl⟩
  rw [← hS0] at hT
  unfold exGrave at hT
  replace hT := GM.bind_eq hT; obtain ⟨v1, S1, e1, hT⟩ := hT
  replace hT := GM.bind_eq hT; obtain ⟨⟨v2a, v2b⟩, S2, e2, hT⟩ := hT
  replace hT := GM.bind_eq hT; obtain ⟨v3, S3, e3, hT⟩ := hT
  replace hT := GM.bind_eq hT; obtain ⟨v4, S4, e4, hT⟩ := hT
  replace hT := GM.bind_eq hT; obtain ⟨v5, S5, e5, hT⟩ := hT
  replace hT := GM.bind_eq hT; obtain ⟨v6, S6, e6, hT⟩ := hT
  replace hT := GM.bind_eq hT; obtain ⟨v7, S7, e7, hT⟩ := hT
  replace hT := GM.bind_eq hT; obtain ⟨v8, S8, e8, hT⟩ := hT
  replace hT := GM.bind_eq hT; obtain ⟨v9, S9, e9, hT⟩ := hT
  replace hT := GM.bind_eq hT; obtain ⟨v10, S10, e10, hT⟩ := hT
  replace hT := GM.bind_eq hT; obtain ⟨v11, S11, e11, hT⟩ := hT
  replace hT := GM.bind_eq hT; obtain ⟨v12, S12, e12, hT⟩ := hT
  obtain ⟨hv, rfl⟩ := GM.pure_eq hT
  simp only [Bool.and_eq_true, decide_eq_true_eq] at hv
  obtain ⟨rfl, rfl, rfl, rfl, rfl, rfl, rfl, rfl, rfl, rfl, rfl, rfl, rfl, -⟩ := hv
  rw [hS0] at e1
  clear hS0 hT
  have E1 := Hd.mk e1
  have E2 := Hd.mk e2
  have E3 := Hd.mk e3
  have E4 := Hd.mk e4
  have E5 := Hd.mk e5
  have E6 := Hd.mk e6
  have E7 := Hd.mk e7
  have E8 := Hd.mk e8
  have E9 := Hd.mk e9
  have E10 := Hd.mk e10
  have E11 := Hd.mk e11
  have E12 := Hd.mk e12
  clear e1 e2 e3 e4 e5 e6 e7 e8 e9 e10 e11 e12
  have HZ' := Hd.mk HZ
  clear HZ
  go_enter Tryz.func38, Tryz.ntmps38
  go_wp2_with fail
  refine (Opened_c 2 16 1 1 w HZ'.out (by decide) (by decide) (by decide) (by decide) (by decide) (by decide) (by decide) (by decide) (by decide) (by decide) E1.out).mono ?_
  rintro _ w1 ⟨A, b, ⟨rfl, K1⟩, H1, HF⟩
  have HF' := Hd.mk HF
  clear HF
  go_wp2_with fail
  refine (obMake_c H1 E2.out).mono ?_
  rintro _ w2 ⟨rfl, H2, K2⟩
  go_wp2_with fail
  refine (gvBury_c H2 E3.out).mono ?_
  rintro _ w3 ⟨rfl, H3, K3⟩
  go_wp2_with fail
  refine (gvBury_c H3 E4.out).mono ?_
  rintro _ w4 ⟨rfl, H4, K4⟩
  go_wp2_with fail
  refine (gvPending_c H4 E5.out).mono ?_
  rintro _ w5 ⟨⟨rfl, H5, K5⟩, _⟩
  go_wp2_with fail
  refine (gvStep_c H5 E6.out).mono ?_
  rintro _ w6 ⟨rfl, H6, K6⟩
  go_wp2_with fail
  refine (gvStep_c H6 E7.out).mono ?_
  rintro _ w7 ⟨rfl, H7, K7⟩
  go_wp2_with fail
  refine (poLen_c H7 E8.out).mono ?_
  rintro _ w8 ⟨rfl, H8, K8⟩
  go_wp2_with fail
  refine (gvStep_c H8 E9.out).mono ?_
  rintro _ w9 ⟨rfl, H9, K9⟩
  go_wp2_with fail
  refine (poLen_c H9 E10.out).mono ?_
  rintro _ w10 ⟨rfl, H10, K10⟩
  go_wp2_with fail
  refine (gvStep_c H10 E11.out).mono ?_
  rintro _ w11 ⟨rfl, H11, K11⟩
  go_wp2_with fail
  refine (gvPending_c H11 E12.out).mono ?_
  rintro _ w12 ⟨⟨rfl, H12, K12⟩, _⟩
  go_wp2_with fail
  go_ret
  exact ⟨rfl, K1.fresh ((((((((((K2.trans K3).trans K4).trans K5).trans K6).trans K7).trans K8).trans K9).trans K10).trans K11).trans K12) HF'.out⟩
theorem lawGrave_c (r : Int) (w : World) (HZ : NoneZ w) : Calls Tryz.prog 5 #[.int .i64 r] w (Made w (.bool true)) := by
  have HZ' := Hd.mk HZ
  clear HZ
  go_enter Tryz.func5, Tryz.ntmps5
  go_wp2_with fail
  refine (buryN _ _).mono ?_
  rintro _ w1 ⟨rfl, K1⟩
  go_wp2_with fail
  refine (gstepN _).mono ?_
  rintro _ w2 ⟨rfl, K2⟩
  go_wp2_with fail
  refine (releaseN _).mono ?_
  rintro _ w3 ⟨rfl, K3⟩
  go_wp2_with fail
  refine (pendingN _).mono ?_
  rintro _ w4 ⟨rfl, K4⟩
  go_wp2_with fail
  refine (glistN _).mono ?_
  rintro _ w5 ⟨rfl, K5⟩
  go_wp2_with fail
  refine (gseeN _).mono ?_
  rintro _ w6 ⟨rfl, K6⟩
  have K := (((((K1.trans K2).trans K3).trans K4).trans K5).trans K6)
  go_wp2_with fail
  refine (begunGrave_c _ (HZ'.out.stays K (fun x => x))).mono ?_
  rintro _ w7 ⟨rfl, K7⟩
  go_wp2_with fail
  go_ret
  exact ⟨rfl, K.trans K7⟩
end Go.Proofs.YtadhdjldcpkfiaaGreatDoor
