/- The examples of the chapters 16 and 18, walked. -/
import Derived.Test.YtadhdjldcpkfiaaGreatDoorN2
import Derived.Test.YtadhdjldcpkfiaaGreatDoorRu
import Derived.Test.YtadhdjldcpkfiaaGreatDoorEx
namespace Go.Proofs.YtadhdjldcpkfiaaGreatDoor
set_option linter.unusedVariables false
set_option linter.unusedSimpArgs false
open Go.RowKit
set_option maxRecDepth 100000
set_option maxHeartbeats 1600000

def exTally : GM Bool := poOpen >>= fun v1 => lkBorn 1 0 >>= fun v2 => lkPut 1 0 1 >>= fun v3 => taStep >>= fun v4 => tiTurn >>= fun v5 => tiBegin 1 >>= fun v6 => taStep >>= fun v7 => taStep >>= fun v8 => taStep >>= fun v9 => tiShadow 1 >>= fun v10 => tiCounted 1 0 >>= fun v11 => 
  pure (decide (v1 = true) && (decide (v2.1 = 1) && (decide (v2.2 = 0) && (decide (v3 = 0) && (decide (v4 = false) && (decide (v6 = true) && (decide (v7 = true) && (decide (v8 = true) && (decide (v9 = false) && (decide (v10 = 1) && (decide (v11 = true) && true)))))))))))
theorem exTally_holds : (exTally (gsNew 1 16 1 1)).1 = true := by decide +kernel
theorem begunTally_c (w : World) (HZ : NoneZ w) : Calls Tryz.prog 30 #[] w (Made w (.bool true)) := by
  obtain ⟨T, hT⟩ := ex_of exTally_holds
  obtain ⟨S0, hS0⟩ : ∃ S0, S0 = gsNew 1 16 1 1 := ⟨_, rfl⟩
  rw [← hS0] at hT
  unfold exTally at hT
  replace hT := GM.bind_eq hT; obtain ⟨v1, S1, e1, hT⟩ := hT
  replace hT := GM.bind_eq hT; obtain ⟨⟨v2a, v2b⟩, S2, e2, hT⟩ := hT
  replace hT := GM.bind_eq hT; obtain ⟨v3, S3, e3, hT⟩ := hT
  replace hT := GM.bind_eq hT; obtain ⟨v4, S4, e4, hT⟩ := hT
  replace hT := GM.bind_eq hT; obtain ⟨v5, S5, e5, hT⟩ := hT
  replace hT := GM.bind_eq hT; obtain ⟨v6, S6, e6, hT⟩ := hT
  replace hT := GM.bind_eq hT; obtain ⟨v7, S7, e7, hT⟩ := hT
  replace hT := GM.bind_eq hT; obtain ⟨v8, S8, e8, hT⟩ := hT
  replace hT := GM.bind_eq hT; obtain ⟨v9, S9, e9, hT⟩ := hT
  replace hT := GM.bind_eq hT; obtain ⟨v10, S10, e10, hT⟩ := hT
  replace hT := GM.bind_eq hT; obtain ⟨v11, S11, e11, hT⟩ := hT
  obtain ⟨hv, rfl⟩ := GM.pure_eq hT
  simp only [Bool.and_eq_true, decide_eq_true_eq] at hv
  obtain ⟨rfl, rfl, rfl, rfl, rfl, rfl, rfl, rfl, rfl, rfl, rfl, -⟩ := hv
  rw [hS0] at e1
  clear hS0 hT
  have E1 := Hd.mk e1
  have E2 := Hd.mk e2
  have E3 := Hd.mk e3
  have E4 := Hd.mk e4
  have E5 := Hd.mk e5
  have E6 := Hd.mk e6
  have E7 := Hd.mk e7
  have E8 := Hd.mk e8
  have E9 := Hd.mk e9
  have E10 := Hd.mk e10
  have E11 := Hd.mk e11
  clear e1 e2 e3 e4 e5 e6 e7 e8 e9 e10 e11
  have HZ' := Hd.mk HZ
  clear HZ
  go_enter Tryz.func30, Tryz.ntmps30
  go_wp2_with fail
  refine (Opened_c 1 16 1 1 w HZ'.out (by decide) (by decide) (by decide) (by decide) (by decide) (by decide) (by decide) (by decide) (by decide) (by decide) E1.out).mono ?_
  rintro _ w1 ⟨A, b, ⟨rfl, K1⟩, H1, HF⟩
  have HF' := Hd.mk HF
  clear HF
  go_wp2_with fail
  refine (lkBorn_c H1 E2.out).mono ?_
  rintro _ w2 ⟨rfl, H2, K2⟩
  go_wp2_with fail
  refine (lkPut_c H2 E3.out).mono ?_
  rintro _ w3 ⟨rfl, H3, K3⟩
  go_wp2_with fail
  refine (taStep_c H3 E4.out).mono ?_
  rintro _ w4 ⟨rfl, H4, K4⟩
  go_wp2_with fail
  refine (tiTurn_c H4 E5.out).mono ?_
  rintro _ w5 ⟨rfl, H5, K5⟩
  go_wp2_with fail
  refine (tiBegin_c H5 E6.out).mono ?_
  rintro _ w6 ⟨rfl, H6, K6⟩
  go_wp2_with fail
  refine (taStep_c H6 E7.out).mono ?_
  rintro _ w7 ⟨rfl, H7, K7⟩
  go_wp2_with fail
  refine (taStep_c H7 E8.out).mono ?_
  rintro _ w8 ⟨rfl, H8, K8⟩
  go_wp2_with fail
  refine (taStep_c H8 E9.out).mono ?_
  rintro _ w9 ⟨rfl, H9, K9⟩
  go_wp2_with fail
  refine (tiShadow_c H9 E10.out).mono ?_
  rintro _ w10 ⟨⟨rfl, H10, K10⟩, _⟩
  go_wp2_with fail
  refine (tiCounted_c H10 E11.out).mono ?_
  rintro _ w11 ⟨rfl, H11, K11⟩
  go_wp2_with fail
  go_ret
  exact ⟨rfl, K1.fresh (((((((((K2.trans K3).trans K4).trans K5).trans K6).trans K7).trans K8).trans K9).trans K10).trans K11) HF'.out⟩
def exReap : GM Bool := poOpen >>= fun v1 => lkBorn 1 0 >>= fun v2 => lkBorn 1 0 >>= fun v3 => lkPut 1 0 2 >>= fun v4 => lkPut 2 0 1 >>= fun v5 => lkLet 1 >>= fun v6 => lkLet 2 >>= fun v7 => gvPending >>= fun v8 => run17 >>= fun v9 => tiBegin 3 >>= fun v10 => rpStep >>= fun v11 => rpStep >>= fun v12 => rpStep >>= fun v13 => gvPending >>= fun v14 => ctOf 2 >>= fun v15 => 
  pure (decide (v1 = true) && (decide (v2.1 = 1) && (decide (v2.2 = 0) && (decide (v3.1 = 2) && (decide (v3.2 = 0) && (decide (v4 = 0) && (decide (v5 = 0) && (decide (v6 = true) && (decide (v7 = true) && (decide (v8 = 0) && (decide (v9.1 < 1000) && (decide (v9.2 < 1000) && (decide (v10 = true) && (decide (v11 = true) && (decide (v12 = true) && (decide (v13 = true) && (decide (v14 = 1) && (decide (v15 = 0) && true))))))))))))))))))
theorem exReap_holds : (exReap (gsNew 2 16 1 1)).1 = true := by decide +kernel
theorem begunReap_c (w : World) (HZ : NoneZ w) : Calls Tryz.prog 42 #[] w (Made w (.bool true)) := by
  obtain ⟨T, hT⟩ := ex_of exReap_holds
  obtain ⟨S0, hS0⟩ : ∃ S0, S0 = gsNew 2 16 1 1 := ⟨_, rfl⟩
  rw [← hS0] at hT
  unfold exReap at hT
  replace hT := GM.bind_eq hT; obtain ⟨v1, S1, e1, hT⟩ := hT
  replace hT := GM.bind_eq hT; obtain ⟨⟨v2a, v2b⟩, S2, e2, hT⟩ := hT
  replace hT := GM.bind_eq hT; obtain ⟨⟨v3a, v3b⟩, S3, e3, hT⟩ := hT
  replace hT := GM.bind_eq hT; obtain ⟨v4, S4, e4, hT⟩ := hT
  replace hT := GM.bind_eq hT; obtain ⟨v5, S5, e5, hT⟩ := hT
  replace hT := GM.bind_eq hT; obtain ⟨v6, S6, e6, hT⟩ := hT
  replace hT := GM.bind_eq hT; obtain ⟨v7, S7, e7, hT⟩ := hT
  replace hT := GM.bind_eq hT; obtain ⟨v8, S8, e8, hT⟩ := hT
  replace hT := GM.bind_eq hT; obtain ⟨⟨v9a, v9b⟩, S9, e9, hT⟩ := hT
  replace hT := GM.bind_eq hT; obtain ⟨v10, S10, e10, hT⟩ := hT
  replace hT := GM.bind_eq hT; obtain ⟨v11, S11, e11, hT⟩ := hT
  replace hT := GM.bind_eq hT; obtain ⟨v12, S12, e12, hT⟩ := hT
  replace hT := GM.bind_eq hT; obtain ⟨v13, S13, e13, hT⟩ := hT
  replace hT := GM.bind_eq hT; obtain ⟨v14, S14, e14, hT⟩ := hT
  replace hT := GM.bind_eq hT; obtain ⟨v15, S15, e15, hT⟩ := hT
  obtain ⟨hv, rfl⟩ := GM.pure_eq hT
  simp only [Bool.and_eq_true, decide_eq_true_eq] at hv
  obtain ⟨rfl, rfl, rfl, rfl, rfl, rfl, rfl, rfl, rfl, rfl, hl10, hl11, rfl, rfl, rfl, rfl, rfl, rfl, -⟩ := hv
  rw [hS0] at e1
  clear hS0 hT
  have E1 := Hd.mk e1
  have E2 := Hd.mk e2
  have E3 := Hd.mk e3
  have E4 := Hd.mk e4
  have E5 := Hd.mk e5
  have E6 := Hd.mk e6
  have E7 := Hd.mk e7
  have E8 := Hd.mk e8
  have E9 := Hd.mk e9
  have E10 := Hd.mk e10
  have E11 := Hd.mk e11
  have E12 := Hd.mk e12
  have E13 := Hd.mk e13
  have E14 := Hd.mk e14
  have E15 := Hd.mk e15
  clear e1 e2 e3 e4 e5 e6 e7 e8 e9 e10 e11 e12 e13 e14 e15
  have HZ' := Hd.mk HZ
  clear HZ
  go_enter Tryz.func42, Tryz.ntmps42
  go_wp2_with fail
  refine (Opened_c 2 16 1 1 w HZ'.out (by decide) (by decide) (by decide) (by decide) (by decide) (by decide) (by decide) (by decide) (by decide) (by decide) E1.out).mono ?_
  rintro _ w1 ⟨A, b, ⟨rfl, K1⟩, H1, HF⟩
  have HF' := Hd.mk HF
  clear HF
  go_wp2_with fail
  refine (lkBorn_c H1 E2.out).mono ?_
  rintro _ w2 ⟨rfl, H2, K2⟩
  go_wp2_with fail
  refine (lkBorn_c H2 E3.out).mono ?_
  rintro _ w3 ⟨rfl, H3, K3⟩
  go_wp2_with fail
  refine (lkPut_c H3 E4.out).mono ?_
  rintro _ w4 ⟨rfl, H4, K4⟩
  go_wp2_with fail
  refine (lkPut_c H4 E5.out).mono ?_
  rintro _ w5 ⟨rfl, H5, K5⟩
  go_wp2_with fail
  refine (lkLet_c H5 E6.out).mono ?_
  rintro _ w6 ⟨rfl, H6, K6⟩
  go_wp2_with fail
  refine (lkLet_c H6 E7.out).mono ?_
  rintro _ w7 ⟨rfl, H7, K7⟩
  go_wp2_with fail
  refine (gvPending_c H7 E8.out).mono ?_
  rintro _ w8 ⟨⟨rfl, H8, K8⟩, _⟩
  go_wp2_with fail
  refine (run17_c H8 hl10 hl11 E9.out).mono ?_
  rintro _ w9 ⟨rfl, H9, K9⟩
  go_wp2_with fail
  refine (tiBegin_c H9 E10.out).mono ?_
  rintro _ w10 ⟨rfl, H10, K10⟩
  go_wp2_with fail
  refine (rpStep_c H10 E11.out).mono ?_
  rintro _ w11 ⟨rfl, H11, K11⟩
  go_wp2_with fail
  refine (rpStep_c H11 E12.out).mono ?_
  rintro _ w12 ⟨rfl, H12, K12⟩
  go_wp2_with fail
  refine (rpStep_c H12 E13.out).mono ?_
  rintro _ w13 ⟨rfl, H13, K13⟩
  go_wp2_with fail
  refine (gvPending_c H13 E14.out).mono ?_
  rintro _ w14 ⟨⟨rfl, H14, K14⟩, _⟩
  go_wp2_with fail
  refine (ctOf_c H14 E15.out).mono ?_
  rintro _ w15 ⟨⟨rfl, H15, K15⟩, _⟩
  go_wp2_with fail
  go_ret
  exact ⟨rfl, K1.fresh (((((((((((((K2.trans K3).trans K4).trans K5).trans K6).trans K7).trans K8).trans K9).trans K10).trans K11).trans K12).trans K13).trans K14).trans K15) HF'.out⟩
end Go.Proofs.YtadhdjldcpkfiaaGreatDoor
