/- RoundNobody: its example and the law itself, walked. -/
import Derived.Test.YtadhdjldcpkfiaaGreatDoorN2
import Derived.Test.YtadhdjldcpkfiaaGreatDoorZ2
import Derived.Test.YtadhdjldcpkfiaaGreatDoorRn
import Derived.Test.YtadhdjldcpkfiaaGreatDoorEx
namespace Go.Proofs.YtadhdjldcpkfiaaGreatDoor
set_option linter.unusedVariables false
set_option linter.unusedSimpArgs false
open Go.RowKit
set_option maxRecDepth 100000
set_option maxHeartbeats 1600000

def exRound : GM Bool := poOpen >>= fun v1 => rdStep >>= fun v2 => rdQuiet >>= fun v3 => lkBorn 1 0 >>= fun v4 => lkPut 1 0 1 >>= fun v5 => lkLet 1 >>= fun v6 => rdQuiet >>= fun v7 => rdRun 100 >>= fun v8 => rdUnits >>= fun v9 => rdEpochs >>= fun v10 => rdQuiet >>= fun v11 => gvPending >>= fun v12 => 
  pure (decide (v1 = true) && (decide (v2 = false) && (decide (v3 = true) && (decide (v4.1 = 1) && (decide (v4.2 = 0) && (decide (v5 = 0) && (decide (v6 = true) && (decide (v7 = false) && (decide (v8 = 9) && (decide (v9 = 9) && (decide (v10 = 1) && (decide (v11 = true) && (decide (v12 = 1) && true)))))))))))))
theorem exRound_holds : (exRound (gsNew 1 16 1 1)).1 = true := by decide +kernel
theorem begunRound_c (w : World) (HZ : NoneZ w) : Calls Tryz.prog 48 #[] w (Made w (.bool true)) := by
  obtain ⟨T, hT⟩ := ex_of exRound_holds
  obtain ⟨S0, hS0⟩ : ∃ S0, S0 = gsNew 1 16 1 1 := ⟨_, rfl⟩
  rw [← hS0] at hT
  unfold exRound at hT
  replace hT := GM.bind_eq hT; obtain ⟨v1, S1, e1, hT⟩ := hT
  replace hT := GM.bind_eq hT; obtain ⟨v2, S2, e2, hT⟩ := hT
  replace hT := GM.bind_eq hT; obtain ⟨v3, S3, e3, hT⟩ := hT
  replace hT := GM.bind_eq hT; obtain ⟨⟨v4a, v4b⟩, S4, e4, hT⟩ := hT
  replace hT := GM.bind_eq hT; obtain ⟨v5, S5, e5, hT⟩ := hT
  replace hT := GM.bind_eq hT; obtain ⟨v6, S6, e6, hT⟩ := hT
  replace hT := GM.bind_eq hT; obtain ⟨v7, S7, e7, hT⟩ := hT
  replace hT := GM.bind_eq hT; obtain ⟨v8, S8, e8, hT⟩ := hT
  replace hT := GM.bind_eq hT; obtain ⟨v9, S9, e9, hT⟩ := hT
  replace hT := GM.bind_eq hT; obtain ⟨v10, S10, e10, hT⟩ := hT
  replace hT := GM.bind_eq hT; obtain ⟨v11, S11, e11, hT⟩ := hT
  replace hT := GM.bind_eq hT; obtain ⟨v12, S12, e12, hT⟩ := hT
  obtain ⟨hv, rfl⟩ := GM.pure_eq hT
  simp only [Bool.and_eq_true, decide_eq_true_eq] at hv
  obtain ⟨rfl, rfl, rfl, rfl, rfl, rfl, rfl, rfl, rfl, rfl, rfl, rfl, rfl, -⟩ := hv
  rw [hS0] at e1
  clear hS0 hT
  have E1 := Hd.mk e1
  have E2 := Hd.mk e2
  have E3 := Hd.mk e3
  have E4 := Hd.mk e4
  have E5 := Hd.mk e5
  have E6 := Hd.mk e6
  have E7 := Hd.mk e7
  have E8 := Hd.mk e8
  have E9 := Hd.mk e9
  have E10 := Hd.mk e10
  have E11 := Hd.mk e11
  have E12 := Hd.mk e12
  clear e1 e2 e3 e4 e5 e6 e7 e8 e9 e10 e11 e12
  have HZ' := Hd.mk HZ
  clear HZ
  go_enter Tryz.func48, Tryz.ntmps48
  go_wp2_with fail
  refine (Opened_c 1 16 1 1 w HZ'.out (by decide) (by decide) (by decide) (by decide) (by decide) (by decide) (by decide) (by decide) (by decide) (by decide) E1.out).mono ?_
  rintro _ w1 ⟨A, b, ⟨rfl, K1⟩, H1, HF⟩
  have HF' := Hd.mk HF
  clear HF
  go_wp2_with fail
  refine (rdStep_c H1 E2.out).mono ?_
  rintro _ w2 ⟨rfl, H2, K2⟩
  go_wp2_with fail
  refine (rdQuiet_c H2 E3.out).mono ?_
  rintro _ w3 ⟨rfl, H3, K3⟩
  go_wp2_with fail
  refine (lkBorn_c H3 E4.out).mono ?_
  rintro _ w4 ⟨rfl, H4, K4⟩
  go_wp2_with fail
  refine (lkPut_c H4 E5.out).mono ?_
  rintro _ w5 ⟨rfl, H5, K5⟩
  go_wp2_with fail
  refine (lkLet_c H5 E6.out).mono ?_
  rintro _ w6 ⟨rfl, H6, K6⟩
  go_wp2_with fail
  refine (rdQuiet_c H6 E7.out).mono ?_
  rintro _ w7 ⟨rfl, H7, K7⟩
  go_wp2_with fail
  refine (rdRun_c H7 (by decide) E8.out).mono ?_
  rintro _ w8 ⟨rfl, H8, K8⟩
  go_wp2_with fail
  refine (rdUnits_c H8 E9.out).mono ?_
  rintro _ w9 ⟨rfl, H9, K9⟩
  go_wp2_with fail
  refine (rdEpochs_c H9 E10.out).mono ?_
  rintro _ w10 ⟨rfl, H10, K10⟩
  go_wp2_with fail
  refine (rdQuiet_c H10 E11.out).mono ?_
  rintro _ w11 ⟨rfl, H11, K11⟩
  go_wp2_with fail
  refine (gvPending_c H11 E12.out).mono ?_
  rintro _ w12 ⟨⟨rfl, H12, K12⟩, _⟩
  go_wp2_with fail
  go_ret
  exact ⟨rfl, K1.fresh ((((((((((K2.trans K3).trans K4).trans K5).trans K6).trans K7).trans K8).trans K9).trans K10).trans K11).trans K12) HF'.out⟩
theorem lawRound_c (n : Int) (w : World) (HZ : NoneZ w) : Calls Tryz.prog 8 #[.int .i64 n] w (Made w (.bool true)) := by
  have HZ' := Hd.mk HZ
  clear HZ
  go_enter Tryz.func8, Tryz.ntmps8
  go_wp2_with fail
  refine (rstepN _).mono ?_
  rintro _ w1 ⟨rfl, K1⟩
  go_wp2_with fail
  refine (rrunN _ _).mono ?_
  rintro _ w2 ⟨rfl, K2⟩
  go_wp2_with fail
  refine (unitsN _).mono ?_
  rintro _ w3 ⟨rfl, K3⟩
  go_wp2_with fail
  refine (epochsN _).mono ?_
  rintro _ w4 ⟨rfl, K4⟩
  go_wp2_with fail
  refine (quietN _).mono ?_
  rintro _ w5 ⟨rfl, K5⟩
  have K := ((((K1.trans K2).trans K3).trans K4).trans K5)
  go_wp2_with fail
  refine (begunRound_c _ (HZ'.out.stays K (fun x => x))).mono ?_
  rintro _ w6 ⟨rfl, K6⟩
  go_wp2_with fail
  go_ret
  exact ⟨rfl, K.trans K6⟩
end Go.Proofs.YtadhdjldcpkfiaaGreatDoor
