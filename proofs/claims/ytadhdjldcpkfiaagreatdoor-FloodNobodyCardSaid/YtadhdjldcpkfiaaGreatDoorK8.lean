/- The example of chapter 17, walked. -/
import Derived.Test.YtadhdjldcpkfiaaGreatDoorK5
namespace Go.Proofs.YtadhdjldcpkfiaaGreatDoor
set_option linter.unusedVariables false
set_option linter.unusedSimpArgs false
open Go.RowKit
set_option maxRecDepth 100000
set_option maxHeartbeats 1600000

def exFlood : GM Bool := poOpen >>= fun v1 => lkBorn 1 0 >>= fun v2 => lkBorn 1 0 >>= fun v3 => lkBorn 1 0 >>= fun v4 => lkBorn 1 0 >>= fun v5 => lkPut 1 0 2 >>= fun v6 => lkPut 2 0 3 >>= fun v7 => lkPut 4 0 4 >>= fun v8 => lkLet 2 >>= fun v9 => lkLet 3 >>= fun v10 => lkLet 4 >>= fun v11 => run17 >>= fun v12 => tiBlack 1 >>= fun v13 => tiBlack 2 >>= fun v14 => tiBlack 3 >>= fun v15 => tiBlack 4 >>= fun v16 => flStep >>= fun v17 => 
  pure (decide (v1 = true) && (decide (v2.1 = 1) && (decide (v2.2 = 0) && (decide (v3.1 = 2) && (decide (v3.2 = 0) && (decide (v4.1 = 3) && (decide (v4.2 = 0) && (decide (v5.1 = 4) && (decide (v5.2 = 0) && (decide (v6 = 0) && (decide (v7 = 0) && (decide (v8 = 0) && (decide (v9 = true) && (decide (v10 = true) && (decide (v11 = true) && (decide (v12.1 < 1000) && (decide (v12.2 < 1000) && (decide (v13 = true) && (decide (v14 = true) && (decide (v15 = true) && (decide (v16 = false) && (decide (v17 = false) && true))))))))))))))))))))))
theorem exFlood_holds : (exFlood (gsNew 4 16 1 1)).1 = true := by decide +kernel
theorem begunFlood_c (w : World) (HZ : NoneZ w) : Calls Tryz.prog 40 #[] w (Made w (.bool true)) := by
  obtain ⟨T, hT⟩ := ex_of exFlood_holds
  obtain ⟨S0, hS0⟩ : ∃ S0, S0 = gsNew 4 16 1 1 := ⟨_, rfl⟩
  rw [← hS0] at hT
  unfold exFlood at hT
  replace hT := GM.bind_eq hT; obtain ⟨v1, S1, e1, hT⟩ := hT
  replace hT := GM.bind_eq hT; obtain ⟨⟨v2a, v2b⟩, S2, e2, hT⟩ := hT
  replace hT := GM.bind_eq hT; obtain ⟨⟨v3a, v3b⟩, S3, e3, hT⟩ := hT
  replace hT := GM.bind_eq hT; obtain ⟨⟨v4a, v4b⟩, S4, e4, hT⟩ := hT
  replace hT := GM.bind_eq hT; obtain ⟨⟨v5a, v5b⟩, S5, e5, hT⟩ := hT
  replace hT := GM.bind_eq hT; obtain ⟨v6, S6, e6, hT⟩ := hT
  replace hT := GM.bind_eq hT; obtain ⟨v7, S7, e7, hT⟩ := hT
  replace hT := GM.bind_eq hT; obtain ⟨v8, S8, e8, hT⟩ := hT
  replace hT := GM.bind_eq hT; obtain ⟨v9, S9, e9, hT⟩ := hT
  replace hT := GM.bind_eq hT; obtain ⟨v10, S10, e10, hT⟩ := hT
  replace hT := GM.bind_eq hT; obtain ⟨v11, S11, e11, hT⟩ := hT
  replace hT := GM.bind_eq hT; obtain ⟨⟨v12a, v12b⟩, S12, e12, hT⟩ := hT
  replace hT := GM.bind_eq hT; obtain ⟨v13, S13, e13, hT⟩ := hT
  replace hT := GM.bind_eq hT; obtain ⟨v14, S14, e14, hT⟩ := hT
  replace hT := GM.bind_eq hT; obtain ⟨v15, S15, e15, hT⟩ := hT
  replace hT := GM.bind_eq hT; obtain ⟨v16, S16, e16, hT⟩ := hT
  replace hT := GM.bind_eq hT; obtain ⟨v17, S17, e17, hT⟩ := hT
  obtain ⟨hv, rfl⟩ := GM.pure_eq hT
  simp only [Bool.and_eq_true, decide_eq_true_eq] at hv
  obtain ⟨rfl, rfl, rfl, rfl, rfl, rfl, rfl, rfl, rfl, rfl, rfl, rfl, rfl, rfl, rfl, hl15, hl16, rfl, rfl, rfl, rfl, rfl, -⟩ := hv
  rw [hS0] at e1
  clear hS0 hT
  have E1 := Hd.mk e1
  have E2 := Hd.mk e2
  have E3 := Hd.mk e3
  have E4 := Hd.mk e4
  have E5 := Hd.mk e5
  have E6 := Hd.mk e6
  have E7 := Hd.mk e7
  have E8 := Hd.mk e8
  have E9 := Hd.mk e9
  have E10 := Hd.mk e10
  have E11 := Hd.mk e11
  have E12 := Hd.mk e12
  have E13 := Hd.mk e13
  have E14 := Hd.mk e14
  have E15 := Hd.mk e15
  have E16 := Hd.mk e16
  have E17 := Hd.mk e17
  clear e1 e2 e3 e4 e5 e6 e7 e8 e9 e10 e11 e12 e13 e14 e15 e16 e17
  have HZ' := Hd.mk HZ
  clear HZ
  go_enter Tryz.func40, Tryz.ntmps40
  go_wp2_with fail
  refine (Opened_c 4 16 1 1 w HZ'.out (by decide) (by decide) (by decide) (by decide) (by decide) (by decide) (by decide) (by decide) (by decide) (by decide) E1.out).mono ?_
  rintro _ w1 ⟨A, b, ⟨rfl, K1⟩, H1, HF⟩
  have HF' := Hd.mk HF
  clear HF
  go_wp2_with fail
  go_loopw [4] (fun s wr => (s = .int .i64 1 ∧ Held A S1 wr ∨ s = .int .i64 2 ∧ Held A S2 wr ∨ s = .int .i64 3 ∧ Held A S3 wr ∨ s = .int .i64 4 ∧ Held A S4 wr ∨ s = .int .i64 5 ∧ Held A S5 wr) ∧ Stays A.foot w1 wr) (fun s _ => 5 - (intOf s).toNat)
  case atStart => exact ⟨Or.inl ⟨rfl, H1⟩, Stays.refl _ _⟩
  case round =>
    obtain ⟨hr, KU⟩ := hrel
    rcases hr with ⟨rfl, HU⟩ | ⟨rfl, HU⟩ | ⟨rfl, HU⟩ | ⟨rfl, HU⟩ | ⟨rfl, H5⟩
    · go_wp2_with fail
      refine (lkBorn_c HU E2.out).mono ?_
      rintro _ wx ⟨rfl, HX, KX⟩
      go_wp2_with fail
      go_roundw
      case rel => exact ⟨Or.inr (Or.inl ⟨rfl, HX⟩), KU.trans KX⟩
      case measure => simp [intOf]
    · go_wp2_with fail
      refine (lkBorn_c HU E3.out).mono ?_
      rintro _ wx ⟨rfl, HX, KX⟩
      go_wp2_with fail
      go_roundw
      case rel => exact ⟨Or.inr (Or.inr (Or.inl ⟨rfl, HX⟩)), KU.trans KX⟩
      case measure => simp [intOf]
    · go_wp2_with fail
      refine (lkBorn_c HU E4.out).mono ?_
      rintro _ wx ⟨rfl, HX, KX⟩
      go_wp2_with fail
      go_roundw
      case rel => exact ⟨Or.inr (Or.inr (Or.inr (Or.inl ⟨rfl, HX⟩))), KU.trans KX⟩
      case measure => simp [intOf]
    · go_wp2_with fail
      refine (lkBorn_c HU E5.out).mono ?_
      rintro _ wx ⟨rfl, HX, KX⟩
      go_wp2_with fail
      go_roundw
      case rel => exact ⟨Or.inr (Or.inr (Or.inr (Or.inr ⟨rfl, HX⟩))), KU.trans KX⟩
      case measure => simp [intOf]
    · go_wp2_with fail
      refine (lkPut_c H5 E6.out).mono ?_
      rintro _ w6 ⟨rfl, H6, K6⟩
      go_wp2_with fail
      refine (lkPut_c H6 E7.out).mono ?_
      rintro _ w7 ⟨rfl, H7, K7⟩
      go_wp2_with fail
      refine (lkPut_c H7 E8.out).mono ?_
      rintro _ w8 ⟨rfl, H8, K8⟩
      go_wp2_with fail
      refine (lkLet_c H8 E9.out).mono ?_
      rintro _ w9 ⟨rfl, H9, K9⟩
      go_wp2_with fail
      refine (lkLet_c H9 E10.out).mono ?_
      rintro _ w10 ⟨rfl, H10, K10⟩
      go_wp2_with fail
      refine (lkLet_c H10 E11.out).mono ?_
      rintro _ w11 ⟨rfl, H11, K11⟩
      go_wp2_with fail
      refine (run17_c H11 hl15 hl16 E12.out).mono ?_
      rintro _ w12 ⟨rfl, H12, K12⟩
      go_wp2_with fail
      refine (tiBlack_c H12 E13.out).mono ?_
      rintro _ w13 ⟨rfl, H13, K13⟩
      go_wp2_with fail
      refine (tiBlack_c H13 E14.out).mono ?_
      rintro _ w14 ⟨rfl, H14, K14⟩
      go_wp2_with fail
      refine (tiBlack_c H14 E15.out).mono ?_
      rintro _ w15 ⟨rfl, H15, K15⟩
      go_wp2_with fail
      refine (tiBlack_c H15 E16.out).mono ?_
      rintro _ w16 ⟨rfl, H16, K16⟩
      go_wp2_with fail
      refine (flStep_c H16 E17.out).mono ?_
      rintro _ w17 ⟨rfl, H17, K17⟩
      go_wp2_with fail
      go_ret
      exact ⟨rfl, K1.fresh ((((((((((((KU.trans K6).trans K7).trans K8).trans K9).trans K10).trans K11).trans K12).trans K13).trans K14).trans K15).trans K16).trans K17) HF'.out⟩
end Go.Proofs.YtadhdjldcpkfiaaGreatDoor
