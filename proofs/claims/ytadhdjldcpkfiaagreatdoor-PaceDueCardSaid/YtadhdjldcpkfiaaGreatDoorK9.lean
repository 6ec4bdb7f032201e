/- PaceNobody: its example and the law itself, walked. -/
import Derived.Test.YtadhdjldcpkfiaaGreatDoorN2
import Derived.Test.YtadhdjldcpkfiaaGreatDoorDu
import Derived.Test.YtadhdjldcpkfiaaGreatDoorFr
import Derived.Test.YtadhdjldcpkfiaaGreatDoorZ4
import Derived.Test.YtadhdjldcpkfiaaGreatDoorEx
namespace Go.Proofs.YtadhdjldcpkfiaaGreatDoor
set_option linter.unusedVariables false
set_option linter.unusedSimpArgs false
open Go.RowKit
set_option maxRecDepth 100000
set_option maxHeartbeats 1600000

def exPace : GM Bool := poOpen >>= fun v1 => lkBorn 1 0 >>= fun v2 => lkLet 1 >>= fun v3 => paFreeG 3 >>= fun v4 => poLen >>= fun v5 => paPay 4 >>= fun v6 => 
  pure (decide (v1 = true) && (decide (v2.1 = 1) && (decide (v2.2 = 0) && (decide (v3 = true) && (decide (v4.1 = 1) && (decide (v4.2 = true) && (decide (v5 = 2) && (decide (v6 = 4) && true))))))))
theorem exPace_holds : (exPace (gsNew 2 16 1 5)).1 = true := by decide +kernel
theorem begunPace_c (w : World) (HZ : NoneZ w) : Calls Tryz.prog 49 #[] w (Made w (.bool true)) := by
  obtain ⟨T, hT⟩ := ex_of exPace_holds
  obtain ⟨S0, hS0⟩ : ∃ S0, S0 = gsNew 2 16 1 5 := ⟨_, rfl⟩
  rw [← hS0] at hT
  unfold exPace at hT
  replace hT := GM.bind_eq hT; obtain ⟨v1, S1, e1, hT⟩ := hT
  replace hT := GM.bind_eq hT; obtain ⟨⟨v2a, v2b⟩, S2, e2, hT⟩ := hT
  replace hT := GM.bind_eq hT; obtain ⟨v3, S3, e3, hT⟩ := hT
  replace hT := GM.bind_eq hT; obtain ⟨⟨v4a, v4b⟩, S4, e4, hT⟩ := hT
  replace hT := GM.bind_eq hT; obtain ⟨v5, S5, e5, hT⟩ := hT
  replace hT := GM.bind_eq hT; obtain ⟨v6, S6, e6, hT⟩ := hT
  obtain ⟨hv, rfl⟩ := GM.pure_eq hT
  simp only [Bool.and_eq_true, decide_eq_true_eq] at hv
  obtain ⟨rfl, rfl, rfl, rfl, rfl, rfl, rfl, rfl, -⟩ := hv
  rw [hS0] at e1
  clear hS0 hT
  have E1 := Hd.mk e1
  have E2 := Hd.mk e2
  have E3 := Hd.mk e3
  have E4 := Hd.mk e4
  have E5 := Hd.mk e5
  have E6 := Hd.mk e6
  clear e1 e2 e3 e4 e5 e6
  have HZ' := Hd.mk HZ
  clear HZ
  go_enter Tryz.func49, Tryz.ntmps49
  go_wp2_with fail
  refine (Opened_c 2 16 1 5 _ (HZ'.out.alloc _) (by decide) (by decide) (by decide) (by decide) (by decide) (by decide) (by decide) (by decide) (by decide) (by decide) E1.out).mono ?_
  rintro _ w0 ⟨A, b, ⟨rfl, K0⟩, H0, HF⟩
  have B0 : Blk w0 w.heap.size 46 #[.int .i64 2, .int .i64 16, .int .i64 1, .int .i64 5] := Blk.stays (Blk.new w 46 #[.int .i64 2, .int .i64 16, .int .i64 1, .int .i64 5]) K0 (fun x => x)
  have a0 := B0.cell 0
  have a1 := B0.cell 1
  have a2 := B0.cell 2
  have a3 := B0.cell 3
  go_wp2_with fail
  refine (Due_c 2 16 1 5 1 3 _ (by decide) (by decide) (by decide) (by decide) (by decide) (by decide) (by decide) (by decide) (by decide)).mono ?_
  rintro _ wa ⟨rfl, Ka⟩
  have B1 := B0.stays Ka (fun x => x)
  have b0 := B1.cell 0
  have b1 := B1.cell 1
  have b2 := B1.cell 2
  have b3 := B1.cell 3
  rw [show dueOk 16 5 1 3 = 15 by decide]
  go_wp2_with fail
  refine (Due_c 2 16 1 5 2 0 _ (by decide) (by decide) (by decide) (by decide) (by decide) (by decide) (by decide) (by decide) (by decide)).mono ?_
  rintro _ wb ⟨rfl, Kb⟩
  have B2 := B1.stays Kb (fun x => x)
  have e0 := B2.cell 0
  have e1 := B2.cell 1
  have e2 := B2.cell 2
  have e3 := B2.cell 3
  rw [show dueOk 16 5 2 0 = 1 by decide]
  go_wp2_with fail
  refine (Due_c 2 16 1 5 4 0 _ (by decide) (by decide) (by decide) (by decide) (by decide) (by decide) (by decide) (by decide) (by decide)).mono ?_
  rintro _ w1 ⟨rfl, Kc⟩
  rw [show dueOk 16 5 4 0 = 0 by decide]
  have KD := (Ka.trans Kb).trans Kc
  have H1 := H0.stays KD (fun _ _ x => x)
  have K1 : Stays (fun _ => False) w w1 := (((Stays.refl _ _).alloc _).trans K0).trans KD
  have HF' : Hd (∀ k, A.foot k → w.heap.size ≤ k) := ⟨fun k hk => by have := HF k hk; simp at this; omega⟩
  clear HF a0 a1 a2 a3 b0 b1 b2 b3 e0 e1 e2 e3
  go_wp2_with fail
  refine (lkBorn_c H1 E2.out).mono ?_
  rintro _ w2 ⟨rfl, H2, K2⟩
  go_wp2_with fail
  refine (lkLet_c H2 E3.out).mono ?_
  rintro _ w3 ⟨rfl, H3, K3⟩
  go_wp2_with fail
  refine (paFreeG_c H3 (by decide) E4.out).mono ?_
  rintro _ w4 ⟨rfl, H4, K4⟩
  go_wp2_with fail
  refine (poLen_c H4 E5.out).mono ?_
  rintro _ w5 ⟨rfl, H5, K5⟩
  go_wp2_with fail
  refine (paPay_c H5 (by decide) E6.out).mono ?_
  rintro _ w6 ⟨rfl, H6, K6⟩
  go_wp2_with fail
  go_ret
  exact ⟨rfl, K1.fresh ((((K2.trans K3).trans K4).trans K5).trans K6) HF'.out⟩
theorem lawPace_c (n : Int) (w : World) (HZ : NoneZ w) : Calls Tryz.prog 10 #[.int .i64 n] w (Made w (.bool true)) := by
  have HZ' := Hd.mk HZ
  clear HZ
  go_enter Tryz.func10, Tryz.ntmps10
  go_wp2_with fail
  refine (tickN _).mono ?_
  rintro _ w1 ⟨rfl, K1⟩
  go_wp2_with fail
  refine (totalsN _).mono ?_
  rintro _ w2 ⟨rfl, K2⟩
  go_wp2_with fail
  refine (payN _ _).mono ?_
  rintro _ w3 ⟨rfl, K3⟩
  go_wp2_with fail
  refine (drainN _ _).mono ?_
  rintro _ w4 ⟨rfl, K4⟩
  go_wp2_with fail
  refine (freeN _ _).mono ?_
  rintro _ w5 ⟨rfl, K5⟩
  have K := ((((K1.trans K2).trans K3).trans K4).trans K5)
  go_wp2_with fail
  refine (begunPace_c _ (HZ'.out.stays K (fun x => x))).mono ?_
  rintro _ w6 ⟨rfl, K6⟩
  go_wp2_with fail
  go_ret
  exact ⟨rfl, K.trans K6⟩
end Go.Proofs.YtadhdjldcpkfiaaGreatDoor
