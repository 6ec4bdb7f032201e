/- LinkNobody: its example and the law itself, walked. -/
import Derived.Test.YtadhdjldcpkfiaaGreatDoorN2
import Derived.Test.YtadhdjldcpkfiaaGreatDoorZ
import Derived.Test.YtadhdjldcpkfiaaGreatDoorEx
namespace Go.Proofs.YtadhdjldcpkfiaaGreatDoor
set_option linter.unusedVariables false
set_option linter.unusedSimpArgs false
open Go.RowKit
set_option maxRecDepth 100000
set_option maxHeartbeats 1600000

def exLink2 : GM Bool := poOpen >>= fun o => lkBorn 1 0 >>= fun x => lkSuspect >>= fun s => lkPut x.1 0 x.1 >>= fun e => ctOf x.1 >>= fun c => lkLet x.1 >>= fun l =>
  lkGet x.1 0 >>= fun y => ctOf x.1 >>= fun c2 => gvPending >>= fun p => lkSuspect >>= fun s2 =>
  pure (o && (decide (x.1 = 1) && (decide (x.2 = 0) && (!s && (decide (e = 0) && (decide (c = 2) && (l && (decide (y.1 = 1) && (decide (y.2 = 0) && (decide (c2 = 1) && (decide (p = 0) && s2)))))))))))
theorem exLink2_holds : (exLink2 (gsNew 2 16 1 1)).1 = true := by decide +kernel
theorem lkBegun_c (w : World) (HZ : NoneZ w) : Calls Tryz.prog 25 #[] w (Made w (.bool true)) := by
  obtain ⟨T, hT⟩ := ex_of exLink2_holds
  obtain ⟨S0, hS0⟩ : ∃ S0, S0 = gsNew 2 16 1 1 := ⟨_, rfl⟩
  rw [← hS0] at hT
  unfold exLink2 at hT
  replace hT := GM.bind_eq hT; obtain ⟨o, S1, e1, hT⟩ := hT
  replace hT := GM.bind_eq hT; obtain ⟨⟨x1, x2⟩, S2, e2, hT⟩ := hT
  replace hT := GM.bind_eq hT; obtain ⟨s, S3, e3, hT⟩ := hT
  replace hT := GM.bind_eq hT; obtain ⟨e, S4, e4, hT⟩ := hT
  replace hT := GM.bind_eq hT; obtain ⟨c, S5, e5, hT⟩ := hT
  replace hT := GM.bind_eq hT; obtain ⟨l, S6, e6, hT⟩ := hT
  replace hT := GM.bind_eq hT; obtain ⟨⟨y1, y2⟩, S7, e7, hT⟩ := hT
  replace hT := GM.bind_eq hT; obtain ⟨c2, S8, e8, hT⟩ := hT
  replace hT := GM.bind_eq hT; obtain ⟨p, S9, e9, hT⟩ := hT
  replace hT := GM.bind_eq hT; obtain ⟨s2, S10, e10, hT⟩ := hT
  obtain ⟨hv, rfl⟩ := GM.pure_eq hT
  simp only [Bool.and_eq_true, decide_eq_true_eq, Bool.not_eq_true'] at hv
  obtain ⟨rfl, rfl, rfl, rfl, rfl, rfl, rfl, rfl, rfl, rfl, rfl, rfl⟩ := hv
  rw [hS0] at e1
  clear hS0
  have E1 := Hd.mk e1
  have E2 := Hd.mk e2
  have E3 := Hd.mk e3
  have E4 := Hd.mk e4
  have E5 := Hd.mk e5
  have E6 := Hd.mk e6
  have E7 := Hd.mk e7
  have E8 := Hd.mk e8
  have E9 := Hd.mk e9
  have E10 := Hd.mk e10
  clear e1 e2 e3 e4 e5 e6 e7 e8 e9 e10
  have HZ' := Hd.mk HZ
  clear HZ
  go_enter Tryz.func25, Tryz.ntmps25
  go_wp2_with fail
  refine (Opened_c 2 16 1 1 w HZ'.out (by decide) (by decide) (by decide) (by decide) (by decide) (by decide) (by decide) (by decide) (by decide) (by decide) E1.out).mono ?_
  rintro _ w1 ⟨A, b, ⟨rfl, K1⟩, H1, HF⟩
  have HF' := Hd.mk HF
  clear HF
  go_wp2_with fail
  refine (lkBorn_c H1 E2.out).mono ?_
  rintro _ w2 ⟨rfl, H2, K2⟩
  go_wp2_with fail
  refine (lkSuspect_c H2 E3.out).mono ?_
  rintro _ w3 ⟨rfl, H3, K3⟩
  go_wp2_with fail
  refine (lkPut_c H3 E4.out).mono ?_
  rintro _ w4 ⟨rfl, H4, K4⟩
  go_wp2_with fail
  refine (ctOf_c H4 E5.out).mono ?_
  rintro _ w5 ⟨⟨rfl, H5, K5⟩, _⟩
  go_wp2_with fail
  refine (lkLet_c H5 E6.out).mono ?_
  rintro _ w6 ⟨rfl, H6, K6⟩
  go_wp2_with fail
  refine (lkGet_c H6 E7.out).mono ?_
  rintro _ w7 ⟨⟨rfl, H7, K7⟩, _⟩
  go_wp2_with fail
  refine (ctOf_c H7 E8.out).mono ?_
  rintro _ w8 ⟨⟨rfl, H8, K8⟩, _⟩
  go_wp2_with fail
  refine (gvPending_c H8 E9.out).mono ?_
  rintro _ w9 ⟨⟨rfl, H9, K9⟩, _⟩
  go_wp2_with fail
  refine (lkSuspect_c H9 E10.out).mono ?_
  rintro _ w10 ⟨rfl, H10, K10⟩
  go_wp2_with fail
  go_ret
  exact ⟨rfl, K1.fresh (((((((((K2.trans K3).trans K4).trans K5).trans K6).trans K7).trans K8).trans K9).trans K10)) HF'.out⟩

theorem lkLaw_c (r i x : Int) (w : World) (HZ : NoneZ w) : Calls Tryz.prog 3 #[.int .i64 r, .int .i64 i, .int .i64 x] w (Made w (.bool true)) := by
  have HZ' := Hd.mk HZ
  clear HZ
  go_enter Tryz.func3, Tryz.ntmps3
  go_wp2_with fail
  refine (bornN _ _ _).mono ?_
  rintro _ w1 ⟨rfl, K1⟩
  go_wp2_with fail
  refine (getLN _ _ _).mono ?_
  rintro _ w2 ⟨rfl, K2⟩
  go_wp2_with fail
  refine (putLN _ _ _ _).mono ?_
  rintro _ w3 ⟨rfl, K3⟩
  go_wp2_with fail
  refine (holdN _ _).mono ?_
  rintro _ w4 ⟨rfl, K4⟩
  go_wp2_with fail
  refine (letN _ _).mono ?_
  rintro _ w5 ⟨rfl, K5⟩
  go_wp2_with fail
  refine (suspectN _).mono ?_
  rintro _ w6 ⟨rfl, K6⟩
  have K := ((((K1.trans K2).trans K3).trans K4).trans K5).trans K6
  go_wp2_with fail
  refine (lkBegun_c _ (HZ'.out.stays K (fun x => x))).mono ?_
  rintro _ w7 ⟨rfl, K7⟩
  go_wp2_with fail
  go_ret
  exact ⟨rfl, K.trans K7⟩
end Go.Proofs.YtadhdjldcpkfiaaGreatDoor
