/- HeapNobody: its example, walked. -/
import Derived.Test.YtadhdjldcpkfiaaGreatDoorHb
import Derived.Test.YtadhdjldcpkfiaaGreatDoorN2
import Derived.Test.YtadhdjldcpkfiaaGreatDoorPk
import Derived.Test.YtadhdjldcpkfiaaGreatDoorEx
namespace Go.Proofs.YtadhdjldcpkfiaaGreatDoor
set_option linter.unusedVariables false
set_option linter.unusedSimpArgs false
open Go.RowKit
set_option maxRecDepth 100000
set_option maxHeartbeats 3200000

def exHeap : GM Bool := hAlloc 0 1 0 >>= fun a => hStore 0 0 0 >>= fun b => hDrop 0 >>= fun c => hRead 0 0 >>= fun d => hAlloc 2 0 0 >>= fun e => hAlloc 0 40 40 >>= fun f => hAlloc 0 100 100 >>= fun g =>
  getS >>= fun h => pure (decide (a = 0) && (decide (b = 0) && (decide (c = 0) && (decide (d.2 = 6) && (decide (e = 5) && (decide (f = 4) && (decide (g = 3) && decide (SeeReg 2 h = 3))))))))
theorem exHeap_holds : (exHeap (newS 4 16 2 3)).1 = true := by decide +kernel
theorem begunHeap_c (w : World) (HZ : NoneZ w) : Calls Tryz.prog 64 #[] w (Made w (.bool true)) := by
  obtain ⟨T, hT⟩ := ex_of exHeap_holds
  obtain ⟨S0, hS0⟩ : ∃ S0, S0 = newS 4 16 2 3 := ⟨_, rfl⟩
  rw [← hS0] at hT
  unfold exHeap at hT
  replace hT := GM.bind_eq hT; obtain ⟨a, S1, e1, hT⟩ := hT
  replace hT := GM.bind_eq hT; obtain ⟨b, S2, e2, hT⟩ := hT
  replace hT := GM.bind_eq hT; obtain ⟨c, S3, e3, hT⟩ := hT
  replace hT := GM.bind_eq hT; obtain ⟨⟨d1, d2⟩, S4, e4, hT⟩ := hT
  replace hT := GM.bind_eq hT; obtain ⟨e, S5, e5, hT⟩ := hT
  replace hT := GM.bind_eq hT; obtain ⟨f, S6, e6, hT⟩ := hT
  replace hT := GM.bind_eq hT; obtain ⟨g, S7, e7, hT⟩ := hT
  replace hT := GM.bind_eq hT; obtain ⟨h, S8, e8, hT⟩ := hT
  obtain ⟨rfl, rfl⟩ := getS_eq e8
  obtain ⟨hv, rfl⟩ := GM.pure_eq hT
  simp only [Bool.and_eq_true, decide_eq_true_eq] at hv
  obtain ⟨rfl, rfl, rfl, rfl, rfl, rfl, rfl, h8⟩ := hv
  have E1 := Hd.mk e1
  have E2 := Hd.mk e2
  have E3 := Hd.mk e3
  have E4 := Hd.mk e4
  have E5 := Hd.mk e5
  have E6 := Hd.mk e6
  have E7 := Hd.mk e7
  have E8 := Hd.mk h8
  clear e1 e2 e3 e4 e5 e6 e7 e8 h8 hT
  have HN := Hd.mk (hNew_c 4 16 2 3 w HZ (by decide))
  rw [← hS0] at HN
  clear hS0 HZ
  go_enter Tryz.func64, Tryz.ntmps64
  go_wp2_with fail
  refine HN.out.mono ?_
  rintro _ w0 ⟨A, hb, ⟨rfl, K0⟩, H0, Y⟩
  have Y' := Hd.mk Y
  clear Y
  go_wp2_with fail
  refine (hAlloc_c H0.held H0.far H0.box E1.out).mono ?_
  rintro _ w1 ⟨rfl, HH1, K1⟩
  have H1 := H0.next HH1 K1
  go_wp2_with fail
  refine (hStore_c H1.held H1.far H1.box E2.out).mono ?_
  rintro _ w2 ⟨rfl, HH2, K2⟩
  have H2 := H1.next HH2 K2
  go_wp2_with fail
  refine (hDrop_c H2.held H2.far H2.box E3.out).mono ?_
  rintro _ w3 ⟨rfl, HH3, K3⟩
  have H3 := H2.next HH3 K3
  go_wp2_with fail
  refine (hRead_c H3.held H3.far H3.box E4.out).mono ?_
  rintro _ w4 ⟨rfl, HH4, K4⟩
  have H4 := H3.next HH4 K4
  go_wp2_with fail
  refine (hAlloc_c H4.held H4.far H4.box E5.out).mono ?_
  rintro _ w5 ⟨rfl, HH5, K5⟩
  have H5 := H4.next HH5 K5
  go_wp2_with fail
  refine (hAlloc_c H5.held H5.far H5.box E6.out).mono ?_
  rintro _ w6 ⟨rfl, HH6, K6⟩
  have H6 := H5.next HH6 K6
  go_wp2_with fail
  refine (hAlloc_c H6.held H6.far H6.box E7.out).mono ?_
  rintro _ w7 ⟨rfl, HH7, K7⟩
  have H7 := H6.next HH7 K7
  go_wp2_with fail
  refine (hClean_c H7).mono ?_
  rintro _ _ ⟨rfl, rfl⟩
  rw [E8.out]
  go_wp2_with fail
  go_ret
  exact ⟨rfl, Stays.fresh K0 ((((((K1.trans K2).trans K3).trans K4).trans K5).trans K6).trans K7) (fun k hk => by
    have := Y'.out.s
    have := Y'.out.a
    rcases hk with rfl | rfl <;> omega)⟩
end Go.Proofs.YtadhdjldcpkfiaaGreatDoor
