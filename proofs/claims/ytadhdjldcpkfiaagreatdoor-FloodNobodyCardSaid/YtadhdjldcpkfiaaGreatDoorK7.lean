/- FloodNobody, walked: on every ground of the size that Grown makes, in each phase. -/
import Derived.Test.YtadhdjldcpkfiaaGreatDoorK5
import Derived.Test.YtadhdjldcpkfiaaGreatDoorK8
namespace Go.Proofs.YtadhdjldcpkfiaaGreatDoor
set_option linter.unusedVariables false
set_option linter.unusedSimpArgs false
open Go.RowKit Go.ChangeShapes Go.WideShapes
set_option maxRecDepth 100000
set_option maxHeartbeats 1600000

theorem lawFlood_c (phase u : Int) (hu : (Lit.int .u8 u).wf = true) (w : World) (HZ : NoneZ w) : Calls Tryz.prog 6 #[.int .i64 phase, .int .u8 u] w (Made w (.bool true)) := by
  obtain ⟨u0, u1⟩ := bounds_u8 hu
  have HZ' := Hd.mk HZ
  clear HZ
  by_cases c : 0 ≤ phase ∧ phase ≤ 3
  · have h := fin_of (Q := fun a b => (exFloodP b (gsNew a 16 1 1)).1 = true) u0 c.1 c.2 exFloodP_holds
    obtain ⟨T, e⟩ := ex_of h
    obtain ⟨S0, hS0⟩ : ∃ S0, S0 = gsNew (u % 60 + 4) 16 1 1 := ⟨_, rfl⟩
    rw [← hS0] at e
    unfold exFloodP at e
    replace e := GM.bind_eq e; obtain ⟨o, S1, e1, e⟩ := e
    replace e := GM.bind_eq e; obtain ⟨b, S2, e2, e⟩ := e
    replace e := GM.bind_eq e; obtain ⟨d, S3, e3, e⟩ := e
    obtain ⟨hv, rfl⟩ := GM.pure_eq e
    simp only [Bool.and_eq_true, decide_eq_true_eq] at hv
    obtain ⟨rfl, rfl, hd⟩ := hv
    rw [hS0] at e1
    clear hS0 e h
    have E1 := Hd.mk e1
    have E2 := Hd.mk e2
    have E3 := Hd.mk e3
    clear e1 e2 e3
    have hp : (phase == 2) = d := by rw [hd]; by_cases q : phase = 2 <;> simp [q]
    clear hd c
    cases d
    all_goals
      go_enter Tryz.func6, Tryz.ntmps6
      go_wp2_with fail
      refine (Grown_c u u0 u1 _ _ (HZ'.out.alloc _) (Blk.new _ _ _) E1.out).mono ?_
      rintro _ w1 ⟨A, g, cap, ⟨rfl, K1⟩, H1, HF⟩
      have HF' := Hd.mk HF
      clear HF
      go_wp2_with fail
      refine (flStepN _).mono ?_
      rintro _ w2 ⟨rfl, K2⟩
      have H2 := H1.stays K2 (fun _ _ x => x)
      go_wp2_with fail
      refine (tiBegin_c H2 E2.out).mono ?_
      rintro _ w3 ⟨rfl, H3, K3⟩
      go_wp2_with fail
      refine (flStep_c H3 E3.out).mono ?_
      rintro _ w4 ⟨rfl, H4, K4⟩
      have KA : Stays (fun _ => False) w w4 := (((Stays.refl _ _).alloc _).trans (K1.trans K2)).fresh (K3.trans K4) (fun k hk => by have := HF'.out k hk; simp at this; omega)
      go_wp2_with fail
      refine (begunFlood_c _ (HZ'.out.stays KA (fun x => x))).mono ?_
      rintro _ w5 ⟨rfl, K5⟩
      go_wp2_with fail
      go_ret
      exact ⟨rfl, KA.trans K5⟩
  · have h := fin_of (Q := fun a b => (exFloodP b (gsNew a 16 1 1)).1 = true) (p := 0) u0 (by omega) (by omega) exFloodP_holds
    obtain ⟨T, e⟩ := ex_of h
    obtain ⟨S0, hS0⟩ : ∃ S0, S0 = gsNew (u % 60 + 4) 16 1 1 := ⟨_, rfl⟩
    rw [← hS0] at e
    unfold exFloodP at e
    replace e := GM.bind_eq e; obtain ⟨o, S1, e1, e⟩ := e
    replace e := GM.bind_eq e; obtain ⟨b, S2, e2, e⟩ := e
    replace e := GM.bind_eq e; obtain ⟨d, S3, e3, e⟩ := e
    obtain ⟨hv, rfl⟩ := GM.pure_eq e
    simp only [Bool.and_eq_true, decide_eq_true_eq] at hv
    obtain ⟨rfl, -⟩ := hv
    rw [hS0] at e1
    clear hS0 e h e2 e3
    have E1 := Hd.mk e1
    have E2 := Hd.mk (tiBegin_out c S1)
    clear e1
    have hc : decide (phase < 0) = true ∨ (decide (phase < 0) = false ∧ decide (3 < phase) = true) := by
      by_cases q : phase < 0
      · exact Or.inl (decide_eq_true q)
      · exact Or.inr ⟨decide_eq_false q, decide_eq_true (by omega)⟩
    clear c
    rcases hc with hc1 | ⟨hc1, hc2⟩
    all_goals
      go_enter Tryz.func6, Tryz.ntmps6
      go_wp2_with fail
      refine (Grown_c u u0 u1 _ _ (HZ'.out.alloc _) (Blk.new _ _ _) E1.out).mono ?_
      rintro _ w1 ⟨A, g, cap, ⟨rfl, K1⟩, H1, HF⟩
      have HF' := Hd.mk HF
      clear HF
      go_wp2_with fail
      refine (flStepN _).mono ?_
      rintro _ w2 ⟨rfl, K2⟩
      have H2 := H1.stays K2 (fun _ _ x => x)
      go_wp2_with fail
      refine (tiBegin_c H2 E2.out).mono ?_
      rintro _ w3 ⟨rfl, H3, K3⟩
      have KA : Stays (fun _ => False) w w3 := (((Stays.refl _ _).alloc _).trans (K1.trans K2)).fresh K3 (fun k hk => by have := HF'.out k hk; simp at this; omega)
      go_wp2_with fail
      refine (begunFlood_c _ (HZ'.out.stays KA (fun x => x))).mono ?_
      rintro _ w4 ⟨rfl, K4⟩
      go_wp2_with fail
      go_ret
      exact ⟨rfl, KA.trans K4⟩
end Go.Proofs.YtadhdjldcpkfiaaGreatDoor
