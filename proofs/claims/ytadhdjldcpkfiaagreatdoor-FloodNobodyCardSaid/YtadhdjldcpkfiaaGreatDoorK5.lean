/- TallyNobody, walked: on every ground of the size that Grown makes, in each phase. -/
import Derived.Test.YtadhdjldcpkfiaaGreatDoorK4
import Derived.Test.YtadhdjldcpkfiaaGreatDoorEv
import Derived.Test.YtadhdjldcpkfiaaGreatDoorZ3
import Derived.OpenShut
namespace Go.Proofs.YtadhdjldcpkfiaaGreatDoor
set_option linter.unusedVariables false
set_option linter.unusedSimpArgs false
open Go.RowKit Go.ChangeShapes Go.WideShapes
set_option maxRecDepth 100000
set_option maxHeartbeats 1600000

theorem tiBegin_out {p : Int} (h : ¬ (0 ≤ p ∧ p ≤ 3)) (S : GS) : tiBegin p S = (false, S) := by
  unfold tiBegin
  by_cases c : p < 0
  · rw [if_pos c]; rfl
  · rw [if_neg c, if_pos (by omega)]; rfl
theorem fin_of {u p : Int} (u0 : 0 ≤ u) (p0 : 0 ≤ p) (p1 : p ≤ 3) {Q : Int → Int → Prop} (h : ∀ m : Fin 60, ∀ q : Fin 4, Q ((m.val : Int) + 4) (q.val : Int)) : Q (u % 60 + 4) p := by
  have := h ⟨(u % 60).toNat, by omega⟩ ⟨p.toNat, by omega⟩
  have e1 : (((⟨(u % 60).toNat, by omega⟩ : Fin 60).val : Nat) : Int) = u % 60 := by
    show (((u % 60).toNat : Nat) : Int) = _
    omega
  have e2 : (((⟨p.toNat, by omega⟩ : Fin 4).val : Nat) : Int) = p := by
    show ((p.toNat : Nat) : Int) = _
    omega
  rw [e1, e2] at this
  exact this

theorem lawTally_c (phase u : Int) (hu : (Lit.int .u8 u).wf = true) (w : World) (HZ : NoneZ w) : Calls Tryz.prog 4 #[.int .i64 phase, .int .u8 u] w (Made w (.bool true)) := by
  obtain ⟨u0, u1⟩ := bounds_u8 hu
  have HZ' := Hd.mk HZ
  clear HZ
  by_cases c : 0 ≤ phase ∧ phase ≤ 3
  · have h := fin_of (Q := fun a b => (exT b (gsNew a 16 1 1)).1 = true) u0 c.1 c.2 exT_holds
    obtain ⟨T, e⟩ := ex_of h
    obtain ⟨S0, hS0⟩ : ∃ S0, S0 = gsNew (u % 60 + 4) 16 1 1 := ⟨_, rfl⟩
    rw [← hS0] at e
    unfold exT at e
    replace e := GM.bind_eq e; obtain ⟨o, S1, e1, e⟩ := e
    replace e := GM.bind_eq e; obtain ⟨_, S2, e2, e⟩ := e
    replace e := GM.bind_eq e; obtain ⟨b, S3, e3, e⟩ := e
    replace e := GM.bind_eq e; obtain ⟨d, S4, e4, e⟩ := e
    replace e := GM.bind_eq e; obtain ⟨⟨x1, x2⟩, S5, e5, e⟩ := e
    obtain ⟨hv, rfl⟩ := GM.pure_eq e
    simp only [Bool.and_eq_true, decide_eq_true_eq, Bool.or_eq_true] at hv
    obtain ⟨rfl, rfl, hd, hx⟩ := hv
    rw [hS0] at e1
    clear hS0 e h
    have E1 := Hd.mk e1
    have E2 := Hd.mk e2
    have E3 := Hd.mk e3
    have E4 := Hd.mk e4
    have E5 := Hd.mk e5
    clear e1 e2 e3 e4 e5
    have hp : (phase == 1) = d := by rw [hd]; by_cases q : phase = 1 <;> simp [q]
    clear hd c
    cases d
    · obtain ⟨rfl, rfl⟩ : x1 = 0 ∧ x2 = 0 := by simpa using hx
      clear hx
      go_enter Tryz.func4, Tryz.ntmps4
      go_wp2_with fail
      refine (Grown_c u u0 u1 _ _ (HZ'.out.alloc _) (Blk.new _ _ _) E1.out).mono ?_
      rintro _ w1 ⟨A, g, cap, ⟨rfl, K1⟩, H1, HF⟩
      have HF' := Hd.mk HF
      clear HF
      go_wp2_with fail
      refine (taStepN _).mono ?_
      rintro _ w2 ⟨rfl, K2⟩
      have H2 := H1.stays K2 (fun _ _ x => x)
      go_wp2_with fail
      refine (tiTurn_c H2 E2.out).mono ?_
      rintro _ w3 ⟨rfl, H3, K3⟩
      go_wp2_with fail
      refine (tiBegin_c H3 E3.out).mono ?_
      rintro _ w4 ⟨rfl, H4, K4⟩
      go_wp2_with fail
      refine (taStep_c H4 E4.out).mono ?_
      rintro _ w5 ⟨rfl, H5, K5⟩
      go_wp2_with fail
      refine (tiAt_c H5 E5.out).mono ?_
      rintro _ w6 ⟨rfl, H6, K6⟩
      have KA : Stays (fun _ => False) w w6 := (((Stays.refl _ _).alloc _).trans (K1.trans K2)).fresh (((K3.trans K4).trans K5).trans K6) (fun k hk => by have := HF'.out k hk; simp at this; omega)
      go_wp2_with fail
      refine (begunTally_c _ (HZ'.out.stays KA (fun x => x))).mono ?_
      rintro _ w7 ⟨rfl, K7⟩
      go_wp2_with fail
      go_ret
      exact ⟨rfl, KA.trans K7⟩
    · clear hx
      go_enter Tryz.func4, Tryz.ntmps4
      go_wp2_with fail
      refine (Grown_c u u0 u1 _ _ (HZ'.out.alloc _) (Blk.new _ _ _) E1.out).mono ?_
      rintro _ w1 ⟨A, g, cap, ⟨rfl, K1⟩, H1, HF⟩
      have HF' := Hd.mk HF
      clear HF
      go_wp2_with fail
      refine (taStepN _).mono ?_
      rintro _ w2 ⟨rfl, K2⟩
      have H2 := H1.stays K2 (fun _ _ x => x)
      go_wp2_with fail
      refine (tiTurn_c H2 E2.out).mono ?_
      rintro _ w3 ⟨rfl, H3, K3⟩
      go_wp2_with fail
      refine (tiBegin_c H3 E3.out).mono ?_
      rintro _ w4 ⟨rfl, H4, K4⟩
      go_wp2_with fail
      refine (taStep_c H4 E4.out).mono ?_
      rintro _ w5 ⟨rfl, H5, K5⟩
      go_wp2_with fail
      refine (tiAt_c H5 E5.out).mono ?_
      rintro _ w6 ⟨rfl, H6, K6⟩
      have KA : Stays (fun _ => False) w w6 := (((Stays.refl _ _).alloc _).trans (K1.trans K2)).fresh (((K3.trans K4).trans K5).trans K6) (fun k hk => by have := HF'.out k hk; simp at this; omega)
      go_wp2_with fail
      refine (begunTally_c _ (HZ'.out.stays KA (fun x => x))).mono ?_
      rintro _ w7 ⟨rfl, K7⟩
      go_wp2_with fail
      go_ret
      exact ⟨rfl, KA.trans K7⟩
  · have h := fin_of (Q := fun a b => (exT b (gsNew a 16 1 1)).1 = true) (p := 0) u0 (by omega) (by omega) exT_holds
    obtain ⟨T, e⟩ := ex_of h
    obtain ⟨S0, hS0⟩ : ∃ S0, S0 = gsNew (u % 60 + 4) 16 1 1 := ⟨_, rfl⟩
    rw [← hS0] at e
    unfold exT at e
    replace e := GM.bind_eq e; obtain ⟨o, S1, e1, e⟩ := e
    replace e := GM.bind_eq e; obtain ⟨_, S2, e2, e⟩ := e
    replace e := GM.bind_eq e; obtain ⟨b, S3, e3, e⟩ := e
    replace e := GM.bind_eq e; obtain ⟨d, S4, e4, e⟩ := e
    replace e := GM.bind_eq e; obtain ⟨x, S5, e5, e⟩ := e
    obtain ⟨hv, rfl⟩ := GM.pure_eq e
    simp only [Bool.and_eq_true, decide_eq_true_eq] at hv
    obtain ⟨rfl, -⟩ := hv
    rw [hS0] at e1
    clear hS0 e h e3 e4 e5
    have E1 := Hd.mk e1
    have E2 := Hd.mk e2
    have E3 := Hd.mk (tiBegin_out c S2)
    clear e1 e2
    have hc : decide (phase < 0) = true ∨ (decide (phase < 0) = false ∧ decide (3 < phase) = true) := by
      by_cases q : phase < 0
      · exact Or.inl (decide_eq_true q)
      · exact Or.inr ⟨decide_eq_false q, decide_eq_true (by omega)⟩
    clear c
    rcases hc with hc1 | ⟨hc1, hc2⟩
    all_goals
      go_enter Tryz.func4, Tryz.ntmps4
      go_wp2_with fail
      refine (Grown_c u u0 u1 _ _ (HZ'.out.alloc _) (Blk.new _ _ _) E1.out).mono ?_
      rintro _ w1 ⟨A, g, cap, ⟨rfl, K1⟩, H1, HF⟩
      have HF' := Hd.mk HF
      clear HF
      go_wp2_with fail
      refine (taStepN _).mono ?_
      rintro _ w2 ⟨rfl, K2⟩
      have H2 := H1.stays K2 (fun _ _ x => x)
      go_wp2_with fail
      refine (tiTurn_c H2 E2.out).mono ?_
      rintro _ w3 ⟨rfl, H3, K3⟩
      go_wp2_with fail
      refine (tiBegin_c H3 E3.out).mono ?_
      rintro _ w4 ⟨rfl, H4, K4⟩
      have KA : Stays (fun _ => False) w w4 := (((Stays.refl _ _).alloc _).trans (K1.trans K2)).fresh (K3.trans K4) (fun k hk => by have := HF'.out k hk; simp at this; omega)
      go_wp2_with fail
      refine (begunTally_c _ (HZ'.out.stays KA (fun x => x))).mono ?_
      rintro _ w5 ⟨rfl, K5⟩
      go_wp2_with fail
      go_ret
      exact ⟨rfl, KA.trans K5⟩
end Go.Proofs.YtadhdjldcpkfiaaGreatDoor
