/- What the calls of tally, reap, flood and round do. Nothing is asked but that the ground lies there. -/
import Derived.Test.YtadhdjldcpkfiaaGreatDoorT5
namespace Go.Proofs.YtadhdjldcpkfiaaGreatDoor
set_option linter.unusedVariables false
set_option linter.unusedSimpArgs false
open Go.RowKit
set_option maxRecDepth 100000
set_option maxHeartbeats 1600000
theorem tiAt_range {S T : GS} {c f : Int} (h : S.Ok) (e : tiAt S = ((c, f), T)) : (0 ≤ c ∧ c ≤ 4294967295) ∧ (0 ≤ f ∧ f ≤ 4294967295) := by
  unfold tiAt at e
  obtain ⟨v, V, h3, h4⟩ := GM.bind_eq e
  obtain ⟨v', V', h5, h6⟩ := GM.bind_eq h4
  have r1 := stGet_range h h3
  have r2 := stGet_range (stGet_ok h h3) h5
  cases h6
  exact ⟨r1, r2⟩

def tiBegin (p : Int) : GM Bool := if p < 0 then pure false else if p > 3 then pure false else SetReg 11 p >>= fun _ => SetReg 12 0 >>= fun _ => SetReg 13 0 >>= fun _ => SetReg 14 0 >>= fun _ => SetReg 15 0 >>= fun _ => pure true
/-- The registers that Begin clears. -/
def begR : Nat → Int
  | 0 => 12
  | 1 => 13
  | 2 => 14
  | _ => 15
def begM : Nat → GM Bool
  | 0 => SetReg 12 0 >>= fun _ => SetReg 13 0 >>= fun _ => SetReg 14 0 >>= fun _ => SetReg 15 0 >>= fun _ => pure true
  | 1 => SetReg 13 0 >>= fun _ => SetReg 14 0 >>= fun _ => SetReg 15 0 >>= fun _ => pure true
  | 2 => SetReg 14 0 >>= fun _ => SetReg 15 0 >>= fun _ => pure true
  | 3 => SetReg 15 0 >>= fun _ => pure true
  | _ => pure true
theorem begM_step {j : Nat} (hj : j < 4) {S T : GS} {v : Bool} (e : begM j S = (v, T)) : ∃ u U, SetReg (begR j) 0 S = (u, U) ∧ begM (j + 1) U = (v, T) := by
  rcases (by omega : j = 0 ∨ j = 1 ∨ j = 2 ∨ j = 3) with rfl | rfl | rfl | rfl <;> exact GM.bind_eq e
theorem tiBegin_c {A : GA} {S : GS} {w : World} (H : Held A S w) {p : Int} {v0 : Bool} {T : GS} (e : tiBegin p S = (v0, T)) :
    Calls Tryz.prog 29 #[.pointer (some ⟨A.g, 0, none⟩), .int .i64 p] w (Did A w (.bool v0) T) := by
  unfold tiBegin at e
  by_cases c1 : p < 0
  · rw [if_pos c1] at e
    obtain ⟨rfl, rfl⟩ := GM.pure_eq e
    go_enter Tryz.func29, Tryz.ntmps29
    go_wp2_with fail
    go_ret
    exact ⟨rfl, H, Stays.refl _ _⟩
  rw [if_neg c1] at e
  by_cases c2 : p > 3
  · rw [if_pos c2] at e
    obtain ⟨rfl, rfl⟩ := GM.pure_eq e
    go_enter Tryz.func29, Tryz.ntmps29
    go_wp2_with fail
    go_ret
    exact ⟨rfl, H, Stays.refl _ _⟩
  rw [if_neg c2] at e
  replace e := GM.bind_eq e
  obtain ⟨u1, S1, e1, e⟩ := e
  have E1 := Hd.mk e1
  have E : Hd (begM 0 S1 = (v0, T)) := Hd.mk e
  clear e1 e
  go_enter Tryz.func29, Tryz.ntmps29
  go_wp2_with fail
  refine (SetReg_c H E1.out).mono ?_
  rintro _ w1 ⟨rfl, H1, K1⟩
  have BL := Blk.new w1 3 #[.int .i64 12, .int .i64 13, .int .i64 14, .int .i64 15]
  have KL := K1.alloc (.cells #[.int .i64 12, .int .i64 13, .int .i64 14, .int .i64 15] 3)
  go_wp2_with fail
  go_loopw [22] (fun i wr => ∃ j : Nat, j ≤ 4 ∧ i = .int .i64 j ∧ ∃ U, Held A U wr ∧ begM j U = (v0, T) ∧ Stays A.foot w wr ∧ Blk wr w1.heap.size 3 #[.int .i64 12, .int .i64 13, .int .i64 14, .int .i64 15]) (fun i _ => 4 - (intOf i).toNat)
  case atStart => exact ⟨0, by omega, rfl, S1, H1.alloc _, E.out, KL, BL⟩
  case round =>
    obtain ⟨j, hj, rfl, U, HU, hU, KU, BU⟩ := hrel
    clear BL
    by_cases hlt : j < 4
    · obtain ⟨u, V, h1, h2⟩ := begM_step hlt hU
      have H3 := Hd.mk h1
      have H2 := Hd.mk h2
      clear hU h1 h2
      have hc : wr.cell? ⟨w1.heap.size, j, none⟩ = some (.int .i64 (begR j)) := by
        rw [BU.cell j]
        rcases (by omega : j = 0 ∨ j = 1 ∨ j = 2 ∨ j = 3) with rfl | rfl | rfl | rfl <;> rfl
      go_wp2_with fail
      refine (SetReg_c HU H3.out).mono ?_
      rintro _ w4 ⟨rfl, H4, K4⟩
      go_wp2_with fail
      go_roundw
      case rel => exact ⟨j + 1, by omega, by go_num, V, H4, H2.out, KU.trans K4, BU.stays K4 (GA.foot_far H1.top)⟩
      case measure => simp [intOf]; omega
    · obtain rfl : j = 4 := by omega
      obtain ⟨rfl, rfl⟩ := GM.pure_eq hU
      clear hU
      go_wp2_with fail
      go_ret
      exact ⟨rfl, HU, KU⟩

def taPass (c0 : Int) : GM Unit :=
  tiMove (c0 + 1) 0 >>= fun _ =>
  pure ()

theorem taPass_c {A : GA} {S : GS} {w : World} (H : Held A S w) {c0 : Int} (hc0 : 0 ≤ c0) (hc1 : c0 ≤ 4294967295) {T : GS} (e : taPass c0 S = ((), T)) :
    Calls Tryz.prog 101 #[.pointer (some ⟨A.g, 0, none⟩), .int .i64 c0] w (Did A w (.tuple #[]) T) := by
  unfold taPass at e
  replace e := GM.bind_eq e; obtain ⟨u1, S1, e1_, e⟩ := e; have e1 := Hd.mk e1_; clear e1_
  obtain ⟨hv, rfl⟩ := GM.pure_eq e
  clear hv
  go_enter Tryz.func101, Tryz.ntmps101
  go_wp2_with fail
  with_reducible refine (tiMove_c (by with_reducible repeat (first | exact H | apply zha | apply zhd | apply zhn)) e1.out).mono ?_
  rintro _ w1 ⟨rfl, H1, K1⟩
  go_wp2_with fail
  go_end0
  exact ⟨by first | rfl | (simp; done) | (simp [*]; done), (by with_reducible repeat (first | exact H1 | apply zha | apply zhd | apply zhn)), by
    with_reducible repeat (first | apply zsa | apply zsd | apply zsn)
    refine Stays.trans ?_ K1
    with_reducible repeat (first | apply zsa | apply zsd | apply zsn)
    exact Stays.refl _ _⟩

def taStep : GM Bool :=
  tiPhase >>= fun ph =>
  if ph = 1 then
    tiAt >>= fun ⟨c0, f0⟩ =>
    getS >>= fun c =>
    if c0 ≥ c.n then
      pure false
    else
      obLens (c0 + 1) >>= fun ⟨n, d, er⟩ =>
      if er = 0 then
        tiCounted (c0 + 1) f0 >>= fun cd =>
        if cd then
          taPass c0 >>= fun _ =>
          pure true
        else
          if f0 ≥ n then
            tiDone (c0 + 1) >>= fun _ =>
            taPass c0 >>= fun _ =>
            pure true
          else
            obPtr (c0 + 1) f0 >>= fun ⟨x, e2⟩ =>
            if e2 = 0 then
              if x > 0 then
                tiDeep x >>= fun _ =>
                tiMove c0 (f0 + 1) >>= fun _ =>
                pure true
              else
                tiMove c0 (f0 + 1) >>= fun _ =>
                pure true
            else
              tiMove c0 (f0 + 1) >>= fun _ =>
              pure true
      else
        taPass c0 >>= fun _ =>
        pure true
  else
    pure false

theorem taStep_c {A : GA} {S : GS} {w : World} (H : Held A S w) {v0 : Bool} {T : GS} (e : taStep S = (v0, T)) :
    Calls Tryz.prog 27 #[.pointer (some ⟨A.g, 0, none⟩)] w (Did A w (.bool v0) T) := by
  unfold taStep at e
  replace e := GM.bind_eq e; obtain ⟨ph, S1, e1_, e⟩ := e; have e1 := Hd.mk e1_; clear e1_
  by_cases c2 : ph = 1
  · rw [if_pos c2] at e; subst c2
    replace e := GM.bind_eq e; obtain ⟨⟨c0, f0⟩, S3, e3_, e⟩ := e; have e3 := Hd.mk e3_; clear e3_
    try dsimp only at e
    replace e := GM.bind_eq e; obtain ⟨c, S4, e4, e⟩ := e
    obtain ⟨rfl, rfl⟩ := getS_eq e4
    by_cases c5 : c0 ≥ S3.n
    · rw [if_pos c5] at e
      obtain ⟨hv, rfl⟩ := GM.pure_eq e
      obtain rfl := hv
      go_enter Tryz.func27, Tryz.ntmps27
      go_wp2_with fail
      with_reducible refine (tiPhase_c (by with_reducible repeat (first | exact H | apply zha | apply zhd | apply zhn)) e1.out).mono ?_
      rintro _ w1 ⟨rfl, H1, K1⟩
      go_wp2_with fail
      with_reducible refine (tiAt_c (by with_reducible repeat (first | exact H1 | apply zha | apply zhd | apply zhn)) e3.out).mono ?_
      rintro _ w3 ⟨rfl, H3, K3⟩
      obtain ⟨⟨rc0, rc1⟩, ⟨rf0, rf1⟩⟩ := tiAt_range H1.ok e3.out
      go_wp2_with fail
      refine (conf_c (by with_reducible repeat (first | exact H3 | apply zha | apply zhd | apply zhn))).mono ?_
      rintro _ w4 ⟨rfl, H4, K4⟩
      go_wp2_with fail
      go_ret
      exact ⟨by first | rfl | (simp; done) | (simp [*]; done), (by with_reducible repeat (first | exact H4 | apply zha | apply zhd | apply zhn)), by
        with_reducible repeat (first | apply zsa | apply zsd | apply zsn)
        refine Stays.trans ?_ K4
        with_reducible repeat (first | apply zsa | apply zsd | apply zsn)
        refine Stays.trans ?_ K3
        with_reducible repeat (first | apply zsa | apply zsd | apply zsn)
        refine Stays.trans ?_ K1
        with_reducible repeat (first | apply zsa | apply zsd | apply zsn)
        exact Stays.refl _ _⟩
    · rw [if_neg c5] at e
      replace e := GM.bind_eq e; obtain ⟨⟨n, d, er⟩, S6, e6_, e⟩ := e; have e6 := Hd.mk e6_; clear e6_
      try dsimp only at e
      by_cases c7 : er = 0
      · rw [if_pos c7] at e; subst c7
        replace e := GM.bind_eq e; obtain ⟨cd, S8, e8_, e⟩ := e; have e8 := Hd.mk e8_; clear e8_
        by_cases c9 : cd = true
        · rw [if_pos c9] at e; subst c9
          replace e := GM.bind_eq e; obtain ⟨u10, S10, e10_, e⟩ := e; have e10 := Hd.mk e10_; clear e10_
          obtain ⟨hv, rfl⟩ := GM.pure_eq e
          obtain rfl := hv
          go_enter Tryz.func27, Tryz.ntmps27
          go_wp2_with fail
          with_reducible refine (tiPhase_c (by with_reducible repeat (first | exact H | apply zha | apply zhd | apply zhn)) e1.out).mono ?_
          rintro _ w1 ⟨rfl, H1, K1⟩
          go_wp2_with fail
          with_reducible refine (tiAt_c (by with_reducible repeat (first | exact H1 | apply zha | apply zhd | apply zhn)) e3.out).mono ?_
          rintro _ w3 ⟨rfl, H3, K3⟩
          obtain ⟨⟨rc0, rc1⟩, ⟨rf0, rf1⟩⟩ := tiAt_range H1.ok e3.out
          go_wp2_with fail
          refine (conf_c (by with_reducible repeat (first | exact H3 | apply zha | apply zhd | apply zhn))).mono ?_
          rintro _ w4 ⟨rfl, H4, K4⟩
          go_wp2_with fail
          with_reducible refine (obLens_c (by with_reducible repeat (first | exact H4 | apply zha | apply zhd | apply zhn)) e6.out).mono ?_
          rintro _ w6 ⟨rfl, H6, K6⟩
          obtain ⟨⟨rn0, rn1⟩, ⟨rd0, rd1⟩, _⟩ := obLens_range H4.ok e6.out
          go_wp2_with fail
          with_reducible refine (tiCounted_c (by with_reducible repeat (first | exact H6 | apply zha | apply zhd | apply zhn)) e8.out).mono ?_
          rintro _ w8 ⟨rfl, H8, K8⟩
          go_wp2_with fail
          with_reducible refine (taPass_c (by with_reducible repeat (first | exact H8 | apply zha | apply zhd | apply zhn)) (by omega) (by omega) e10.out).mono ?_
          rintro _ w10 ⟨rfl, H10, K10⟩
          go_wp2_with fail
          go_ret
          exact ⟨by first | rfl | (simp; done) | (simp [*]; done), (by with_reducible repeat (first | exact H10 | apply zha | apply zhd | apply zhn)), by
            with_reducible repeat (first | apply zsa | apply zsd | apply zsn)
            refine Stays.trans ?_ K10
            with_reducible repeat (first | apply zsa | apply zsd | apply zsn)
            refine Stays.trans ?_ K8
            with_reducible repeat (first | apply zsa | apply zsd | apply zsn)
            refine Stays.trans ?_ K6
            with_reducible repeat (first | apply zsa | apply zsd | apply zsn)
            refine Stays.trans ?_ K4
            with_reducible repeat (first | apply zsa | apply zsd | apply zsn)
            refine Stays.trans ?_ K3
            with_reducible repeat (first | apply zsa | apply zsd | apply zsn)
            refine Stays.trans ?_ K1
            with_reducible repeat (first | apply zsa | apply zsd | apply zsn)
            exact Stays.refl _ _⟩
        · rw [if_neg c9] at e; obtain rfl := eq_false_of_ne_true c9; clear c9
          by_cases c10 : f0 ≥ n
          · rw [if_pos c10] at e
            replace e := GM.bind_eq e; obtain ⟨u11, S11, e11_, e⟩ := e; have e11 := Hd.mk e11_; clear e11_
            replace e := GM.bind_eq e; obtain ⟨u12, S12, e12_, e⟩ := e; have e12 := Hd.mk e12_; clear e12_
            obtain ⟨hv, rfl⟩ := GM.pure_eq e
            obtain rfl := hv
            go_enter Tryz.func27, Tryz.ntmps27
            go_wp2_with fail
            with_reducible refine (tiPhase_c (by with_reducible repeat (first | exact H | apply zha | apply zhd | apply zhn)) e1.out).mono ?_
            rintro _ w1 ⟨rfl, H1, K1⟩
            go_wp2_with fail
            with_reducible refine (tiAt_c (by with_reducible repeat (first | exact H1 | apply zha | apply zhd | apply zhn)) e3.out).mono ?_
            rintro _ w3 ⟨rfl, H3, K3⟩
            obtain ⟨⟨rc0, rc1⟩, ⟨rf0, rf1⟩⟩ := tiAt_range H1.ok e3.out
            go_wp2_with fail
            refine (conf_c (by with_reducible repeat (first | exact H3 | apply zha | apply zhd | apply zhn))).mono ?_
            rintro _ w4 ⟨rfl, H4, K4⟩
            go_wp2_with fail
            with_reducible refine (obLens_c (by with_reducible repeat (first | exact H4 | apply zha | apply zhd | apply zhn)) e6.out).mono ?_
            rintro _ w6 ⟨rfl, H6, K6⟩
            obtain ⟨⟨rn0, rn1⟩, ⟨rd0, rd1⟩, _⟩ := obLens_range H4.ok e6.out
            go_wp2_with fail
            with_reducible refine (tiCounted_c (by with_reducible repeat (first | exact H6 | apply zha | apply zhd | apply zhn)) e8.out).mono ?_
            rintro _ w8 ⟨rfl, H8, K8⟩
            go_wp2_with fail
            with_reducible refine (tiDone_c (by with_reducible repeat (first | exact H8 | apply zha | apply zhd | apply zhn)) e11.out).mono ?_
            rintro _ w11 ⟨rfl, H11, K11⟩
            go_wp2_with fail
            with_reducible refine (taPass_c (by with_reducible repeat (first | exact H11 | apply zha | apply zhd | apply zhn)) (by omega) (by omega) e12.out).mono ?_
            rintro _ w12 ⟨rfl, H12, K12⟩
            go_wp2_with fail
            go_ret
            exact ⟨by first | rfl | (simp; done) | (simp [*]; done), (by with_reducible repeat (first | exact H12 | apply zha | apply zhd | apply zhn)), by
              with_reducible repeat (first | apply zsa | apply zsd | apply zsn)
              refine Stays.trans ?_ K12
              with_reducible repeat (first | apply zsa | apply zsd | apply zsn)
              refine Stays.trans ?_ K11
              with_reducible repeat (first | apply zsa | apply zsd | apply zsn)
              refine Stays.trans ?_ K8
              with_reducible repeat (first | apply zsa | apply zsd | apply zsn)
              refine Stays.trans ?_ K6
              with_reducible repeat (first | apply zsa | apply zsd | apply zsn)
              refine Stays.trans ?_ K4
              with_reducible repeat (first | apply zsa | apply zsd | apply zsn)
              refine Stays.trans ?_ K3
              with_reducible repeat (first | apply zsa | apply zsd | apply zsn)
              refine Stays.trans ?_ K1
              with_reducible repeat (first | apply zsa | apply zsd | apply zsn)
              exact Stays.refl _ _⟩
          · rw [if_neg c10] at e
            replace e := GM.bind_eq e; obtain ⟨⟨x, e2⟩, S11, e11_, e⟩ := e; have e11 := Hd.mk e11_; clear e11_
            try dsimp only at e
            by_cases c12 : e2 = 0
            · rw [if_pos c12] at e; subst c12
              by_cases c13 : x > 0
              · rw [if_pos c13] at e
                replace e := GM.bind_eq e; obtain ⟨u14, S14, e14_, e⟩ := e; have e14 := Hd.mk e14_; clear e14_
                replace e := GM.bind_eq e; obtain ⟨u15, S15, e15_, e⟩ := e; have e15 := Hd.mk e15_; clear e15_
                obtain ⟨hv, rfl⟩ := GM.pure_eq e
                obtain rfl := hv
                go_enter Tryz.func27, Tryz.ntmps27
                go_wp2_with fail
                with_reducible refine (tiPhase_c (by with_reducible repeat (first | exact H | apply zha | apply zhd | apply zhn)) e1.out).mono ?_
                rintro _ w1 ⟨rfl, H1, K1⟩
                go_wp2_with fail
                with_reducible refine (tiAt_c (by with_reducible repeat (first | exact H1 | apply zha | apply zhd | apply zhn)) e3.out).mono ?_
                rintro _ w3 ⟨rfl, H3, K3⟩
                obtain ⟨⟨rc0, rc1⟩, ⟨rf0, rf1⟩⟩ := tiAt_range H1.ok e3.out
                go_wp2_with fail
                refine (conf_c (by with_reducible repeat (first | exact H3 | apply zha | apply zhd | apply zhn))).mono ?_
                rintro _ w4 ⟨rfl, H4, K4⟩
                go_wp2_with fail
                with_reducible refine (obLens_c (by with_reducible repeat (first | exact H4 | apply zha | apply zhd | apply zhn)) e6.out).mono ?_
                rintro _ w6 ⟨rfl, H6, K6⟩
                obtain ⟨⟨rn0, rn1⟩, ⟨rd0, rd1⟩, _⟩ := obLens_range H4.ok e6.out
                go_wp2_with fail
                with_reducible refine (tiCounted_c (by with_reducible repeat (first | exact H6 | apply zha | apply zhd | apply zhn)) e8.out).mono ?_
                rintro _ w8 ⟨rfl, H8, K8⟩
                go_wp2_with fail
                with_reducible refine (obPtr_c (by with_reducible repeat (first | exact H8 | apply zha | apply zhd | apply zhn)) e11.out).mono ?_
                rintro _ w11 ⟨⟨rfl, H11, K11⟩, rx0, rx1⟩
                go_wp2_with fail
                with_reducible refine (tiDeep_c (by with_reducible repeat (first | exact H11 | apply zha | apply zhd | apply zhn)) e14.out).mono ?_
                rintro _ w14 ⟨rfl, H14, K14⟩
                go_wp2_with fail
                with_reducible refine (tiMove_c (by with_reducible repeat (first | exact H14 | apply zha | apply zhd | apply zhn)) e15.out).mono ?_
                rintro _ w15 ⟨rfl, H15, K15⟩
                go_wp2_with fail
                go_ret
                exact ⟨by first | rfl | (simp; done) | (simp [*]; done), (by with_reducible repeat (first | exact H15 | apply zha | apply zhd | apply zhn)), by
                  with_reducible repeat (first | apply zsa | apply zsd | apply zsn)
                  refine Stays.trans ?_ K15
                  with_reducible repeat (first | apply zsa | apply zsd | apply zsn)
                  refine Stays.trans ?_ K14
                  with_reducible repeat (first | apply zsa | apply zsd | apply zsn)
                  refine Stays.trans ?_ K11
                  with_reducible repeat (first | apply zsa | apply zsd | apply zsn)
                  refine Stays.trans ?_ K8
                  with_reducible repeat (first | apply zsa | apply zsd | apply zsn)
                  refine Stays.trans ?_ K6
                  with_reducible repeat (first | apply zsa | apply zsd | apply zsn)
                  refine Stays.trans ?_ K4
                  with_reducible repeat (first | apply zsa | apply zsd | apply zsn)
                  refine Stays.trans ?_ K3
                  with_reducible repeat (first | apply zsa | apply zsd | apply zsn)
                  refine Stays.trans ?_ K1
                  with_reducible repeat (first | apply zsa | apply zsd | apply zsn)
                  exact Stays.refl _ _⟩
              · rw [if_neg c13] at e
                replace e := GM.bind_eq e; obtain ⟨u14, S14, e14_, e⟩ := e; have e14 := Hd.mk e14_; clear e14_
                obtain ⟨hv, rfl⟩ := GM.pure_eq e
                obtain rfl := hv
                go_enter Tryz.func27, Tryz.ntmps27
                go_wp2_with fail
                with_reducible refine (tiPhase_c (by with_reducible repeat (first | exact H | apply zha | apply zhd | apply zhn)) e1.out).mono ?_
                rintro _ w1 ⟨rfl, H1, K1⟩
                go_wp2_with fail
                with_reducible refine (tiAt_c (by with_reducible repeat (first | exact H1 | apply zha | apply zhd | apply zhn)) e3.out).mono ?_
                rintro _ w3 ⟨rfl, H3, K3⟩
                obtain ⟨⟨rc0, rc1⟩, ⟨rf0, rf1⟩⟩ := tiAt_range H1.ok e3.out
                go_wp2_with fail
                refine (conf_c (by with_reducible repeat (first | exact H3 | apply zha | apply zhd | apply zhn))).mono ?_
                rintro _ w4 ⟨rfl, H4, K4⟩
                go_wp2_with fail
                with_reducible refine (obLens_c (by with_reducible repeat (first | exact H4 | apply zha | apply zhd | apply zhn)) e6.out).mono ?_
                rintro _ w6 ⟨rfl, H6, K6⟩
                obtain ⟨⟨rn0, rn1⟩, ⟨rd0, rd1⟩, _⟩ := obLens_range H4.ok e6.out
                go_wp2_with fail
                with_reducible refine (tiCounted_c (by with_reducible repeat (first | exact H6 | apply zha | apply zhd | apply zhn)) e8.out).mono ?_
                rintro _ w8 ⟨rfl, H8, K8⟩
                go_wp2_with fail
                with_reducible refine (obPtr_c (by with_reducible repeat (first | exact H8 | apply zha | apply zhd | apply zhn)) e11.out).mono ?_
                rintro _ w11 ⟨⟨rfl, H11, K11⟩, rx0, rx1⟩
                go_wp2_with fail
                with_reducible refine (tiMove_c (by with_reducible repeat (first | exact H11 | apply zha | apply zhd | apply zhn)) e14.out).mono ?_
                rintro _ w14 ⟨rfl, H14, K14⟩
                go_wp2_with fail
                go_ret
                exact ⟨by first | rfl | (simp; done) | (simp [*]; done), (by with_reducible repeat (first | exact H14 | apply zha | apply zhd | apply zhn)), by
                  with_reducible repeat (first | apply zsa | apply zsd | apply zsn)
                  refine Stays.trans ?_ K14
                  with_reducible repeat (first | apply zsa | apply zsd | apply zsn)
                  refine Stays.trans ?_ K11
                  with_reducible repeat (first | apply zsa | apply zsd | apply zsn)
                  refine Stays.trans ?_ K8
                  with_reducible repeat (first | apply zsa | apply zsd | apply zsn)
                  refine Stays.trans ?_ K6
                  with_reducible repeat (first | apply zsa | apply zsd | apply zsn)
                  refine Stays.trans ?_ K4
                  with_reducible repeat (first | apply zsa | apply zsd | apply zsn)
                  refine Stays.trans ?_ K3
                  with_reducible repeat (first | apply zsa | apply zsd | apply zsn)
                  refine Stays.trans ?_ K1
                  with_reducible repeat (first | apply zsa | apply zsd | apply zsn)
                  exact Stays.refl _ _⟩
            · rw [if_neg c12] at e; have c12b : (e2 == 0) = false := beq_eq_false_iff_ne.2 c12; have c12n : (e2 != 0) = true := bne_iff_ne.2 c12
              replace e := GM.bind_eq e; obtain ⟨u13, S13, e13_, e⟩ := e; have e13 := Hd.mk e13_; clear e13_
              obtain ⟨hv, rfl⟩ := GM.pure_eq e
              obtain rfl := hv
              go_enter Tryz.func27, Tryz.ntmps27
              go_wp2_with fail
              with_reducible refine (tiPhase_c (by with_reducible repeat (first | exact H | apply zha | apply zhd | apply zhn)) e1.out).mono ?_
              rintro _ w1 ⟨rfl, H1, K1⟩
              go_wp2_with fail
              with_reducible refine (tiAt_c (by with_reducible repeat (first | exact H1 | apply zha | apply zhd | apply zhn)) e3.out).mono ?_
              rintro _ w3 ⟨rfl, H3, K3⟩
              obtain ⟨⟨rc0, rc1⟩, ⟨rf0, rf1⟩⟩ := tiAt_range H1.ok e3.out
              go_wp2_with fail
              refine (conf_c (by with_reducible repeat (first | exact H3 | apply zha | apply zhd | apply zhn))).mono ?_
              rintro _ w4 ⟨rfl, H4, K4⟩
              go_wp2_with fail
              with_reducible refine (obLens_c (by with_reducible repeat (first | exact H4 | apply zha | apply zhd | apply zhn)) e6.out).mono ?_
              rintro _ w6 ⟨rfl, H6, K6⟩
              obtain ⟨⟨rn0, rn1⟩, ⟨rd0, rd1⟩, _⟩ := obLens_range H4.ok e6.out
              go_wp2_with fail
              with_reducible refine (tiCounted_c (by with_reducible repeat (first | exact H6 | apply zha | apply zhd | apply zhn)) e8.out).mono ?_
              rintro _ w8 ⟨rfl, H8, K8⟩
              go_wp2_with fail
              with_reducible refine (obPtr_c (by with_reducible repeat (first | exact H8 | apply zha | apply zhd | apply zhn)) e11.out).mono ?_
              rintro _ w11 ⟨⟨rfl, H11, K11⟩, rx0, rx1⟩
              go_wp2_with fail
              with_reducible refine (tiMove_c (by with_reducible repeat (first | exact H11 | apply zha | apply zhd | apply zhn)) e13.out).mono ?_
              rintro _ w13 ⟨rfl, H13, K13⟩
              go_wp2_with fail
              go_ret
              exact ⟨by first | rfl | (simp; done) | (simp [*]; done), (by with_reducible repeat (first | exact H13 | apply zha | apply zhd | apply zhn)), by
                with_reducible repeat (first | apply zsa | apply zsd | apply zsn)
                refine Stays.trans ?_ K13
                with_reducible repeat (first | apply zsa | apply zsd | apply zsn)
                refine Stays.trans ?_ K11
                with_reducible repeat (first | apply zsa | apply zsd | apply zsn)
                refine Stays.trans ?_ K8
                with_reducible repeat (first | apply zsa | apply zsd | apply zsn)
                refine Stays.trans ?_ K6
                with_reducible repeat (first | apply zsa | apply zsd | apply zsn)
                refine Stays.trans ?_ K4
                with_reducible repeat (first | apply zsa | apply zsd | apply zsn)
                refine Stays.trans ?_ K3
                with_reducible repeat (first | apply zsa | apply zsd | apply zsn)
                refine Stays.trans ?_ K1
                with_reducible repeat (first | apply zsa | apply zsd | apply zsn)
                exact Stays.refl _ _⟩
      · rw [if_neg c7] at e; have c7b : (er == 0) = false := beq_eq_false_iff_ne.2 c7; have c7n : (er != 0) = true := bne_iff_ne.2 c7
        replace e := GM.bind_eq e; obtain ⟨u8, S8, e8_, e⟩ := e; have e8 := Hd.mk e8_; clear e8_
        obtain ⟨hv, rfl⟩ := GM.pure_eq e
        obtain rfl := hv
        go_enter Tryz.func27, Tryz.ntmps27
        go_wp2_with fail
        with_reducible refine (tiPhase_c (by with_reducible repeat (first | exact H | apply zha | apply zhd | apply zhn)) e1.out).mono ?_
        rintro _ w1 ⟨rfl, H1, K1⟩
        go_wp2_with fail
        with_reducible refine (tiAt_c (by with_reducible repeat (first | exact H1 | apply zha | apply zhd | apply zhn)) e3.out).mono ?_
        rintro _ w3 ⟨rfl, H3, K3⟩
        obtain ⟨⟨rc0, rc1⟩, ⟨rf0, rf1⟩⟩ := tiAt_range H1.ok e3.out
        go_wp2_with fail
        refine (conf_c (by with_reducible repeat (first | exact H3 | apply zha | apply zhd | apply zhn))).mono ?_
        rintro _ w4 ⟨rfl, H4, K4⟩
        go_wp2_with fail
        with_reducible refine (obLens_c (by with_reducible repeat (first | exact H4 | apply zha | apply zhd | apply zhn)) e6.out).mono ?_
        rintro _ w6 ⟨rfl, H6, K6⟩
        obtain ⟨⟨rn0, rn1⟩, ⟨rd0, rd1⟩, _⟩ := obLens_range H4.ok e6.out
        go_wp2_with fail
        with_reducible refine (taPass_c (by with_reducible repeat (first | exact H6 | apply zha | apply zhd | apply zhn)) (by omega) (by omega) e8.out).mono ?_
        rintro _ w8 ⟨rfl, H8, K8⟩
        go_wp2_with fail
        go_ret
        exact ⟨by first | rfl | (simp; done) | (simp [*]; done), (by with_reducible repeat (first | exact H8 | apply zha | apply zhd | apply zhn)), by
          with_reducible repeat (first | apply zsa | apply zsd | apply zsn)
          refine Stays.trans ?_ K8
          with_reducible repeat (first | apply zsa | apply zsd | apply zsn)
          refine Stays.trans ?_ K6
          with_reducible repeat (first | apply zsa | apply zsd | apply zsn)
          refine Stays.trans ?_ K4
          with_reducible repeat (first | apply zsa | apply zsd | apply zsn)
          refine Stays.trans ?_ K3
          with_reducible repeat (first | apply zsa | apply zsd | apply zsn)
          refine Stays.trans ?_ K1
          with_reducible repeat (first | apply zsa | apply zsd | apply zsn)
          exact Stays.refl _ _⟩
  · rw [if_neg c2] at e; have c2b : (ph == 1) = false := beq_eq_false_iff_ne.2 c2; have c2n : (ph != 1) = true := bne_iff_ne.2 c2
    obtain ⟨hv, rfl⟩ := GM.pure_eq e
    obtain rfl := hv
    go_enter Tryz.func27, Tryz.ntmps27
    go_wp2_with fail
    with_reducible refine (tiPhase_c (by with_reducible repeat (first | exact H | apply zha | apply zhd | apply zhn)) e1.out).mono ?_
    rintro _ w1 ⟨rfl, H1, K1⟩
    go_wp2_with fail
    go_ret
    exact ⟨by first | rfl | (simp; done) | (simp [*]; done), (by with_reducible repeat (first | exact H1 | apply zha | apply zhd | apply zhn)), by
      with_reducible repeat (first | apply zsa | apply zsd | apply zsn)
      refine Stays.trans ?_ K1
      with_reducible repeat (first | apply zsa | apply zsd | apply zsn)
      exact Stays.refl _ _⟩

def rpEmpty (r : Int) (f0 : Int) : GM Unit :=
  obPtr r f0 >>= fun ⟨x, er⟩ =>
  if er = 0 then
    if x = 0 then
      pure ()
    else
      obSetPtr r f0 0 >>= fun _ =>
      ctDown x >>= fun ⟨m, ok⟩ =>
      if ok then
        if m = 0 then
          gvBury x >>= fun _ =>
          pure ()
        else
          pure ()
      else
        pure ()
  else
    pure ()

theorem rpEmpty_c {A : GA} {S : GS} {w : World} (H : Held A S w) {r : Int} {f0 : Int} {T : GS} (e : rpEmpty r f0 S = ((), T)) :
    Calls Tryz.prog 124 #[.pointer (some ⟨A.g, 0, none⟩), .int .i64 r, .int .i64 f0] w (Did A w (.tuple #[]) T) := by
  unfold rpEmpty at e
  replace e := GM.bind_eq e; obtain ⟨⟨x, er⟩, S1, e1_, e⟩ := e; have e1 := Hd.mk e1_; clear e1_
  try dsimp only at e
  by_cases c2 : er = 0
  · rw [if_pos c2] at e; subst c2
    by_cases c3 : x = 0
    · rw [if_pos c3] at e; subst c3
      obtain ⟨hv, rfl⟩ := GM.pure_eq e
      clear hv
      go_enter Tryz.func124, Tryz.ntmps124
      go_wp2_with fail
      with_reducible refine (obPtr_c (by with_reducible repeat (first | exact H | apply zha | apply zhd | apply zhn)) e1.out).mono ?_
      rintro _ w1 ⟨⟨rfl, H1, K1⟩, rx0, rx1⟩
      go_wp2_with fail
      go_end0
      exact ⟨by first | rfl | (simp; done) | (simp [*]; done), (by with_reducible repeat (first | exact H1 | apply zha | apply zhd | apply zhn)), by
        with_reducible repeat (first | apply zsa | apply zsd | apply zsn)
        refine Stays.trans ?_ K1
        with_reducible repeat (first | apply zsa | apply zsd | apply zsn)
        exact Stays.refl _ _⟩
    · rw [if_neg c3] at e; have c3b : (x == 0) = false := beq_eq_false_iff_ne.2 c3; have c3n : (x != 0) = true := bne_iff_ne.2 c3
      replace e := GM.bind_eq e; obtain ⟨u4, S4, e4_, e⟩ := e; have e4 := Hd.mk e4_; clear e4_
      replace e := GM.bind_eq e; obtain ⟨⟨m, ok⟩, S5, e5_, e⟩ := e; have e5 := Hd.mk e5_; clear e5_
      try dsimp only at e
      by_cases c6 : ok = true
      · rw [if_pos c6] at e; subst c6
        by_cases c7 : m = 0
        · rw [if_pos c7] at e; subst c7
          replace e := GM.bind_eq e; obtain ⟨u8, S8, e8_, e⟩ := e; have e8 := Hd.mk e8_; clear e8_
          obtain ⟨hv, rfl⟩ := GM.pure_eq e
          clear hv
          go_enter Tryz.func124, Tryz.ntmps124
          go_wp2_with fail
          with_reducible refine (obPtr_c (by with_reducible repeat (first | exact H | apply zha | apply zhd | apply zhn)) e1.out).mono ?_
          rintro _ w1 ⟨⟨rfl, H1, K1⟩, rx0, rx1⟩
          go_wp2_with fail
          with_reducible refine (obSetPtr_c (by with_reducible repeat (first | exact H1 | apply zha | apply zhd | apply zhn)) e4.out).mono ?_
          rintro _ w4 ⟨rfl, H4, K4⟩
          go_wp2_with fail
          with_reducible refine (ctDown_c (by with_reducible repeat (first | exact H4 | apply zha | apply zhd | apply zhn)) e5.out).mono ?_
          rintro _ w5 ⟨rfl, H5, K5⟩
          go_wp2_with fail
          with_reducible refine (gvBury_c (by with_reducible repeat (first | exact H5 | apply zha | apply zhd | apply zhn)) e8.out).mono ?_
          rintro _ w8 ⟨rfl, H8, K8⟩
          go_wp2_with fail
          go_end0
          exact ⟨by first | rfl | (simp; done) | (simp [*]; done), (by with_reducible repeat (first | exact H8 | apply zha | apply zhd | apply zhn)), by
            with_reducible repeat (first | apply zsa | apply zsd | apply zsn)
            refine Stays.trans ?_ K8
            with_reducible repeat (first | apply zsa | apply zsd | apply zsn)
            refine Stays.trans ?_ K5
            with_reducible repeat (first | apply zsa | apply zsd | apply zsn)
            refine Stays.trans ?_ K4
            with_reducible repeat (first | apply zsa | apply zsd | apply zsn)
            refine Stays.trans ?_ K1
            with_reducible repeat (first | apply zsa | apply zsd | apply zsn)
            exact Stays.refl _ _⟩
        · rw [if_neg c7] at e; have c7b : (m == 0) = false := beq_eq_false_iff_ne.2 c7; have c7n : (m != 0) = true := bne_iff_ne.2 c7
          obtain ⟨hv, rfl⟩ := GM.pure_eq e
          clear hv
          go_enter Tryz.func124, Tryz.ntmps124
          go_wp2_with fail
          with_reducible refine (obPtr_c (by with_reducible repeat (first | exact H | apply zha | apply zhd | apply zhn)) e1.out).mono ?_
          rintro _ w1 ⟨⟨rfl, H1, K1⟩, rx0, rx1⟩
          go_wp2_with fail
          with_reducible refine (obSetPtr_c (by with_reducible repeat (first | exact H1 | apply zha | apply zhd | apply zhn)) e4.out).mono ?_
          rintro _ w4 ⟨rfl, H4, K4⟩
          go_wp2_with fail
          with_reducible refine (ctDown_c (by with_reducible repeat (first | exact H4 | apply zha | apply zhd | apply zhn)) e5.out).mono ?_
          rintro _ w5 ⟨rfl, H5, K5⟩
          go_wp2_with fail
          go_end0
          exact ⟨by first | rfl | (simp; done) | (simp [*]; done), (by with_reducible repeat (first | exact H5 | apply zha | apply zhd | apply zhn)), by
            with_reducible repeat (first | apply zsa | apply zsd | apply zsn)
            refine Stays.trans ?_ K5
            with_reducible repeat (first | apply zsa | apply zsd | apply zsn)
            refine Stays.trans ?_ K4
            with_reducible repeat (first | apply zsa | apply zsd | apply zsn)
            refine Stays.trans ?_ K1
            with_reducible repeat (first | apply zsa | apply zsd | apply zsn)
            exact Stays.refl _ _⟩
      · rw [if_neg c6] at e; obtain rfl := eq_false_of_ne_true c6; clear c6
        obtain ⟨hv, rfl⟩ := GM.pure_eq e
        clear hv
        go_enter Tryz.func124, Tryz.ntmps124
        go_wp2_with fail
        with_reducible refine (obPtr_c (by with_reducible repeat (first | exact H | apply zha | apply zhd | apply zhn)) e1.out).mono ?_
        rintro _ w1 ⟨⟨rfl, H1, K1⟩, rx0, rx1⟩
        go_wp2_with fail
        with_reducible refine (obSetPtr_c (by with_reducible repeat (first | exact H1 | apply zha | apply zhd | apply zhn)) e4.out).mono ?_
        rintro _ w4 ⟨rfl, H4, K4⟩
        go_wp2_with fail
        with_reducible refine (ctDown_c (by with_reducible repeat (first | exact H4 | apply zha | apply zhd | apply zhn)) e5.out).mono ?_
        rintro _ w5 ⟨rfl, H5, K5⟩
        go_wp2_with fail
        go_end0
        exact ⟨by first | rfl | (simp; done) | (simp [*]; done), (by with_reducible repeat (first | exact H5 | apply zha | apply zhd | apply zhn)), by
          with_reducible repeat (first | apply zsa | apply zsd | apply zsn)
          refine Stays.trans ?_ K5
          with_reducible repeat (first | apply zsa | apply zsd | apply zsn)
          refine Stays.trans ?_ K4
          with_reducible repeat (first | apply zsa | apply zsd | apply zsn)
          refine Stays.trans ?_ K1
          with_reducible repeat (first | apply zsa | apply zsd | apply zsn)
          exact Stays.refl _ _⟩
  · rw [if_neg c2] at e; have c2b : (er == 0) = false := beq_eq_false_iff_ne.2 c2; have c2n : (er != 0) = true := bne_iff_ne.2 c2
    obtain ⟨hv, rfl⟩ := GM.pure_eq e
    clear hv
    go_enter Tryz.func124, Tryz.ntmps124
    go_wp2_with fail
    with_reducible refine (obPtr_c (by with_reducible repeat (first | exact H | apply zha | apply zhd | apply zhn)) e1.out).mono ?_
    rintro _ w1 ⟨⟨rfl, H1, K1⟩, rx0, rx1⟩
    go_wp2_with fail
    go_end0
    exact ⟨by first | rfl | (simp; done) | (simp [*]; done), (by with_reducible repeat (first | exact H1 | apply zha | apply zhd | apply zhn)), by
      with_reducible repeat (first | apply zsa | apply zsd | apply zsn)
      refine Stays.trans ?_ K1
      with_reducible repeat (first | apply zsa | apply zsd | apply zsn)
      exact Stays.refl _ _⟩

def rpStep : GM Bool :=
  tiPhase >>= fun ph =>
  if ph = 3 then
    tiAt >>= fun ⟨c0, f0⟩ =>
    getS >>= fun c =>
    if c0 ≥ c.n then
      pure false
    else
      obLens (c0 + 1) >>= fun ⟨n, d, er⟩ =>
      if er = 0 then
        tiDead (c0 + 1) >>= fun d =>
        if d then
          tiMove (c0 + 1) 0 >>= fun _ =>
          pure true
        else
          tiBlack (c0 + 1) >>= fun bk =>
          if bk then
            tiMove (c0 + 1) 0 >>= fun _ =>
            pure true
          else
            if f0 ≥ n then
              tiPaint (c0 + 1) >>= fun _ =>
              tiMove (c0 + 1) 0 >>= fun _ =>
              pure true
            else
              tiMove c0 (f0 + 1) >>= fun _ =>
              rpEmpty (c0 + 1) f0 >>= fun _ =>
              pure true
      else
        tiMove (c0 + 1) 0 >>= fun _ =>
        pure true
  else
    pure false

theorem rpStep_c {A : GA} {S : GS} {w : World} (H : Held A S w) {v0 : Bool} {T : GS} (e : rpStep S = (v0, T)) :
    Calls Tryz.prog 41 #[.pointer (some ⟨A.g, 0, none⟩)] w (Did A w (.bool v0) T) := by
  unfold rpStep at e
  replace e := GM.bind_eq e; obtain ⟨ph, S1, e1_, e⟩ := e; have e1 := Hd.mk e1_; clear e1_
  by_cases c2 : ph = 3
  · rw [if_pos c2] at e; subst c2
    replace e := GM.bind_eq e; obtain ⟨⟨c0, f0⟩, S3, e3_, e⟩ := e; have e3 := Hd.mk e3_; clear e3_
    try dsimp only at e
    replace e := GM.bind_eq e; obtain ⟨c, S4, e4, e⟩ := e
    obtain ⟨rfl, rfl⟩ := getS_eq e4
    by_cases c5 : c0 ≥ S3.n
    · rw [if_pos c5] at e
      obtain ⟨hv, rfl⟩ := GM.pure_eq e
      obtain rfl := hv
      go_enter Tryz.func41, Tryz.ntmps41
      go_wp2_with fail
      with_reducible refine (tiPhase_c (by with_reducible repeat (first | exact H | apply zha | apply zhd | apply zhn)) e1.out).mono ?_
      rintro _ w1 ⟨rfl, H1, K1⟩
      go_wp2_with fail
      with_reducible refine (tiAt_c (by with_reducible repeat (first | exact H1 | apply zha | apply zhd | apply zhn)) e3.out).mono ?_
      rintro _ w3 ⟨rfl, H3, K3⟩
      obtain ⟨⟨rc0, rc1⟩, ⟨rf0, rf1⟩⟩ := tiAt_range H1.ok e3.out
      go_wp2_with fail
      refine (conf_c (by with_reducible repeat (first | exact H3 | apply zha | apply zhd | apply zhn))).mono ?_
      rintro _ w4 ⟨rfl, H4, K4⟩
      go_wp2_with fail
      go_ret
      exact ⟨by first | rfl | (simp; done) | (simp [*]; done), (by with_reducible repeat (first | exact H4 | apply zha | apply zhd | apply zhn)), by
        with_reducible repeat (first | apply zsa | apply zsd | apply zsn)
        refine Stays.trans ?_ K4
        with_reducible repeat (first | apply zsa | apply zsd | apply zsn)
        refine Stays.trans ?_ K3
        with_reducible repeat (first | apply zsa | apply zsd | apply zsn)
        refine Stays.trans ?_ K1
        with_reducible repeat (first | apply zsa | apply zsd | apply zsn)
        exact Stays.refl _ _⟩
    · rw [if_neg c5] at e
      replace e := GM.bind_eq e; obtain ⟨⟨n, d, er⟩, S6, e6_, e⟩ := e; have e6 := Hd.mk e6_; clear e6_
      try dsimp only at e
      by_cases c7 : er = 0
      · rw [if_pos c7] at e; subst c7
        replace e := GM.bind_eq e; obtain ⟨d, S8, e8_, e⟩ := e; have e8 := Hd.mk e8_; clear e8_
        by_cases c9 : d = true
        · rw [if_pos c9] at e; subst c9
          replace e := GM.bind_eq e; obtain ⟨u10, S10, e10_, e⟩ := e; have e10 := Hd.mk e10_; clear e10_
          obtain ⟨hv, rfl⟩ := GM.pure_eq e
          obtain rfl := hv
          go_enter Tryz.func41, Tryz.ntmps41
          go_wp2_with fail
          with_reducible refine (tiPhase_c (by with_reducible repeat (first | exact H | apply zha | apply zhd | apply zhn)) e1.out).mono ?_
          rintro _ w1 ⟨rfl, H1, K1⟩
          go_wp2_with fail
          with_reducible refine (tiAt_c (by with_reducible repeat (first | exact H1 | apply zha | apply zhd | apply zhn)) e3.out).mono ?_
          rintro _ w3 ⟨rfl, H3, K3⟩
          obtain ⟨⟨rc0, rc1⟩, ⟨rf0, rf1⟩⟩ := tiAt_range H1.ok e3.out
          go_wp2_with fail
          refine (conf_c (by with_reducible repeat (first | exact H3 | apply zha | apply zhd | apply zhn))).mono ?_
          rintro _ w4 ⟨rfl, H4, K4⟩
          go_wp2_with fail
          with_reducible refine (obLens_c (by with_reducible repeat (first | exact H4 | apply zha | apply zhd | apply zhn)) e6.out).mono ?_
          rintro _ w6 ⟨rfl, H6, K6⟩
          obtain ⟨⟨rn0, rn1⟩, ⟨rd0, rd1⟩, _⟩ := obLens_range H4.ok e6.out
          go_wp2_with fail
          with_reducible refine (tiDead_c (by with_reducible repeat (first | exact H6 | apply zha | apply zhd | apply zhn)) e8.out).mono ?_
          rintro _ w8 ⟨rfl, H8, K8⟩
          go_wp2_with fail
          with_reducible refine (tiMove_c (by with_reducible repeat (first | exact H8 | apply zha | apply zhd | apply zhn)) e10.out).mono ?_
          rintro _ w10 ⟨rfl, H10, K10⟩
          go_wp2_with fail
          go_ret
          exact ⟨by first | rfl | (simp; done) | (simp [*]; done), (by with_reducible repeat (first | exact H10 | apply zha | apply zhd | apply zhn)), by
            with_reducible repeat (first | apply zsa | apply zsd | apply zsn)
            refine Stays.trans ?_ K10
            with_reducible repeat (first | apply zsa | apply zsd | apply zsn)
            refine Stays.trans ?_ K8
            with_reducible repeat (first | apply zsa | apply zsd | apply zsn)
            refine Stays.trans ?_ K6
            with_reducible repeat (first | apply zsa | apply zsd | apply zsn)
            refine Stays.trans ?_ K4
            with_reducible repeat (first | apply zsa | apply zsd | apply zsn)
            refine Stays.trans ?_ K3
            with_reducible repeat (first | apply zsa | apply zsd | apply zsn)
            refine Stays.trans ?_ K1
            with_reducible repeat (first | apply zsa | apply zsd | apply zsn)
            exact Stays.refl _ _⟩
        · rw [if_neg c9] at e; obtain rfl := eq_false_of_ne_true c9; clear c9
          replace e := GM.bind_eq e; obtain ⟨bk, S10, e10_, e⟩ := e; have e10 := Hd.mk e10_; clear e10_
          by_cases c11 : bk = true
          · rw [if_pos c11] at e; subst c11
            replace e := GM.bind_eq e; obtain ⟨u12, S12, e12_, e⟩ := e; have e12 := Hd.mk e12_; clear e12_
            obtain ⟨hv, rfl⟩ := GM.pure_eq e
            obtain rfl := hv
            go_enter Tryz.func41, Tryz.ntmps41
            go_wp2_with fail
            with_reducible refine (tiPhase_c (by with_reducible repeat (first | exact H | apply zha | apply zhd | apply zhn)) e1.out).mono ?_
            rintro _ w1 ⟨rfl, H1, K1⟩
            go_wp2_with fail
            with_reducible refine (tiAt_c (by with_reducible repeat (first | exact H1 | apply zha | apply zhd | apply zhn)) e3.out).mono ?_
            rintro _ w3 ⟨rfl, H3, K3⟩
            obtain ⟨⟨rc0, rc1⟩, ⟨rf0, rf1⟩⟩ := tiAt_range H1.ok e3.out
            go_wp2_with fail
            refine (conf_c (by with_reducible repeat (first | exact H3 | apply zha | apply zhd | apply zhn))).mono ?_
            rintro _ w4 ⟨rfl, H4, K4⟩
            go_wp2_with fail
            with_reducible refine (obLens_c (by with_reducible repeat (first | exact H4 | apply zha | apply zhd | apply zhn)) e6.out).mono ?_
            rintro _ w6 ⟨rfl, H6, K6⟩
            obtain ⟨⟨rn0, rn1⟩, ⟨rd0, rd1⟩, _⟩ := obLens_range H4.ok e6.out
            go_wp2_with fail
            with_reducible refine (tiDead_c (by with_reducible repeat (first | exact H6 | apply zha | apply zhd | apply zhn)) e8.out).mono ?_
            rintro _ w8 ⟨rfl, H8, K8⟩
            go_wp2_with fail
            with_reducible refine (tiBlack_c (by with_reducible repeat (first | exact H8 | apply zha | apply zhd | apply zhn)) e10.out).mono ?_
            rintro _ w10 ⟨rfl, H10, K10⟩
            go_wp2_with fail
            with_reducible refine (tiMove_c (by with_reducible repeat (first | exact H10 | apply zha | apply zhd | apply zhn)) e12.out).mono ?_
            rintro _ w12 ⟨rfl, H12, K12⟩
            go_wp2_with fail
            go_ret
            exact ⟨by first | rfl | (simp; done) | (simp [*]; done), (by with_reducible repeat (first | exact H12 | apply zha | apply zhd | apply zhn)), by
              with_reducible repeat (first | apply zsa | apply zsd | apply zsn)
              refine Stays.trans ?_ K12
              with_reducible repeat (first | apply zsa | apply zsd | apply zsn)
              refine Stays.trans ?_ K10
              with_reducible repeat (first | apply zsa | apply zsd | apply zsn)
              refine Stays.trans ?_ K8
              with_reducible repeat (first | apply zsa | apply zsd | apply zsn)
              refine Stays.trans ?_ K6
              with_reducible repeat (first | apply zsa | apply zsd | apply zsn)
              refine Stays.trans ?_ K4
              with_reducible repeat (first | apply zsa | apply zsd | apply zsn)
              refine Stays.trans ?_ K3
              with_reducible repeat (first | apply zsa | apply zsd | apply zsn)
              refine Stays.trans ?_ K1
              with_reducible repeat (first | apply zsa | apply zsd | apply zsn)
              exact Stays.refl _ _⟩
          · rw [if_neg c11] at e; obtain rfl := eq_false_of_ne_true c11; clear c11
            by_cases c12 : f0 ≥ n
            · rw [if_pos c12] at e
              replace e := GM.bind_eq e; obtain ⟨u13, S13, e13_, e⟩ := e; have e13 := Hd.mk e13_; clear e13_
              replace e := GM.bind_eq e; obtain ⟨u14, S14, e14_, e⟩ := e; have e14 := Hd.mk e14_; clear e14_
              obtain ⟨hv, rfl⟩ := GM.pure_eq e
              obtain rfl := hv
              go_enter Tryz.func41, Tryz.ntmps41
              go_wp2_with fail
              with_reducible refine (tiPhase_c (by with_reducible repeat (first | exact H | apply zha | apply zhd | apply zhn)) e1.out).mono ?_
              rintro _ w1 ⟨rfl, H1, K1⟩
              go_wp2_with fail
              with_reducible refine (tiAt_c (by with_reducible repeat (first | exact H1 | apply zha | apply zhd | apply zhn)) e3.out).mono ?_
              rintro _ w3 ⟨rfl, H3, K3⟩
              obtain ⟨⟨rc0, rc1⟩, ⟨rf0, rf1⟩⟩ := tiAt_range H1.ok e3.out
              go_wp2_with fail
              refine (conf_c (by with_reducible repeat (first | exact H3 | apply zha | apply zhd | apply zhn))).mono ?_
              rintro _ w4 ⟨rfl, H4, K4⟩
              go_wp2_with fail
              with_reducible refine (obLens_c (by with_reducible repeat (first | exact H4 | apply zha | apply zhd | apply zhn)) e6.out).mono ?_
              rintro _ w6 ⟨rfl, H6, K6⟩
              obtain ⟨⟨rn0, rn1⟩, ⟨rd0, rd1⟩, _⟩ := obLens_range H4.ok e6.out
              go_wp2_with fail
              with_reducible refine (tiDead_c (by with_reducible repeat (first | exact H6 | apply zha | apply zhd | apply zhn)) e8.out).mono ?_
              rintro _ w8 ⟨rfl, H8, K8⟩
              go_wp2_with fail
              with_reducible refine (tiBlack_c (by with_reducible repeat (first | exact H8 | apply zha | apply zhd | apply zhn)) e10.out).mono ?_
              rintro _ w10 ⟨rfl, H10, K10⟩
              go_wp2_with fail
              with_reducible refine (tiPaint_c (by with_reducible repeat (first | exact H10 | apply zha | apply zhd | apply zhn)) e13.out).mono ?_
              rintro _ w13 ⟨rfl, H13, K13⟩
              go_wp2_with fail
              with_reducible refine (tiMove_c (by with_reducible repeat (first | exact H13 | apply zha | apply zhd | apply zhn)) e14.out).mono ?_
              rintro _ w14 ⟨rfl, H14, K14⟩
              go_wp2_with fail
              go_ret
              exact ⟨by first | rfl | (simp; done) | (simp [*]; done), (by with_reducible repeat (first | exact H14 | apply zha | apply zhd | apply zhn)), by
                with_reducible repeat (first | apply zsa | apply zsd | apply zsn)
                refine Stays.trans ?_ K14
                with_reducible repeat (first | apply zsa | apply zsd | apply zsn)
                refine Stays.trans ?_ K13
                with_reducible repeat (first | apply zsa | apply zsd | apply zsn)
                refine Stays.trans ?_ K10
                with_reducible repeat (first | apply zsa | apply zsd | apply zsn)
                refine Stays.trans ?_ K8
                with_reducible repeat (first | apply zsa | apply zsd | apply zsn)
                refine Stays.trans ?_ K6
                with_reducible repeat (first | apply zsa | apply zsd | apply zsn)
                refine Stays.trans ?_ K4
                with_reducible repeat (first | apply zsa | apply zsd | apply zsn)
                refine Stays.trans ?_ K3
                with_reducible repeat (first | apply zsa | apply zsd | apply zsn)
                refine Stays.trans ?_ K1
                with_reducible repeat (first | apply zsa | apply zsd | apply zsn)
                exact Stays.refl _ _⟩
            · rw [if_neg c12] at e
              replace e := GM.bind_eq e; obtain ⟨u13, S13, e13_, e⟩ := e; have e13 := Hd.mk e13_; clear e13_
              replace e := GM.bind_eq e; obtain ⟨u14, S14, e14_, e⟩ := e; have e14 := Hd.mk e14_; clear e14_
              obtain ⟨hv, rfl⟩ := GM.pure_eq e
              obtain rfl := hv
              go_enter Tryz.func41, Tryz.ntmps41
              go_wp2_with fail
              with_reducible refine (tiPhase_c (by with_reducible repeat (first | exact H | apply zha | apply zhd | apply zhn)) e1.out).mono ?_
              rintro _ w1 ⟨rfl, H1, K1⟩
              go_wp2_with fail
              with_reducible refine (tiAt_c (by with_reducible repeat (first | exact H1 | apply zha | apply zhd | apply zhn)) e3.out).mono ?_
              rintro _ w3 ⟨rfl, H3, K3⟩
              obtain ⟨⟨rc0, rc1⟩, ⟨rf0, rf1⟩⟩ := tiAt_range H1.ok e3.out
              go_wp2_with fail
              refine (conf_c (by with_reducible repeat (first | exact H3 | apply zha | apply zhd | apply zhn))).mono ?_
              rintro _ w4 ⟨rfl, H4, K4⟩
              go_wp2_with fail
              with_reducible refine (obLens_c (by with_reducible repeat (first | exact H4 | apply zha | apply zhd | apply zhn)) e6.out).mono ?_
              rintro _ w6 ⟨rfl, H6, K6⟩
              obtain ⟨⟨rn0, rn1⟩, ⟨rd0, rd1⟩, _⟩ := obLens_range H4.ok e6.out
              go_wp2_with fail
              with_reducible refine (tiDead_c (by with_reducible repeat (first | exact H6 | apply zha | apply zhd | apply zhn)) e8.out).mono ?_
              rintro _ w8 ⟨rfl, H8, K8⟩
              go_wp2_with fail
              with_reducible refine (tiBlack_c (by with_reducible repeat (first | exact H8 | apply zha | apply zhd | apply zhn)) e10.out).mono ?_
              rintro _ w10 ⟨rfl, H10, K10⟩
              go_wp2_with fail
              with_reducible refine (tiMove_c (by with_reducible repeat (first | exact H10 | apply zha | apply zhd | apply zhn)) e13.out).mono ?_
              rintro _ w13 ⟨rfl, H13, K13⟩
              go_wp2_with fail
              with_reducible refine (rpEmpty_c (by with_reducible repeat (first | exact H13 | apply zha | apply zhd | apply zhn)) e14.out).mono ?_
              rintro _ w14 ⟨rfl, H14, K14⟩
              go_wp2_with fail
              go_ret
              exact ⟨by first | rfl | (simp; done) | (simp [*]; done), (by with_reducible repeat (first | exact H14 | apply zha | apply zhd | apply zhn)), by
                with_reducible repeat (first | apply zsa | apply zsd | apply zsn)
                refine Stays.trans ?_ K14
                with_reducible repeat (first | apply zsa | apply zsd | apply zsn)
                refine Stays.trans ?_ K13
                with_reducible repeat (first | apply zsa | apply zsd | apply zsn)
                refine Stays.trans ?_ K10
                with_reducible repeat (first | apply zsa | apply zsd | apply zsn)
                refine Stays.trans ?_ K8
                with_reducible repeat (first | apply zsa | apply zsd | apply zsn)
                refine Stays.trans ?_ K6
                with_reducible repeat (first | apply zsa | apply zsd | apply zsn)
                refine Stays.trans ?_ K4
                with_reducible repeat (first | apply zsa | apply zsd | apply zsn)
                refine Stays.trans ?_ K3
                with_reducible repeat (first | apply zsa | apply zsd | apply zsn)
                refine Stays.trans ?_ K1
                with_reducible repeat (first | apply zsa | apply zsd | apply zsn)
                exact Stays.refl _ _⟩
      · rw [if_neg c7] at e; have c7b : (er == 0) = false := beq_eq_false_iff_ne.2 c7; have c7n : (er != 0) = true := bne_iff_ne.2 c7
        replace e := GM.bind_eq e; obtain ⟨u8, S8, e8_, e⟩ := e; have e8 := Hd.mk e8_; clear e8_
        obtain ⟨hv, rfl⟩ := GM.pure_eq e
        obtain rfl := hv
        go_enter Tryz.func41, Tryz.ntmps41
        go_wp2_with fail
        with_reducible refine (tiPhase_c (by with_reducible repeat (first | exact H | apply zha | apply zhd | apply zhn)) e1.out).mono ?_
        rintro _ w1 ⟨rfl, H1, K1⟩
        go_wp2_with fail
        with_reducible refine (tiAt_c (by with_reducible repeat (first | exact H1 | apply zha | apply zhd | apply zhn)) e3.out).mono ?_
        rintro _ w3 ⟨rfl, H3, K3⟩
        obtain ⟨⟨rc0, rc1⟩, ⟨rf0, rf1⟩⟩ := tiAt_range H1.ok e3.out
        go_wp2_with fail
        refine (conf_c (by with_reducible repeat (first | exact H3 | apply zha | apply zhd | apply zhn))).mono ?_
        rintro _ w4 ⟨rfl, H4, K4⟩
        go_wp2_with fail
        with_reducible refine (obLens_c (by with_reducible repeat (first | exact H4 | apply zha | apply zhd | apply zhn)) e6.out).mono ?_
        rintro _ w6 ⟨rfl, H6, K6⟩
        obtain ⟨⟨rn0, rn1⟩, ⟨rd0, rd1⟩, _⟩ := obLens_range H4.ok e6.out
        go_wp2_with fail
        with_reducible refine (tiMove_c (by with_reducible repeat (first | exact H6 | apply zha | apply zhd | apply zhn)) e8.out).mono ?_
        rintro _ w8 ⟨rfl, H8, K8⟩
        go_wp2_with fail
        go_ret
        exact ⟨by first | rfl | (simp; done) | (simp [*]; done), (by with_reducible repeat (first | exact H8 | apply zha | apply zhd | apply zhn)), by
          with_reducible repeat (first | apply zsa | apply zsd | apply zsn)
          refine Stays.trans ?_ K8
          with_reducible repeat (first | apply zsa | apply zsd | apply zsn)
          refine Stays.trans ?_ K6
          with_reducible repeat (first | apply zsa | apply zsd | apply zsn)
          refine Stays.trans ?_ K4
          with_reducible repeat (first | apply zsa | apply zsd | apply zsn)
          refine Stays.trans ?_ K3
          with_reducible repeat (first | apply zsa | apply zsd | apply zsn)
          refine Stays.trans ?_ K1
          with_reducible repeat (first | apply zsa | apply zsd | apply zsn)
          exact Stays.refl _ _⟩
  · rw [if_neg c2] at e; have c2b : (ph == 3) = false := beq_eq_false_iff_ne.2 c2; have c2n : (ph != 3) = true := bne_iff_ne.2 c2
    obtain ⟨hv, rfl⟩ := GM.pure_eq e
    obtain rfl := hv
    go_enter Tryz.func41, Tryz.ntmps41
    go_wp2_with fail
    with_reducible refine (tiPhase_c (by with_reducible repeat (first | exact H | apply zha | apply zhd | apply zhn)) e1.out).mono ?_
    rintro _ w1 ⟨rfl, H1, K1⟩
    go_wp2_with fail
    go_ret
    exact ⟨by first | rfl | (simp; done) | (simp [*]; done), (by with_reducible repeat (first | exact H1 | apply zha | apply zhd | apply zhn)), by
      with_reducible repeat (first | apply zsa | apply zsd | apply zsn)
      refine Stays.trans ?_ K1
      with_reducible repeat (first | apply zsa | apply zsd | apply zsn)
      exact Stays.refl _ _⟩

def flScan (r : Int) : GM Unit :=
  Reg 15 >>= fun i =>
  obPtr r i >>= fun ⟨x, er⟩ =>
  if er = 0 then
    if x > 0 then
      tiTouch x >>= fun _ =>
      SetReg 15 (i + 1) >>= fun _ =>
      pure ()
    else
      SetReg 15 (i + 1) >>= fun _ =>
      pure ()
  else
    SetReg 14 0 >>= fun _ =>
    pure ()

theorem flScan_c {A : GA} {S : GS} {w : World} (H : Held A S w) {r : Int} {T : GS} (e : flScan r S = ((), T)) :
    Calls Tryz.prog 117 #[.pointer (some ⟨A.g, 0, none⟩), .int .i64 r] w (Did A w (.tuple #[]) T) := by
  unfold flScan at e
  replace e := GM.bind_eq e; obtain ⟨i, S1, e1_, e⟩ := e; have e1 := Hd.mk e1_; clear e1_
  replace e := GM.bind_eq e; obtain ⟨⟨x, er⟩, S2, e2_, e⟩ := e; have e2 := Hd.mk e2_; clear e2_
  try dsimp only at e
  by_cases c3 : er = 0
  · rw [if_pos c3] at e; subst c3
    by_cases c4 : x > 0
    · rw [if_pos c4] at e
      replace e := GM.bind_eq e; obtain ⟨u5, S5, e5_, e⟩ := e; have e5 := Hd.mk e5_; clear e5_
      replace e := GM.bind_eq e; obtain ⟨u6, S6, e6_, e⟩ := e; have e6 := Hd.mk e6_; clear e6_
      obtain ⟨hv, rfl⟩ := GM.pure_eq e
      clear hv
      go_enter Tryz.func117, Tryz.ntmps117
      go_wp2_with fail
      with_reducible refine (Reg_c (by with_reducible repeat (first | exact H | apply zha | apply zhd | apply zhn)) e1.out).mono ?_
      rintro _ w1 ⟨rfl, H1, K1⟩
      obtain ⟨ri0, ri1⟩ := stGet_range (H).ok e1.out
      go_wp2_with fail
      with_reducible refine (obPtr_c (by with_reducible repeat (first | exact H1 | apply zha | apply zhd | apply zhn)) e2.out).mono ?_
      rintro _ w2 ⟨⟨rfl, H2, K2⟩, rx0, rx1⟩
      go_wp2_with fail
      with_reducible refine (tiTouch_c (by with_reducible repeat (first | exact H2 | apply zha | apply zhd | apply zhn)) e5.out).mono ?_
      rintro _ w5 ⟨rfl, H5, K5⟩
      go_wp2_with fail
      with_reducible refine (SetReg_c (by with_reducible repeat (first | exact H5 | apply zha | apply zhd | apply zhn)) e6.out).mono ?_
      rintro _ w6 ⟨rfl, H6, K6⟩
      go_wp2_with fail
      go_end0
      exact ⟨by first | rfl | (simp; done) | (simp [*]; done), (by with_reducible repeat (first | exact H6 | apply zha | apply zhd | apply zhn)), by
        with_reducible repeat (first | apply zsa | apply zsd | apply zsn)
        refine Stays.trans ?_ K6
        with_reducible repeat (first | apply zsa | apply zsd | apply zsn)
        refine Stays.trans ?_ K5
        with_reducible repeat (first | apply zsa | apply zsd | apply zsn)
        refine Stays.trans ?_ K2
        with_reducible repeat (first | apply zsa | apply zsd | apply zsn)
        refine Stays.trans ?_ K1
        with_reducible repeat (first | apply zsa | apply zsd | apply zsn)
        exact Stays.refl _ _⟩
    · rw [if_neg c4] at e
      replace e := GM.bind_eq e; obtain ⟨u5, S5, e5_, e⟩ := e; have e5 := Hd.mk e5_; clear e5_
      obtain ⟨hv, rfl⟩ := GM.pure_eq e
      clear hv
      go_enter Tryz.func117, Tryz.ntmps117
      go_wp2_with fail
      with_reducible refine (Reg_c (by with_reducible repeat (first | exact H | apply zha | apply zhd | apply zhn)) e1.out).mono ?_
      rintro _ w1 ⟨rfl, H1, K1⟩
      obtain ⟨ri0, ri1⟩ := stGet_range (H).ok e1.out
      go_wp2_with fail
      with_reducible refine (obPtr_c (by with_reducible repeat (first | exact H1 | apply zha | apply zhd | apply zhn)) e2.out).mono ?_
      rintro _ w2 ⟨⟨rfl, H2, K2⟩, rx0, rx1⟩
      go_wp2_with fail
      with_reducible refine (SetReg_c (by with_reducible repeat (first | exact H2 | apply zha | apply zhd | apply zhn)) e5.out).mono ?_
      rintro _ w5 ⟨rfl, H5, K5⟩
      go_wp2_with fail
      go_end0
      exact ⟨by first | rfl | (simp; done) | (simp [*]; done), (by with_reducible repeat (first | exact H5 | apply zha | apply zhd | apply zhn)), by
        with_reducible repeat (first | apply zsa | apply zsd | apply zsn)
        refine Stays.trans ?_ K5
        with_reducible repeat (first | apply zsa | apply zsd | apply zsn)
        refine Stays.trans ?_ K2
        with_reducible repeat (first | apply zsa | apply zsd | apply zsn)
        refine Stays.trans ?_ K1
        with_reducible repeat (first | apply zsa | apply zsd | apply zsn)
        exact Stays.refl _ _⟩
  · rw [if_neg c3] at e; have c3b : (er == 0) = false := beq_eq_false_iff_ne.2 c3; have c3n : (er != 0) = true := bne_iff_ne.2 c3
    replace e := GM.bind_eq e; obtain ⟨u4, S4, e4_, e⟩ := e; have e4 := Hd.mk e4_; clear e4_
    obtain ⟨hv, rfl⟩ := GM.pure_eq e
    clear hv
    go_enter Tryz.func117, Tryz.ntmps117
    go_wp2_with fail
    with_reducible refine (Reg_c (by with_reducible repeat (first | exact H | apply zha | apply zhd | apply zhn)) e1.out).mono ?_
    rintro _ w1 ⟨rfl, H1, K1⟩
    obtain ⟨ri0, ri1⟩ := stGet_range (H).ok e1.out
    go_wp2_with fail
    with_reducible refine (obPtr_c (by with_reducible repeat (first | exact H1 | apply zha | apply zhd | apply zhn)) e2.out).mono ?_
    rintro _ w2 ⟨⟨rfl, H2, K2⟩, rx0, rx1⟩
    go_wp2_with fail
    with_reducible refine (SetReg_c (by with_reducible repeat (first | exact H2 | apply zha | apply zhd | apply zhn)) e4.out).mono ?_
    rintro _ w4 ⟨rfl, H4, K4⟩
    go_wp2_with fail
    go_end0
    exact ⟨by first | rfl | (simp; done) | (simp [*]; done), (by with_reducible repeat (first | exact H4 | apply zha | apply zhd | apply zhn)), by
      with_reducible repeat (first | apply zsa | apply zsd | apply zsn)
      refine Stays.trans ?_ K4
      with_reducible repeat (first | apply zsa | apply zsd | apply zsn)
      refine Stays.trans ?_ K2
      with_reducible repeat (first | apply zsa | apply zsd | apply zsn)
      refine Stays.trans ?_ K1
      with_reducible repeat (first | apply zsa | apply zsd | apply zsn)
      exact Stays.refl _ _⟩

def rdRise (r : Int) : GM Unit :=
  Reg r >>= fun n =>
  SetReg r ((n + 1) % 4294967296) >>= fun _ =>
  pure ()

theorem rdRise_c {A : GA} {S : GS} {w : World} (H : Held A S w) {r : Int} {T : GS} (e : rdRise r S = ((), T)) :
    Calls Tryz.prog 127 #[.pointer (some ⟨A.g, 0, none⟩), .int .i64 r] w (Did A w (.tuple #[]) T) := by
  unfold rdRise at e
  replace e := GM.bind_eq e; obtain ⟨n, S1, e1_, e⟩ := e; have e1 := Hd.mk e1_; clear e1_
  replace e := GM.bind_eq e; obtain ⟨u2, S2, e2_, e⟩ := e; have e2 := Hd.mk e2_; clear e2_
  obtain ⟨hv, rfl⟩ := GM.pure_eq e
  clear hv
  go_enter Tryz.func127, Tryz.ntmps127
  go_wp2_with fail
  with_reducible refine (Reg_c (by with_reducible repeat (first | exact H | apply zha | apply zhd | apply zhn)) e1.out).mono ?_
  rintro _ w1 ⟨rfl, H1, K1⟩
  obtain ⟨rn0, rn1⟩ := stGet_range (H).ok e1.out
  go_wp2_with fail
  with_reducible refine (SetReg_c (by with_reducible repeat (first | exact H1 | apply zha | apply zhd | apply zhn)) e2.out).mono ?_
  rintro _ w2 ⟨rfl, H2, K2⟩
  go_wp2_with fail
  go_end0
  exact ⟨by first | rfl | (simp; done) | (simp [*]; done), (by with_reducible repeat (first | exact H2 | apply zha | apply zhd | apply zhn)), by
    with_reducible repeat (first | apply zsa | apply zsd | apply zsn)
    refine Stays.trans ?_ K2
    with_reducible repeat (first | apply zsa | apply zsd | apply zsn)
    refine Stays.trans ?_ K1
    with_reducible repeat (first | apply zsa | apply zsd | apply zsn)
    exact Stays.refl _ _⟩

def rdOpen : GM Bool :=
  lkSuspect >>= fun s =>
  if s then
    tiTurn >>= fun _ =>
    SetReg 16 0 >>= fun _ =>
    SetReg 17 0 >>= fun _ =>
    tiBegin 1 >>= fun b =>
    pure b
  else
    pure false

theorem rdOpen_c {A : GA} {S : GS} {w : World} (H : Held A S w) {v0 : Bool} {T : GS} (e : rdOpen S = (v0, T)) :
    Calls Tryz.prog 126 #[.pointer (some ⟨A.g, 0, none⟩)] w (Did A w (.bool v0) T) := by
  unfold rdOpen at e
  replace e := GM.bind_eq e; obtain ⟨s, S1, e1_, e⟩ := e; have e1 := Hd.mk e1_; clear e1_
  by_cases c2 : s = true
  · rw [if_pos c2] at e; subst c2
    replace e := GM.bind_eq e; obtain ⟨u3, S3, e3_, e⟩ := e; have e3 := Hd.mk e3_; clear e3_
    replace e := GM.bind_eq e; obtain ⟨u4, S4, e4_, e⟩ := e; have e4 := Hd.mk e4_; clear e4_
    replace e := GM.bind_eq e; obtain ⟨u5, S5, e5_, e⟩ := e; have e5 := Hd.mk e5_; clear e5_
    replace e := GM.bind_eq e; obtain ⟨b, S6, e6_, e⟩ := e; have e6 := Hd.mk e6_; clear e6_
    obtain ⟨hv, rfl⟩ := GM.pure_eq e
    obtain rfl := hv
    go_enter Tryz.func126, Tryz.ntmps126
    go_wp2_with fail
    with_reducible refine (lkSuspect_c (by with_reducible repeat (first | exact H | apply zha | apply zhd | apply zhn)) e1.out).mono ?_
    rintro _ w1 ⟨rfl, H1, K1⟩
    go_wp2_with fail
    with_reducible refine (tiTurn_c (by with_reducible repeat (first | exact H1 | apply zha | apply zhd | apply zhn)) e3.out).mono ?_
    rintro _ w3 ⟨rfl, H3, K3⟩
    go_wp2_with fail
    with_reducible refine (SetReg_c (by with_reducible repeat (first | exact H3 | apply zha | apply zhd | apply zhn)) e4.out).mono ?_
    rintro _ w4 ⟨rfl, H4, K4⟩
    go_wp2_with fail
    with_reducible refine (SetReg_c (by with_reducible repeat (first | exact H4 | apply zha | apply zhd | apply zhn)) e5.out).mono ?_
    rintro _ w5 ⟨rfl, H5, K5⟩
    go_wp2_with fail
    with_reducible refine (tiBegin_c (by with_reducible repeat (first | exact H5 | apply zha | apply zhd | apply zhn)) e6.out).mono ?_
    rintro _ w6 ⟨rfl, H6, K6⟩
    go_wp2_with fail
    go_ret
    exact ⟨by first | rfl | (simp; done) | (simp [*]; done), (by with_reducible repeat (first | exact H6 | apply zha | apply zhd | apply zhn)), by
      with_reducible repeat (first | apply zsa | apply zsd | apply zsn)
      refine Stays.trans ?_ K6
      with_reducible repeat (first | apply zsa | apply zsd | apply zsn)
      refine Stays.trans ?_ K5
      with_reducible repeat (first | apply zsa | apply zsd | apply zsn)
      refine Stays.trans ?_ K4
      with_reducible repeat (first | apply zsa | apply zsd | apply zsn)
      refine Stays.trans ?_ K3
      with_reducible repeat (first | apply zsa | apply zsd | apply zsn)
      refine Stays.trans ?_ K1
      with_reducible repeat (first | apply zsa | apply zsd | apply zsn)
      exact Stays.refl _ _⟩
  · rw [if_neg c2] at e; obtain rfl := eq_false_of_ne_true c2; clear c2
    obtain ⟨hv, rfl⟩ := GM.pure_eq e
    obtain rfl := hv
    go_enter Tryz.func126, Tryz.ntmps126
    go_wp2_with fail
    with_reducible refine (lkSuspect_c (by with_reducible repeat (first | exact H | apply zha | apply zhd | apply zhn)) e1.out).mono ?_
    rintro _ w1 ⟨rfl, H1, K1⟩
    go_wp2_with fail
    go_ret
    exact ⟨by first | rfl | (simp; done) | (simp [*]; done), (by with_reducible repeat (first | exact H1 | apply zha | apply zhd | apply zhn)), by
      with_reducible repeat (first | apply zsa | apply zsd | apply zsn)
      refine Stays.trans ?_ K1
      with_reducible repeat (first | apply zsa | apply zsd | apply zsn)
      exact Stays.refl _ _⟩

def rdPass (wk : Bool) (nx : Int) : GM Unit :=
  if wk then
    pure ()
  else
    tiBegin nx >>= fun _ =>
    if nx = 0 then
      rdRise 18 >>= fun _ =>
      pure ()
    else
      pure ()

theorem rdPass_c {A : GA} {S : GS} {w : World} (H : Held A S w) {wk : Bool} {nx : Int} {T : GS} (e : rdPass wk nx S = ((), T)) :
    Calls Tryz.prog 125 #[.pointer (some ⟨A.g, 0, none⟩), .bool wk, .int .i64 nx] w (Did A w (.tuple #[]) T) := by
  unfold rdPass at e
  by_cases c1 : wk = true
  · rw [if_pos c1] at e; subst c1
    obtain ⟨hv, rfl⟩ := GM.pure_eq e
    clear hv
    go_enter Tryz.func125, Tryz.ntmps125
    go_wp2_with fail
    go_end0
    exact ⟨by first | rfl | (simp; done) | (simp [*]; done), (by with_reducible repeat (first | exact H | apply zha | apply zhd | apply zhn)), by
      with_reducible repeat (first | apply zsa | apply zsd | apply zsn)
      exact Stays.refl _ _⟩
  · rw [if_neg c1] at e; obtain rfl := eq_false_of_ne_true c1; clear c1
    replace e := GM.bind_eq e; obtain ⟨u2, S2, e2_, e⟩ := e; have e2 := Hd.mk e2_; clear e2_
    by_cases c3 : nx = 0
    · rw [if_pos c3] at e; subst c3
      replace e := GM.bind_eq e; obtain ⟨u4, S4, e4_, e⟩ := e; have e4 := Hd.mk e4_; clear e4_
      obtain ⟨hv, rfl⟩ := GM.pure_eq e
      clear hv
      go_enter Tryz.func125, Tryz.ntmps125
      go_wp2_with fail
      with_reducible refine (tiBegin_c (by with_reducible repeat (first | exact H | apply zha | apply zhd | apply zhn)) e2.out).mono ?_
      rintro _ w2 ⟨rfl, H2, K2⟩
      go_wp2_with fail
      with_reducible refine (rdRise_c (by with_reducible repeat (first | exact H2 | apply zha | apply zhd | apply zhn)) e4.out).mono ?_
      rintro _ w4 ⟨rfl, H4, K4⟩
      go_wp2_with fail
      go_end0
      exact ⟨by first | rfl | (simp; done) | (simp [*]; done), (by with_reducible repeat (first | exact H4 | apply zha | apply zhd | apply zhn)), by
        with_reducible repeat (first | apply zsa | apply zsd | apply zsn)
        refine Stays.trans ?_ K4
        with_reducible repeat (first | apply zsa | apply zsd | apply zsn)
        refine Stays.trans ?_ K2
        with_reducible repeat (first | apply zsa | apply zsd | apply zsn)
        exact Stays.refl _ _⟩
    · rw [if_neg c3] at e; have c3b : (nx == 0) = false := beq_eq_false_iff_ne.2 c3; have c3n : (nx != 0) = true := bne_iff_ne.2 c3
      obtain ⟨hv, rfl⟩ := GM.pure_eq e
      clear hv
      go_enter Tryz.func125, Tryz.ntmps125
      go_wp2_with fail
      with_reducible refine (tiBegin_c (by with_reducible repeat (first | exact H | apply zha | apply zhd | apply zhn)) e2.out).mono ?_
      rintro _ w2 ⟨rfl, H2, K2⟩
      go_wp2_with fail
      go_end0
      exact ⟨by first | rfl | (simp; done) | (simp [*]; done), (by with_reducible repeat (first | exact H2 | apply zha | apply zhd | apply zhn)), by
        with_reducible repeat (first | apply zsa | apply zsd | apply zsn)
        refine Stays.trans ?_ K2
        with_reducible repeat (first | apply zsa | apply zsd | apply zsn)
        exact Stays.refl _ _⟩

def rdUnits : GM Int :=
  Reg 17 >>= fun n =>
  pure n

theorem rdUnits_c {A : GA} {S : GS} {w : World} (H : Held A S w) {v0 : Int} {T : GS} (e : rdUnits S = (v0, T)) :
    Calls Tryz.prog 45 #[.pointer (some ⟨A.g, 0, none⟩)] w (Did A w (.int .i64 v0) T) := by
  unfold rdUnits at e
  replace e := GM.bind_eq e; obtain ⟨n, S1, e1_, e⟩ := e; have e1 := Hd.mk e1_; clear e1_
  obtain ⟨hv, rfl⟩ := GM.pure_eq e
  obtain rfl := hv
  go_enter Tryz.func45, Tryz.ntmps45
  go_wp2_with fail
  with_reducible refine (Reg_c (by with_reducible repeat (first | exact H | apply zha | apply zhd | apply zhn)) e1.out).mono ?_
  rintro _ w1 ⟨rfl, H1, K1⟩
  go_wp2_with fail
  go_ret
  exact ⟨by first | rfl | (simp; done) | (simp [*]; done), (by with_reducible repeat (first | exact H1 | apply zha | apply zhd | apply zhn)), by
    with_reducible repeat (first | apply zsa | apply zsd | apply zsn)
    refine Stays.trans ?_ K1
    with_reducible repeat (first | apply zsa | apply zsd | apply zsn)
    exact Stays.refl _ _⟩

def rdEpochs : GM Int :=
  Reg 18 >>= fun n =>
  pure n

theorem rdEpochs_c {A : GA} {S : GS} {w : World} (H : Held A S w) {v0 : Int} {T : GS} (e : rdEpochs S = (v0, T)) :
    Calls Tryz.prog 46 #[.pointer (some ⟨A.g, 0, none⟩)] w (Did A w (.int .i64 v0) T) := by
  unfold rdEpochs at e
  replace e := GM.bind_eq e; obtain ⟨n, S1, e1_, e⟩ := e; have e1 := Hd.mk e1_; clear e1_
  obtain ⟨hv, rfl⟩ := GM.pure_eq e
  obtain rfl := hv
  go_enter Tryz.func46, Tryz.ntmps46
  go_wp2_with fail
  with_reducible refine (Reg_c (by with_reducible repeat (first | exact H | apply zha | apply zhd | apply zhn)) e1.out).mono ?_
  rintro _ w1 ⟨rfl, H1, K1⟩
  go_wp2_with fail
  go_ret
  exact ⟨by first | rfl | (simp; done) | (simp [*]; done), (by with_reducible repeat (first | exact H1 | apply zha | apply zhd | apply zhn)), by
    with_reducible repeat (first | apply zsa | apply zsd | apply zsn)
    refine Stays.trans ?_ K1
    with_reducible repeat (first | apply zsa | apply zsd | apply zsn)
    exact Stays.refl _ _⟩

def rdQuiet : GM Bool :=
  tiPhase >>= fun ph =>
  if ph = 0 then
    lkSuspect >>= fun s =>
    if s then
      pure false
    else
      pure true
  else
    pure false

theorem rdQuiet_c {A : GA} {S : GS} {w : World} (H : Held A S w) {v0 : Bool} {T : GS} (e : rdQuiet S = (v0, T)) :
    Calls Tryz.prog 47 #[.pointer (some ⟨A.g, 0, none⟩)] w (Did A w (.bool v0) T) := by
  unfold rdQuiet at e
  replace e := GM.bind_eq e; obtain ⟨ph, S1, e1_, e⟩ := e; have e1 := Hd.mk e1_; clear e1_
  by_cases c2 : ph = 0
  · rw [if_pos c2] at e; subst c2
    replace e := GM.bind_eq e; obtain ⟨s, S3, e3_, e⟩ := e; have e3 := Hd.mk e3_; clear e3_
    by_cases c4 : s = true
    · rw [if_pos c4] at e; subst c4
      obtain ⟨hv, rfl⟩ := GM.pure_eq e
      obtain rfl := hv
      go_enter Tryz.func47, Tryz.ntmps47
      go_wp2_with fail
      with_reducible refine (tiPhase_c (by with_reducible repeat (first | exact H | apply zha | apply zhd | apply zhn)) e1.out).mono ?_
      rintro _ w1 ⟨rfl, H1, K1⟩
      go_wp2_with fail
      with_reducible refine (lkSuspect_c (by with_reducible repeat (first | exact H1 | apply zha | apply zhd | apply zhn)) e3.out).mono ?_
      rintro _ w3 ⟨rfl, H3, K3⟩
      go_wp2_with fail
      go_ret
      exact ⟨by first | rfl | (simp; done) | (simp [*]; done), (by with_reducible repeat (first | exact H3 | apply zha | apply zhd | apply zhn)), by
        with_reducible repeat (first | apply zsa | apply zsd | apply zsn)
        refine Stays.trans ?_ K3
        with_reducible repeat (first | apply zsa | apply zsd | apply zsn)
        refine Stays.trans ?_ K1
        with_reducible repeat (first | apply zsa | apply zsd | apply zsn)
        exact Stays.refl _ _⟩
    · rw [if_neg c4] at e; obtain rfl := eq_false_of_ne_true c4; clear c4
      obtain ⟨hv, rfl⟩ := GM.pure_eq e
      obtain rfl := hv
      go_enter Tryz.func47, Tryz.ntmps47
      go_wp2_with fail
      with_reducible refine (tiPhase_c (by with_reducible repeat (first | exact H | apply zha | apply zhd | apply zhn)) e1.out).mono ?_
      rintro _ w1 ⟨rfl, H1, K1⟩
      go_wp2_with fail
      with_reducible refine (lkSuspect_c (by with_reducible repeat (first | exact H1 | apply zha | apply zhd | apply zhn)) e3.out).mono ?_
      rintro _ w3 ⟨rfl, H3, K3⟩
      go_wp2_with fail
      go_ret
      exact ⟨by first | rfl | (simp; done) | (simp [*]; done), (by with_reducible repeat (first | exact H3 | apply zha | apply zhd | apply zhn)), by
        with_reducible repeat (first | apply zsa | apply zsd | apply zsn)
        refine Stays.trans ?_ K3
        with_reducible repeat (first | apply zsa | apply zsd | apply zsn)
        refine Stays.trans ?_ K1
        with_reducible repeat (first | apply zsa | apply zsd | apply zsn)
        exact Stays.refl _ _⟩
  · rw [if_neg c2] at e; have c2b : (ph == 0) = false := beq_eq_false_iff_ne.2 c2; have c2n : (ph != 0) = true := bne_iff_ne.2 c2
    obtain ⟨hv, rfl⟩ := GM.pure_eq e
    obtain rfl := hv
    go_enter Tryz.func47, Tryz.ntmps47
    go_wp2_with fail
    with_reducible refine (tiPhase_c (by with_reducible repeat (first | exact H | apply zha | apply zhd | apply zhn)) e1.out).mono ?_
    rintro _ w1 ⟨rfl, H1, K1⟩
    go_wp2_with fail
    go_ret
    exact ⟨by first | rfl | (simp; done) | (simp [*]; done), (by with_reducible repeat (first | exact H1 | apply zha | apply zhd | apply zhn)), by
      with_reducible repeat (first | apply zsa | apply zsd | apply zsn)
      refine Stays.trans ?_ K1
      with_reducible repeat (first | apply zsa | apply zsd | apply zsn)
      exact Stays.refl _ _⟩
end Go.Proofs.YtadhdjldcpkfiaaGreatDoor
