/- What the calls of grave and link do. Nothing is asked but that the ground lies there. -/
import Derived.Test.YtadhdjldcpkfiaaGreatDoorT4
namespace Go.Proofs.YtadhdjldcpkfiaaGreatDoor
set_option linter.unusedVariables false
set_option linter.unusedSimpArgs false
open Go.RowKit
set_option maxRecDepth 100000
set_option maxHeartbeats 1600000
def gvDrain (r : Int) (i : Int) : GM Unit :=
  obPtr r i >>= fun ⟨x, er⟩ =>
  if er = 0 then
    if x = 0 then
      pure ()
    else
      obSetPtr r i 0 >>= fun _ =>
      ctOf x >>= fun q =>
      if q = 0 then
        pure ()
      else
        tiCounted r i >>= fun cd =>
        if cd then
          tiLighten x >>= fun _ =>
          ctDown x >>= fun ⟨m, ok⟩ =>
          if ok then
            if m = 0 then
              gvBury x >>= fun _ =>
              pure ()
            else
              pure ()
          else
            pure ()
        else
          ctDown x >>= fun ⟨m, ok⟩ =>
          if ok then
            if m = 0 then
              gvBury x >>= fun _ =>
              pure ()
            else
              pure ()
          else
            pure ()
  else
    pure ()

theorem gvDrain_c {A : GA} {S : GS} {w : World} (H : Held A S w) {r : Int} {i : Int} {T : GS} (e : gvDrain r i S = ((), T)) :
    Calls Tryz.prog 192 #[.pointer (some ⟨A.g, 0, none⟩), .int .i64 r, .int .i64 i] w (Did A w (.tuple #[]) T) := by
  unfold gvDrain at e
  replace e := GM.bind_eq e; obtain ⟨⟨x, er⟩, S1, e1_, e⟩ := e; have e1 := Hd.mk e1_; clear e1_
  try dsimp only at e
  by_cases c2 : er = 0
  · rw [if_pos c2] at e; subst c2
    by_cases c3 : x = 0
    · rw [if_pos c3] at e; subst c3
      obtain ⟨hv, rfl⟩ := GM.pure_eq e
      clear hv
      go_enter Tryz.func192, Tryz.ntmps192
      go_wp2_with fail
      with_reducible refine (obPtr_c (by with_reducible repeat (first | exact H | apply zha | apply zhd | apply zhn)) e1.out).mono ?_
      rintro _ w1 ⟨⟨rfl, H1, K1⟩, rx0, rx1⟩
      go_wp2_with fail
      go_end0
      exact ⟨by first | rfl | (simp; done) | (simp [*]; done), (by with_reducible repeat (first | exact H1 | apply zha | apply zhd | apply zhn)), by
        with_reducible repeat (first | apply zsa | apply zsd | apply zsn)
        refine Stays.trans ?_ K1
        with_reducible repeat (first | apply zsa | apply zsd | apply zsn)
        exact Stays.refl _ _⟩
    · rw [if_neg c3] at e; have c3b : (x == 0) = false := beq_eq_false_iff_ne.2 c3; have c3n : (x != 0) = true := bne_iff_ne.2 c3
      replace e := GM.bind_eq e; obtain ⟨u4, S4, e4_, e⟩ := e; have e4 := Hd.mk e4_; clear e4_
      replace e := GM.bind_eq e; obtain ⟨q, S5, e5_, e⟩ := e; have e5 := Hd.mk e5_; clear e5_
      by_cases c6 : q = 0
      · rw [if_pos c6] at e; subst c6
        obtain ⟨hv, rfl⟩ := GM.pure_eq e
        clear hv
        go_enter Tryz.func192, Tryz.ntmps192
        go_wp2_with fail
        with_reducible refine (obPtr_c (by with_reducible repeat (first | exact H | apply zha | apply zhd | apply zhn)) e1.out).mono ?_
        rintro _ w1 ⟨⟨rfl, H1, K1⟩, rx0, rx1⟩
        go_wp2_with fail
        with_reducible refine (obSetPtr_c (by with_reducible repeat (first | exact H1 | apply zha | apply zhd | apply zhn)) e4.out).mono ?_
        rintro _ w4 ⟨rfl, H4, K4⟩
        go_wp2_with fail
        with_reducible refine (ctOf_c (by with_reducible repeat (first | exact H4 | apply zha | apply zhd | apply zhn)) e5.out).mono ?_
        rintro _ w5 ⟨⟨rfl, H5, K5⟩, rq0, rq1⟩
        go_wp2_with fail
        go_end0
        exact ⟨by first | rfl | (simp; done) | (simp [*]; done), (by with_reducible repeat (first | exact H5 | apply zha | apply zhd | apply zhn)), by
          with_reducible repeat (first | apply zsa | apply zsd | apply zsn)
          refine Stays.trans ?_ K5
          with_reducible repeat (first | apply zsa | apply zsd | apply zsn)
          refine Stays.trans ?_ K4
          with_reducible repeat (first | apply zsa | apply zsd | apply zsn)
          refine Stays.trans ?_ K1
          with_reducible repeat (first | apply zsa | apply zsd | apply zsn)
          exact Stays.refl _ _⟩
      · rw [if_neg c6] at e; have c6b : (q == 0) = false := beq_eq_false_iff_ne.2 c6; have c6n : (q != 0) = true := bne_iff_ne.2 c6
        replace e := GM.bind_eq e; obtain ⟨cd, S7, e7_, e⟩ := e; have e7 := Hd.mk e7_; clear e7_
        by_cases c8 : cd = true
        · rw [if_pos c8] at e; subst c8
          replace e := GM.bind_eq e; obtain ⟨u9, S9, e9_, e⟩ := e; have e9 := Hd.mk e9_; clear e9_
          replace e := GM.bind_eq e; obtain ⟨⟨m, ok⟩, S10, e10_, e⟩ := e; have e10 := Hd.mk e10_; clear e10_
          try dsimp only at e
          by_cases c11 : ok = true
          · rw [if_pos c11] at e; subst c11
            by_cases c12 : m = 0
            · rw [if_pos c12] at e; subst c12
              replace e := GM.bind_eq e; obtain ⟨u13, S13, e13_, e⟩ := e; have e13 := Hd.mk e13_; clear e13_
              obtain ⟨hv, rfl⟩ := GM.pure_eq e
              clear hv
              go_enter Tryz.func192, Tryz.ntmps192
              go_wp2_with fail
              with_reducible refine (obPtr_c (by with_reducible repeat (first | exact H | apply zha | apply zhd | apply zhn)) e1.out).mono ?_
              rintro _ w1 ⟨⟨rfl, H1, K1⟩, rx0, rx1⟩
              go_wp2_with fail
              with_reducible refine (obSetPtr_c (by with_reducible repeat (first | exact H1 | apply zha | apply zhd | apply zhn)) e4.out).mono ?_
              rintro _ w4 ⟨rfl, H4, K4⟩
              go_wp2_with fail
              with_reducible refine (ctOf_c (by with_reducible repeat (first | exact H4 | apply zha | apply zhd | apply zhn)) e5.out).mono ?_
              rintro _ w5 ⟨⟨rfl, H5, K5⟩, rq0, rq1⟩
              go_wp2_with fail
              with_reducible refine (tiCounted_c (by with_reducible repeat (first | exact H5 | apply zha | apply zhd | apply zhn)) e7.out).mono ?_
              rintro _ w7 ⟨rfl, H7, K7⟩
              go_wp2_with fail
              with_reducible refine (tiLighten_c (by with_reducible repeat (first | exact H7 | apply zha | apply zhd | apply zhn)) e9.out).mono ?_
              rintro _ w9 ⟨rfl, H9, K9⟩
              go_wp2_with fail
              with_reducible refine (ctDown_c (by with_reducible repeat (first | exact H9 | apply zha | apply zhd | apply zhn)) e10.out).mono ?_
              rintro _ w10 ⟨rfl, H10, K10⟩
              go_wp2_with fail
              with_reducible refine (gvBury_c (by with_reducible repeat (first | exact H10 | apply zha | apply zhd | apply zhn)) e13.out).mono ?_
              rintro _ w13 ⟨rfl, H13, K13⟩
              go_wp2_with fail
              go_end0
              exact ⟨by first | rfl | (simp; done) | (simp [*]; done), (by with_reducible repeat (first | exact H13 | apply zha | apply zhd | apply zhn)), by
                with_reducible repeat (first | apply zsa | apply zsd | apply zsn)
                refine Stays.trans ?_ K13
                with_reducible repeat (first | apply zsa | apply zsd | apply zsn)
                refine Stays.trans ?_ K10
                with_reducible repeat (first | apply zsa | apply zsd | apply zsn)
                refine Stays.trans ?_ K9
                with_reducible repeat (first | apply zsa | apply zsd | apply zsn)
                refine Stays.trans ?_ K7
                with_reducible repeat (first | apply zsa | apply zsd | apply zsn)
                refine Stays.trans ?_ K5
                with_reducible repeat (first | apply zsa | apply zsd | apply zsn)
                refine Stays.trans ?_ K4
                with_reducible repeat (first | apply zsa | apply zsd | apply zsn)
                refine Stays.trans ?_ K1
                with_reducible repeat (first | apply zsa | apply zsd | apply zsn)
                exact Stays.refl _ _⟩
            · rw [if_neg c12] at e; have c12b : (m == 0) = false := beq_eq_false_iff_ne.2 c12; have c12n : (m != 0) = true := bne_iff_ne.2 c12
              obtain ⟨hv, rfl⟩ := GM.pure_eq e
              clear hv
              go_enter Tryz.func192, Tryz.ntmps192
              go_wp2_with fail
              with_reducible refine (obPtr_c (by with_reducible repeat (first | exact H | apply zha | apply zhd | apply zhn)) e1.out).mono ?_
              rintro _ w1 ⟨⟨rfl, H1, K1⟩, rx0, rx1⟩
              go_wp2_with fail
              with_reducible refine (obSetPtr_c (by with_reducible repeat (first | exact H1 | apply zha | apply zhd | apply zhn)) e4.out).mono ?_
              rintro _ w4 ⟨rfl, H4, K4⟩
              go_wp2_with fail
              with_reducible refine (ctOf_c (by with_reducible repeat (first | exact H4 | apply zha | apply zhd | apply zhn)) e5.out).mono ?_
              rintro _ w5 ⟨⟨rfl, H5, K5⟩, rq0, rq1⟩
              go_wp2_with fail
              with_reducible refine (tiCounted_c (by with_reducible repeat (first | exact H5 | apply zha | apply zhd | apply zhn)) e7.out).mono ?_
              rintro _ w7 ⟨rfl, H7, K7⟩
              go_wp2_with fail
              with_reducible refine (tiLighten_c (by with_reducible repeat (first | exact H7 | apply zha | apply zhd | apply zhn)) e9.out).mono ?_
              rintro _ w9 ⟨rfl, H9, K9⟩
              go_wp2_with fail
              with_reducible refine (ctDown_c (by with_reducible repeat (first | exact H9 | apply zha | apply zhd | apply zhn)) e10.out).mono ?_
              rintro _ w10 ⟨rfl, H10, K10⟩
              go_wp2_with fail
              go_end0
              exact ⟨by first | rfl | (simp; done) | (simp [*]; done), (by with_reducible repeat (first | exact H10 | apply zha | apply zhd | apply zhn)), by
                with_reducible repeat (first | apply zsa | apply zsd | apply zsn)
                refine Stays.trans ?_ K10
                with_reducible repeat (first | apply zsa | apply zsd | apply zsn)
                refine Stays.trans ?_ K9
                with_reducible repeat (first | apply zsa | apply zsd | apply zsn)
                refine Stays.trans ?_ K7
                with_reducible repeat (first | apply zsa | apply zsd | apply zsn)
                refine Stays.trans ?_ K5
                with_reducible repeat (first | apply zsa | apply zsd | apply zsn)
                refine Stays.trans ?_ K4
                with_reducible repeat (first | apply zsa | apply zsd | apply zsn)
                refine Stays.trans ?_ K1
                with_reducible repeat (first | apply zsa | apply zsd | apply zsn)
                exact Stays.refl _ _⟩
          · rw [if_neg c11] at e; obtain rfl := eq_false_of_ne_true c11; clear c11
            obtain ⟨hv, rfl⟩ := GM.pure_eq e
            clear hv
            go_enter Tryz.func192, Tryz.ntmps192
            go_wp2_with fail
            with_reducible refine (obPtr_c (by with_reducible repeat (first | exact H | apply zha | apply zhd | apply zhn)) e1.out).mono ?_
            rintro _ w1 ⟨⟨rfl, H1, K1⟩, rx0, rx1⟩
            go_wp2_with fail
            with_reducible refine (obSetPtr_c (by with_reducible repeat (first | exact H1 | apply zha | apply zhd | apply zhn)) e4.out).mono ?_
            rintro _ w4 ⟨rfl, H4, K4⟩
            go_wp2_with fail
            with_reducible refine (ctOf_c (by with_reducible repeat (first | exact H4 | apply zha | apply zhd | apply zhn)) e5.out).mono ?_
            rintro _ w5 ⟨⟨rfl, H5, K5⟩, rq0, rq1⟩
            go_wp2_with fail
            with_reducible refine (tiCounted_c (by with_reducible repeat (first | exact H5 | apply zha | apply zhd | apply zhn)) e7.out).mono ?_
            rintro _ w7 ⟨rfl, H7, K7⟩
            go_wp2_with fail
            with_reducible refine (tiLighten_c (by with_reducible repeat (first | exact H7 | apply zha | apply zhd | apply zhn)) e9.out).mono ?_
            rintro _ w9 ⟨rfl, H9, K9⟩
            go_wp2_with fail
            with_reducible refine (ctDown_c (by with_reducible repeat (first | exact H9 | apply zha | apply zhd | apply zhn)) e10.out).mono ?_
            rintro _ w10 ⟨rfl, H10, K10⟩
            go_wp2_with fail
            go_end0
            exact ⟨by first | rfl | (simp; done) | (simp [*]; done), (by with_reducible repeat (first | exact H10 | apply zha | apply zhd | apply zhn)), by
              with_reducible repeat (first | apply zsa | apply zsd | apply zsn)
              refine Stays.trans ?_ K10
              with_reducible repeat (first | apply zsa | apply zsd | apply zsn)
              refine Stays.trans ?_ K9
              with_reducible repeat (first | apply zsa | apply zsd | apply zsn)
              refine Stays.trans ?_ K7
              with_reducible repeat (first | apply zsa | apply zsd | apply zsn)
              refine Stays.trans ?_ K5
              with_reducible repeat (first | apply zsa | apply zsd | apply zsn)
              refine Stays.trans ?_ K4
              with_reducible repeat (first | apply zsa | apply zsd | apply zsn)
              refine Stays.trans ?_ K1
              with_reducible repeat (first | apply zsa | apply zsd | apply zsn)
              exact Stays.refl _ _⟩
        · rw [if_neg c8] at e; obtain rfl := eq_false_of_ne_true c8; clear c8
          replace e := GM.bind_eq e; obtain ⟨⟨m, ok⟩, S9, e9_, e⟩ := e; have e9 := Hd.mk e9_; clear e9_
          try dsimp only at e
          by_cases c10 : ok = true
          · rw [if_pos c10] at e; subst c10
            by_cases c11 : m = 0
            · rw [if_pos c11] at e; subst c11
              replace e := GM.bind_eq e; obtain ⟨u12, S12, e12_, e⟩ := e; have e12 := Hd.mk e12_; clear e12_
              obtain ⟨hv, rfl⟩ := GM.pure_eq e
              clear hv
              go_enter Tryz.func192, Tryz.ntmps192
              go_wp2_with fail
              with_reducible refine (obPtr_c (by with_reducible repeat (first | exact H | apply zha | apply zhd | apply zhn)) e1.out).mono ?_
              rintro _ w1 ⟨⟨rfl, H1, K1⟩, rx0, rx1⟩
              go_wp2_with fail
              with_reducible refine (obSetPtr_c (by with_reducible repeat (first | exact H1 | apply zha | apply zhd | apply zhn)) e4.out).mono ?_
              rintro _ w4 ⟨rfl, H4, K4⟩
              go_wp2_with fail
              with_reducible refine (ctOf_c (by with_reducible repeat (first | exact H4 | apply zha | apply zhd | apply zhn)) e5.out).mono ?_
              rintro _ w5 ⟨⟨rfl, H5, K5⟩, rq0, rq1⟩
              go_wp2_with fail
              with_reducible refine (tiCounted_c (by with_reducible repeat (first | exact H5 | apply zha | apply zhd | apply zhn)) e7.out).mono ?_
              rintro _ w7 ⟨rfl, H7, K7⟩
              go_wp2_with fail
              with_reducible refine (ctDown_c (by with_reducible repeat (first | exact H7 | apply zha | apply zhd | apply zhn)) e9.out).mono ?_
              rintro _ w9 ⟨rfl, H9, K9⟩
              go_wp2_with fail
              with_reducible refine (gvBury_c (by with_reducible repeat (first | exact H9 | apply zha | apply zhd | apply zhn)) e12.out).mono ?_
              rintro _ w12 ⟨rfl, H12, K12⟩
              go_wp2_with fail
              go_end0
              exact ⟨by first | rfl | (simp; done) | (simp [*]; done), (by with_reducible repeat (first | exact H12 | apply zha | apply zhd | apply zhn)), by
                with_reducible repeat (first | apply zsa | apply zsd | apply zsn)
                refine Stays.trans ?_ K12
                with_reducible repeat (first | apply zsa | apply zsd | apply zsn)
                refine Stays.trans ?_ K9
                with_reducible repeat (first | apply zsa | apply zsd | apply zsn)
                refine Stays.trans ?_ K7
                with_reducible repeat (first | apply zsa | apply zsd | apply zsn)
                refine Stays.trans ?_ K5
                with_reducible repeat (first | apply zsa | apply zsd | apply zsn)
                refine Stays.trans ?_ K4
                with_reducible repeat (first | apply zsa | apply zsd | apply zsn)
                refine Stays.trans ?_ K1
                with_reducible repeat (first | apply zsa | apply zsd | apply zsn)
                exact Stays.refl _ _⟩
            · rw [if_neg c11] at e; have c11b : (m == 0) = false := beq_eq_false_iff_ne.2 c11; have c11n : (m != 0) = true := bne_iff_ne.2 c11
              obtain ⟨hv, rfl⟩ := GM.pure_eq e
              clear hv
              go_enter Tryz.func192, Tryz.ntmps192
              go_wp2_with fail
              with_reducible refine (obPtr_c (by with_reducible repeat (first | exact H | apply zha | apply zhd | apply zhn)) e1.out).mono ?_
              rintro _ w1 ⟨⟨rfl, H1, K1⟩, rx0, rx1⟩
              go_wp2_with fail
              with_reducible refine (obSetPtr_c (by with_reducible repeat (first | exact H1 | apply zha | apply zhd | apply zhn)) e4.out).mono ?_
              rintro _ w4 ⟨rfl, H4, K4⟩
              go_wp2_with fail
              with_reducible refine (ctOf_c (by with_reducible repeat (first | exact H4 | apply zha | apply zhd | apply zhn)) e5.out).mono ?_
              rintro _ w5 ⟨⟨rfl, H5, K5⟩, rq0, rq1⟩
              go_wp2_with fail
              with_reducible refine (tiCounted_c (by with_reducible repeat (first | exact H5 | apply zha | apply zhd | apply zhn)) e7.out).mono ?_
              rintro _ w7 ⟨rfl, H7, K7⟩
              go_wp2_with fail
              with_reducible refine (ctDown_c (by with_reducible repeat (first | exact H7 | apply zha | apply zhd | apply zhn)) e9.out).mono ?_
              rintro _ w9 ⟨rfl, H9, K9⟩
              go_wp2_with fail
              go_end0
              exact ⟨by first | rfl | (simp; done) | (simp [*]; done), (by with_reducible repeat (first | exact H9 | apply zha | apply zhd | apply zhn)), by
                with_reducible repeat (first | apply zsa | apply zsd | apply zsn)
                refine Stays.trans ?_ K9
                with_reducible repeat (first | apply zsa | apply zsd | apply zsn)
                refine Stays.trans ?_ K7
                with_reducible repeat (first | apply zsa | apply zsd | apply zsn)
                refine Stays.trans ?_ K5
                with_reducible repeat (first | apply zsa | apply zsd | apply zsn)
                refine Stays.trans ?_ K4
                with_reducible repeat (first | apply zsa | apply zsd | apply zsn)
                refine Stays.trans ?_ K1
                with_reducible repeat (first | apply zsa | apply zsd | apply zsn)
                exact Stays.refl _ _⟩
          · rw [if_neg c10] at e; obtain rfl := eq_false_of_ne_true c10; clear c10
            obtain ⟨hv, rfl⟩ := GM.pure_eq e
            clear hv
            go_enter Tryz.func192, Tryz.ntmps192
            go_wp2_with fail
            with_reducible refine (obPtr_c (by with_reducible repeat (first | exact H | apply zha | apply zhd | apply zhn)) e1.out).mono ?_
            rintro _ w1 ⟨⟨rfl, H1, K1⟩, rx0, rx1⟩
            go_wp2_with fail
            with_reducible refine (obSetPtr_c (by with_reducible repeat (first | exact H1 | apply zha | apply zhd | apply zhn)) e4.out).mono ?_
            rintro _ w4 ⟨rfl, H4, K4⟩
            go_wp2_with fail
            with_reducible refine (ctOf_c (by with_reducible repeat (first | exact H4 | apply zha | apply zhd | apply zhn)) e5.out).mono ?_
            rintro _ w5 ⟨⟨rfl, H5, K5⟩, rq0, rq1⟩
            go_wp2_with fail
            with_reducible refine (tiCounted_c (by with_reducible repeat (first | exact H5 | apply zha | apply zhd | apply zhn)) e7.out).mono ?_
            rintro _ w7 ⟨rfl, H7, K7⟩
            go_wp2_with fail
            with_reducible refine (ctDown_c (by with_reducible repeat (first | exact H7 | apply zha | apply zhd | apply zhn)) e9.out).mono ?_
            rintro _ w9 ⟨rfl, H9, K9⟩
            go_wp2_with fail
            go_end0
            exact ⟨by first | rfl | (simp; done) | (simp [*]; done), (by with_reducible repeat (first | exact H9 | apply zha | apply zhd | apply zhn)), by
              with_reducible repeat (first | apply zsa | apply zsd | apply zsn)
              refine Stays.trans ?_ K9
              with_reducible repeat (first | apply zsa | apply zsd | apply zsn)
              refine Stays.trans ?_ K7
              with_reducible repeat (first | apply zsa | apply zsd | apply zsn)
              refine Stays.trans ?_ K5
              with_reducible repeat (first | apply zsa | apply zsd | apply zsn)
              refine Stays.trans ?_ K4
              with_reducible repeat (first | apply zsa | apply zsd | apply zsn)
              refine Stays.trans ?_ K1
              with_reducible repeat (first | apply zsa | apply zsd | apply zsn)
              exact Stays.refl _ _⟩
  · rw [if_neg c2] at e; have c2b : (er == 0) = false := beq_eq_false_iff_ne.2 c2; have c2n : (er != 0) = true := bne_iff_ne.2 c2
    obtain ⟨hv, rfl⟩ := GM.pure_eq e
    clear hv
    go_enter Tryz.func192, Tryz.ntmps192
    go_wp2_with fail
    with_reducible refine (obPtr_c (by with_reducible repeat (first | exact H | apply zha | apply zhd | apply zhn)) e1.out).mono ?_
    rintro _ w1 ⟨⟨rfl, H1, K1⟩, rx0, rx1⟩
    go_wp2_with fail
    go_end0
    exact ⟨by first | rfl | (simp; done) | (simp [*]; done), (by with_reducible repeat (first | exact H1 | apply zha | apply zhd | apply zhn)), by
      with_reducible repeat (first | apply zsa | apply zsd | apply zsn)
      refine Stays.trans ?_ K1
      with_reducible repeat (first | apply zsa | apply zsd | apply zsn)
      exact Stays.refl _ _⟩

def gvWork : GM (Bool × Bool) :=
  chFirst 1 >>= fun ⟨b, ok⟩ =>
  if ok then
    Word b 6 >>= fun n =>
    Word b 7 >>= fun l =>
    if l > 0 then
      getS >>= fun c =>
      if n > (l - 1) * (c.w - 1) then
        SetWord b 6 (n - 1) >>= fun _ =>
        gvDrain (b + 1) (n - 1) >>= fun _ =>
        pure (false, true)
      else
        Reg 6 >>= fun pd =>
        SetReg 6 (pd - 1) >>= fun _ =>
        SetWord b 7 (l - 1) >>= fun _ =>
        obShed (b + 1) (l - 1) >>= fun _ =>
        pure (true, true)
    else
      if n > 0 then
        SetWord b 6 (n - 1) >>= fun _ =>
        gvDrain (b + 1) (n - 1) >>= fun _ =>
        pure (false, true)
      else
        Reg 6 >>= fun pd =>
        SetReg 6 (pd - 1) >>= fun _ =>
        chTake 1 >>= fun ⟨u, z⟩ =>
        obEnd (b + 1) >>= fun _ =>
        pure (true, true)
  else
    pure (false, false)

theorem gvWork_c {A : GA} {S : GS} {w : World} (H : Held A S w) {v0 : Bool} {v1 : Bool} {T : GS} (e : gvWork S = ((v0, v1), T)) :
    Calls Tryz.prog 113 #[.pointer (some ⟨A.g, 0, none⟩)] w (Did A w (.tuple #[.bool v0, .bool v1]) T) := by
  unfold gvWork at e
  replace e := GM.bind_eq e; obtain ⟨⟨b, ok⟩, S1, e1_, e⟩ := e; have e1 := Hd.mk e1_; clear e1_
  try dsimp only at e
  by_cases c2 : ok = true
  · rw [if_pos c2] at e; subst c2
    replace e := GM.bind_eq e; obtain ⟨n, S3, e3_, e⟩ := e; have e3 := Hd.mk e3_; clear e3_
    replace e := GM.bind_eq e; obtain ⟨l, S4, e4_, e⟩ := e; have e4 := Hd.mk e4_; clear e4_
    by_cases c5 : l > 0
    · rw [if_pos c5] at e
      replace e := GM.bind_eq e; obtain ⟨c, S6, e6, e⟩ := e
      obtain ⟨rfl, rfl⟩ := getS_eq e6
      by_cases c7 : n > (l - 1) * (S4.w - 1)
      · rw [if_pos c7] at e
        replace e := GM.bind_eq e; obtain ⟨u8, S8, e8_, e⟩ := e; have e8 := Hd.mk e8_; clear e8_
        replace e := GM.bind_eq e; obtain ⟨u9, S9, e9_, e⟩ := e; have e9 := Hd.mk e9_; clear e9_
        obtain ⟨hv, rfl⟩ := GM.pure_eq e
        cases hv
        go_enter Tryz.func113, Tryz.ntmps113
        go_wp2_with fail
        with_reducible refine (chFirst_c (by with_reducible repeat (first | exact H | apply zha | apply zhd | apply zhn)) (by omega) (by omega) e1.out).mono ?_
        rintro _ w1 ⟨rfl, H1, K1⟩
        obtain ⟨rb0, rb1⟩ := chFirst_range H.ok e1.out
        go_wp2_with fail
        with_reducible refine (Word_c (by with_reducible repeat (first | exact H1 | apply zha | apply zhd | apply zhn)) e3.out).mono ?_
        rintro _ w3 ⟨rfl, H3, K3⟩
        obtain ⟨rn0, rn1⟩ := stGet_range (H1).ok e3.out
        go_wp2_with fail
        with_reducible refine (Word_c (by with_reducible repeat (first | exact H3 | apply zha | apply zhd | apply zhn)) e4.out).mono ?_
        rintro _ w4 ⟨rfl, H4, K4⟩
        obtain ⟨rl0, rl1⟩ := stGet_range (H3).ok e4.out
        go_wp2_with fail
        refine (conf_c (by with_reducible repeat (first | exact H4 | apply zha | apply zhd | apply zhn))).mono ?_
        rintro _ w6 ⟨rfl, H6, K6⟩
        have hw1 := H6.ok.w1
        have hw2 := H6.ok.w2
        obtain ⟨hm0, hm1⟩ := mul_range (l := l) (by omega) (by omega) H6.ok.w1 H6.ok.w2
        go_wp2_with fail
        with_reducible refine (SetWord_c (by with_reducible repeat (first | exact H6 | apply zha | apply zhd | apply zhn)) (by omega) (by omega) e8.out).mono ?_
        rintro _ w8 ⟨rfl, H8, K8⟩
        go_wp2_with fail
        with_reducible refine (gvDrain_c (by with_reducible repeat (first | exact H8 | apply zha | apply zhd | apply zhn)) e9.out).mono ?_
        rintro _ w9 ⟨rfl, H9, K9⟩
        go_wp2_with fail
        go_ret2
        exact ⟨by first | rfl | (simp; done) | (simp [*]; done), (by with_reducible repeat (first | exact H9 | apply zha | apply zhd | apply zhn)), by
          with_reducible repeat (first | apply zsa | apply zsd | apply zsn)
          refine Stays.trans ?_ K9
          with_reducible repeat (first | apply zsa | apply zsd | apply zsn)
          refine Stays.trans ?_ K8
          with_reducible repeat (first | apply zsa | apply zsd | apply zsn)
          refine Stays.trans ?_ K6
          with_reducible repeat (first | apply zsa | apply zsd | apply zsn)
          refine Stays.trans ?_ K4
          with_reducible repeat (first | apply zsa | apply zsd | apply zsn)
          refine Stays.trans ?_ K3
          with_reducible repeat (first | apply zsa | apply zsd | apply zsn)
          refine Stays.trans ?_ K1
          with_reducible repeat (first | apply zsa | apply zsd | apply zsn)
          exact Stays.refl _ _⟩
      · rw [if_neg c7] at e
        replace e := GM.bind_eq e; obtain ⟨pd, S8, e8_, e⟩ := e; have e8 := Hd.mk e8_; clear e8_
        replace e := GM.bind_eq e; obtain ⟨u9, S9, e9_, e⟩ := e; have e9 := Hd.mk e9_; clear e9_
        replace e := GM.bind_eq e; obtain ⟨u10, S10, e10_, e⟩ := e; have e10 := Hd.mk e10_; clear e10_
        replace e := GM.bind_eq e; obtain ⟨u11, S11, e11_, e⟩ := e; have e11 := Hd.mk e11_; clear e11_
        obtain ⟨hv, rfl⟩ := GM.pure_eq e
        cases hv
        go_enter Tryz.func113, Tryz.ntmps113
        go_wp2_with fail
        with_reducible refine (chFirst_c (by with_reducible repeat (first | exact H | apply zha | apply zhd | apply zhn)) (by omega) (by omega) e1.out).mono ?_
        rintro _ w1 ⟨rfl, H1, K1⟩
        obtain ⟨rb0, rb1⟩ := chFirst_range H.ok e1.out
        go_wp2_with fail
        with_reducible refine (Word_c (by with_reducible repeat (first | exact H1 | apply zha | apply zhd | apply zhn)) e3.out).mono ?_
        rintro _ w3 ⟨rfl, H3, K3⟩
        obtain ⟨rn0, rn1⟩ := stGet_range (H1).ok e3.out
        go_wp2_with fail
        with_reducible refine (Word_c (by with_reducible repeat (first | exact H3 | apply zha | apply zhd | apply zhn)) e4.out).mono ?_
        rintro _ w4 ⟨rfl, H4, K4⟩
        obtain ⟨rl0, rl1⟩ := stGet_range (H3).ok e4.out
        go_wp2_with fail
        refine (conf_c (by with_reducible repeat (first | exact H4 | apply zha | apply zhd | apply zhn))).mono ?_
        rintro _ w6 ⟨rfl, H6, K6⟩
        have hw1 := H6.ok.w1
        have hw2 := H6.ok.w2
        obtain ⟨hm0, hm1⟩ := mul_range (l := l) (by omega) (by omega) H6.ok.w1 H6.ok.w2
        go_wp2_with fail
        with_reducible refine (Reg_c (by with_reducible repeat (first | exact H6 | apply zha | apply zhd | apply zhn)) e8.out).mono ?_
        rintro _ w8 ⟨rfl, H8, K8⟩
        obtain ⟨rpd0, rpd1⟩ := stGet_range (H6).ok e8.out
        go_wp2_with fail
        with_reducible refine (SetReg_c (by with_reducible repeat (first | exact H8 | apply zha | apply zhd | apply zhn)) e9.out).mono ?_
        rintro _ w9 ⟨rfl, H9, K9⟩
        go_wp2_with fail
        with_reducible refine (SetWord_c (by with_reducible repeat (first | exact H9 | apply zha | apply zhd | apply zhn)) (by omega) (by omega) e10.out).mono ?_
        rintro _ w10 ⟨rfl, H10, K10⟩
        go_wp2_with fail
        with_reducible refine (obShed_c (by with_reducible repeat (first | exact H10 | apply zha | apply zhd | apply zhn)) e11.out).mono ?_
        rintro _ w11 ⟨rfl, H11, K11⟩
        go_wp2_with fail
        go_ret2
        exact ⟨by first | rfl | (simp; done) | (simp [*]; done), (by with_reducible repeat (first | exact H11 | apply zha | apply zhd | apply zhn)), by
          with_reducible repeat (first | apply zsa | apply zsd | apply zsn)
          refine Stays.trans ?_ K11
          with_reducible repeat (first | apply zsa | apply zsd | apply zsn)
          refine Stays.trans ?_ K10
          with_reducible repeat (first | apply zsa | apply zsd | apply zsn)
          refine Stays.trans ?_ K9
          with_reducible repeat (first | apply zsa | apply zsd | apply zsn)
          refine Stays.trans ?_ K8
          with_reducible repeat (first | apply zsa | apply zsd | apply zsn)
          refine Stays.trans ?_ K6
          with_reducible repeat (first | apply zsa | apply zsd | apply zsn)
          refine Stays.trans ?_ K4
          with_reducible repeat (first | apply zsa | apply zsd | apply zsn)
          refine Stays.trans ?_ K3
          with_reducible repeat (first | apply zsa | apply zsd | apply zsn)
          refine Stays.trans ?_ K1
          with_reducible repeat (first | apply zsa | apply zsd | apply zsn)
          exact Stays.refl _ _⟩
    · rw [if_neg c5] at e
      by_cases c6 : n > 0
      · rw [if_pos c6] at e
        replace e := GM.bind_eq e; obtain ⟨u7, S7, e7_, e⟩ := e; have e7 := Hd.mk e7_; clear e7_
        replace e := GM.bind_eq e; obtain ⟨u8, S8, e8_, e⟩ := e; have e8 := Hd.mk e8_; clear e8_
        obtain ⟨hv, rfl⟩ := GM.pure_eq e
        cases hv
        go_enter Tryz.func113, Tryz.ntmps113
        go_wp2_with fail
        with_reducible refine (chFirst_c (by with_reducible repeat (first | exact H | apply zha | apply zhd | apply zhn)) (by omega) (by omega) e1.out).mono ?_
        rintro _ w1 ⟨rfl, H1, K1⟩
        obtain ⟨rb0, rb1⟩ := chFirst_range H.ok e1.out
        go_wp2_with fail
        with_reducible refine (Word_c (by with_reducible repeat (first | exact H1 | apply zha | apply zhd | apply zhn)) e3.out).mono ?_
        rintro _ w3 ⟨rfl, H3, K3⟩
        obtain ⟨rn0, rn1⟩ := stGet_range (H1).ok e3.out
        go_wp2_with fail
        with_reducible refine (Word_c (by with_reducible repeat (first | exact H3 | apply zha | apply zhd | apply zhn)) e4.out).mono ?_
        rintro _ w4 ⟨rfl, H4, K4⟩
        obtain ⟨rl0, rl1⟩ := stGet_range (H3).ok e4.out
        go_wp2_with fail
        with_reducible refine (SetWord_c (by with_reducible repeat (first | exact H4 | apply zha | apply zhd | apply zhn)) (by omega) (by omega) e7.out).mono ?_
        rintro _ w7 ⟨rfl, H7, K7⟩
        go_wp2_with fail
        with_reducible refine (gvDrain_c (by with_reducible repeat (first | exact H7 | apply zha | apply zhd | apply zhn)) e8.out).mono ?_
        rintro _ w8 ⟨rfl, H8, K8⟩
        go_wp2_with fail
        go_ret2
        exact ⟨by first | rfl | (simp; done) | (simp [*]; done), (by with_reducible repeat (first | exact H8 | apply zha | apply zhd | apply zhn)), by
          with_reducible repeat (first | apply zsa | apply zsd | apply zsn)
          refine Stays.trans ?_ K8
          with_reducible repeat (first | apply zsa | apply zsd | apply zsn)
          refine Stays.trans ?_ K7
          with_reducible repeat (first | apply zsa | apply zsd | apply zsn)
          refine Stays.trans ?_ K4
          with_reducible repeat (first | apply zsa | apply zsd | apply zsn)
          refine Stays.trans ?_ K3
          with_reducible repeat (first | apply zsa | apply zsd | apply zsn)
          refine Stays.trans ?_ K1
          with_reducible repeat (first | apply zsa | apply zsd | apply zsn)
          exact Stays.refl _ _⟩
      · rw [if_neg c6] at e
        replace e := GM.bind_eq e; obtain ⟨pd, S7, e7_, e⟩ := e; have e7 := Hd.mk e7_; clear e7_
        replace e := GM.bind_eq e; obtain ⟨u8, S8, e8_, e⟩ := e; have e8 := Hd.mk e8_; clear e8_
        replace e := GM.bind_eq e; obtain ⟨⟨u, z⟩, S9, e9_, e⟩ := e; have e9 := Hd.mk e9_; clear e9_
        try dsimp only at e
        replace e := GM.bind_eq e; obtain ⟨u10, S10, e10_, e⟩ := e; have e10 := Hd.mk e10_; clear e10_
        obtain ⟨hv, rfl⟩ := GM.pure_eq e
        cases hv
        go_enter Tryz.func113, Tryz.ntmps113
        go_wp2_with fail
        with_reducible refine (chFirst_c (by with_reducible repeat (first | exact H | apply zha | apply zhd | apply zhn)) (by omega) (by omega) e1.out).mono ?_
        rintro _ w1 ⟨rfl, H1, K1⟩
        obtain ⟨rb0, rb1⟩ := chFirst_range H.ok e1.out
        go_wp2_with fail
        with_reducible refine (Word_c (by with_reducible repeat (first | exact H1 | apply zha | apply zhd | apply zhn)) e3.out).mono ?_
        rintro _ w3 ⟨rfl, H3, K3⟩
        obtain ⟨rn0, rn1⟩ := stGet_range (H1).ok e3.out
        go_wp2_with fail
        with_reducible refine (Word_c (by with_reducible repeat (first | exact H3 | apply zha | apply zhd | apply zhn)) e4.out).mono ?_
        rintro _ w4 ⟨rfl, H4, K4⟩
        obtain ⟨rl0, rl1⟩ := stGet_range (H3).ok e4.out
        go_wp2_with fail
        with_reducible refine (Reg_c (by with_reducible repeat (first | exact H4 | apply zha | apply zhd | apply zhn)) e7.out).mono ?_
        rintro _ w7 ⟨rfl, H7, K7⟩
        obtain ⟨rpd0, rpd1⟩ := stGet_range (H4).ok e7.out
        go_wp2_with fail
        with_reducible refine (SetReg_c (by with_reducible repeat (first | exact H7 | apply zha | apply zhd | apply zhn)) e8.out).mono ?_
        rintro _ w8 ⟨rfl, H8, K8⟩
        go_wp2_with fail
        with_reducible refine (chTake_c (by with_reducible repeat (first | exact H8 | apply zha | apply zhd | apply zhn)) (by omega) (by omega) e9.out).mono ?_
        rintro _ w9 ⟨rfl, H9, K9⟩
        go_wp2_with fail
        with_reducible refine (obEnd_c (by with_reducible repeat (first | exact H9 | apply zha | apply zhd | apply zhn)) e10.out).mono ?_
        rintro _ w10 ⟨rfl, H10, K10⟩
        go_wp2_with fail
        go_ret2
        exact ⟨by first | rfl | (simp; done) | (simp [*]; done), (by with_reducible repeat (first | exact H10 | apply zha | apply zhd | apply zhn)), by
          with_reducible repeat (first | apply zsa | apply zsd | apply zsn)
          refine Stays.trans ?_ K10
          with_reducible repeat (first | apply zsa | apply zsd | apply zsn)
          refine Stays.trans ?_ K9
          with_reducible repeat (first | apply zsa | apply zsd | apply zsn)
          refine Stays.trans ?_ K8
          with_reducible repeat (first | apply zsa | apply zsd | apply zsn)
          refine Stays.trans ?_ K7
          with_reducible repeat (first | apply zsa | apply zsd | apply zsn)
          refine Stays.trans ?_ K4
          with_reducible repeat (first | apply zsa | apply zsd | apply zsn)
          refine Stays.trans ?_ K3
          with_reducible repeat (first | apply zsa | apply zsd | apply zsn)
          refine Stays.trans ?_ K1
          with_reducible repeat (first | apply zsa | apply zsd | apply zsn)
          exact Stays.refl _ _⟩
  · rw [if_neg c2] at e; obtain rfl := eq_false_of_ne_true c2; clear c2
    obtain ⟨hv, rfl⟩ := GM.pure_eq e
    cases hv
    go_enter Tryz.func113, Tryz.ntmps113
    go_wp2_with fail
    with_reducible refine (chFirst_c (by with_reducible repeat (first | exact H | apply zha | apply zhd | apply zhn)) (by omega) (by omega) e1.out).mono ?_
    rintro _ w1 ⟨rfl, H1, K1⟩
    obtain ⟨rb0, rb1⟩ := chFirst_range H.ok e1.out
    go_wp2_with fail
    go_ret2
    exact ⟨by first | rfl | (simp; done) | (simp [*]; done), (by with_reducible repeat (first | exact H1 | apply zha | apply zhd | apply zhn)), by
      with_reducible repeat (first | apply zsa | apply zsd | apply zsn)
      refine Stays.trans ?_ K1
      with_reducible repeat (first | apply zsa | apply zsd | apply zsn)
      exact Stays.refl _ _⟩

def gvStep : GM Bool :=
  gvWork >>= fun ⟨a, ok⟩ =>
  pure ok

theorem gvStep_c {A : GA} {S : GS} {w : World} (H : Held A S w) {v0 : Bool} {T : GS} (e : gvStep S = (v0, T)) :
    Calls Tryz.prog 33 #[.pointer (some ⟨A.g, 0, none⟩)] w (Did A w (.bool v0) T) := by
  unfold gvStep at e
  replace e := GM.bind_eq e; obtain ⟨⟨a, ok⟩, S1, e1_, e⟩ := e; have e1 := Hd.mk e1_; clear e1_
  try dsimp only at e
  obtain ⟨hv, rfl⟩ := GM.pure_eq e
  obtain rfl := hv
  go_enter Tryz.func33, Tryz.ntmps33
  go_wp2_with fail
  with_reducible refine (gvWork_c (by with_reducible repeat (first | exact H | apply zha | apply zhd | apply zhn)) e1.out).mono ?_
  rintro _ w1 ⟨rfl, H1, K1⟩
  go_wp2_with fail
  go_ret
  exact ⟨by first | rfl | (simp; done) | (simp [*]; done), (by with_reducible repeat (first | exact H1 | apply zha | apply zhd | apply zhn)), by
    with_reducible repeat (first | apply zsa | apply zsd | apply zsn)
    refine Stays.trans ?_ K1
    with_reducible repeat (first | apply zsa | apply zsd | apply zsn)
    exact Stays.refl _ _⟩

def gvPending : GM Int :=
  Reg 6 >>= fun n =>
  pure n

theorem gvPending_c {A : GA} {S : GS} {w : World} (H : Held A S w) {v0 : Int} {T : GS} (e : gvPending S = (v0, T)) :
    Calls Tryz.prog 35 #[.pointer (some ⟨A.g, 0, none⟩)] w (fun e w' => Did A w (.int .i64 v0) T e w' ∧ 0 ≤ v0 ∧ v0 ≤ 4294967295) := by
  unfold gvPending at e
  replace e := GM.bind_eq e; obtain ⟨n, S1, e1_, e⟩ := e; have e1 := Hd.mk e1_; clear e1_
  obtain ⟨hv, rfl⟩ := GM.pure_eq e
  obtain rfl := hv
  go_enter Tryz.func35, Tryz.ntmps35
  go_wp2_with fail
  with_reducible refine (Reg_c (by with_reducible repeat (first | exact H | apply zha | apply zhd | apply zhn)) e1.out).mono ?_
  rintro _ w1 ⟨rfl, H1, K1⟩
  obtain ⟨rn0, rn1⟩ := stGet_range (H).ok e1.out
  go_wp2_with fail
  go_ret
  exact ⟨⟨by first | rfl | (simp; done) | (simp [*]; done), (by with_reducible repeat (first | exact H1 | apply zha | apply zhd | apply zhn)), by
    with_reducible repeat (first | apply zsa | apply zsd | apply zsn)
    refine Stays.trans ?_ K1
    with_reducible repeat (first | apply zsa | apply zsd | apply zsn)
    exact Stays.refl _ _⟩, by omega, by omega⟩

def lkAlive (r : Int) : GM Bool :=
  obIs r >>= fun i =>
  if i then
    tiDead r >>= fun d =>
    if d then
      pure false
    else
      pure true
  else
    pure false

theorem lkAlive_c {A : GA} {S : GS} {w : World} (H : Held A S w) {r : Int} {v0 : Bool} {T : GS} (e : lkAlive r S = (v0, T)) :
    Calls Tryz.prog 89 #[.pointer (some ⟨A.g, 0, none⟩), .int .i64 r] w (Did A w (.bool v0) T) := by
  unfold lkAlive at e
  replace e := GM.bind_eq e; obtain ⟨i, S1, e1_, e⟩ := e; have e1 := Hd.mk e1_; clear e1_
  by_cases c2 : i = true
  · rw [if_pos c2] at e; subst c2
    replace e := GM.bind_eq e; obtain ⟨d, S3, e3_, e⟩ := e; have e3 := Hd.mk e3_; clear e3_
    by_cases c4 : d = true
    · rw [if_pos c4] at e; subst c4
      obtain ⟨hv, rfl⟩ := GM.pure_eq e
      obtain rfl := hv
      go_enter Tryz.func89, Tryz.ntmps89
      go_wp2_with fail
      with_reducible refine (obIs_c (by with_reducible repeat (first | exact H | apply zha | apply zhd | apply zhn)) e1.out).mono ?_
      rintro _ w1 ⟨rfl, H1, K1⟩
      go_wp2_with fail
      with_reducible refine (tiDead_c (by with_reducible repeat (first | exact H1 | apply zha | apply zhd | apply zhn)) e3.out).mono ?_
      rintro _ w3 ⟨rfl, H3, K3⟩
      go_wp2_with fail
      go_ret
      exact ⟨by first | rfl | (simp; done) | (simp [*]; done), (by with_reducible repeat (first | exact H3 | apply zha | apply zhd | apply zhn)), by
        with_reducible repeat (first | apply zsa | apply zsd | apply zsn)
        refine Stays.trans ?_ K3
        with_reducible repeat (first | apply zsa | apply zsd | apply zsn)
        refine Stays.trans ?_ K1
        with_reducible repeat (first | apply zsa | apply zsd | apply zsn)
        exact Stays.refl _ _⟩
    · rw [if_neg c4] at e; obtain rfl := eq_false_of_ne_true c4; clear c4
      obtain ⟨hv, rfl⟩ := GM.pure_eq e
      obtain rfl := hv
      go_enter Tryz.func89, Tryz.ntmps89
      go_wp2_with fail
      with_reducible refine (obIs_c (by with_reducible repeat (first | exact H | apply zha | apply zhd | apply zhn)) e1.out).mono ?_
      rintro _ w1 ⟨rfl, H1, K1⟩
      go_wp2_with fail
      with_reducible refine (tiDead_c (by with_reducible repeat (first | exact H1 | apply zha | apply zhd | apply zhn)) e3.out).mono ?_
      rintro _ w3 ⟨rfl, H3, K3⟩
      go_wp2_with fail
      go_ret
      exact ⟨by first | rfl | (simp; done) | (simp [*]; done), (by with_reducible repeat (first | exact H3 | apply zha | apply zhd | apply zhn)), by
        with_reducible repeat (first | apply zsa | apply zsd | apply zsn)
        refine Stays.trans ?_ K3
        with_reducible repeat (first | apply zsa | apply zsd | apply zsn)
        refine Stays.trans ?_ K1
        with_reducible repeat (first | apply zsa | apply zsd | apply zsn)
        exact Stays.refl _ _⟩
  · rw [if_neg c2] at e; obtain rfl := eq_false_of_ne_true c2; clear c2
    obtain ⟨hv, rfl⟩ := GM.pure_eq e
    obtain rfl := hv
    go_enter Tryz.func89, Tryz.ntmps89
    go_wp2_with fail
    with_reducible refine (obIs_c (by with_reducible repeat (first | exact H | apply zha | apply zhd | apply zhn)) e1.out).mono ?_
    rintro _ w1 ⟨rfl, H1, K1⟩
    go_wp2_with fail
    go_ret
    exact ⟨by first | rfl | (simp; done) | (simp [*]; done), (by with_reducible repeat (first | exact H1 | apply zha | apply zhd | apply zhn)), by
      with_reducible repeat (first | apply zsa | apply zsd | apply zsn)
      refine Stays.trans ?_ K1
      with_reducible repeat (first | apply zsa | apply zsd | apply zsn)
      exact Stays.refl _ _⟩

def lkMore (r : Int) : GM Unit :=
  ctUp r >>= fun ⟨a, b⟩ =>
  tiTouch r >>= fun t =>
  pure ()

theorem lkMore_c {A : GA} {S : GS} {w : World} (H : Held A S w) {r : Int} {T : GS} (e : lkMore r S = ((), T)) :
    Calls Tryz.prog 90 #[.pointer (some ⟨A.g, 0, none⟩), .int .i64 r] w (Did A w (.tuple #[]) T) := by
  unfold lkMore at e
  replace e := GM.bind_eq e; obtain ⟨⟨a, b⟩, S1, e1_, e⟩ := e; have e1 := Hd.mk e1_; clear e1_
  try dsimp only at e
  replace e := GM.bind_eq e; obtain ⟨t, S2, e2_, e⟩ := e; have e2 := Hd.mk e2_; clear e2_
  obtain ⟨hv, rfl⟩ := GM.pure_eq e
  clear hv
  go_enter Tryz.func90, Tryz.ntmps90
  go_wp2_with fail
  with_reducible refine (ctUp_c (by with_reducible repeat (first | exact H | apply zha | apply zhd | apply zhn)) e1.out).mono ?_
  rintro _ w1 ⟨rfl, H1, K1⟩
  go_wp2_with fail
  with_reducible refine (tiTouch_c (by with_reducible repeat (first | exact H1 | apply zha | apply zhd | apply zhn)) e2.out).mono ?_
  rintro _ w2 ⟨rfl, H2, K2⟩
  go_wp2_with fail
  go_end0
  exact ⟨by first | rfl | (simp; done) | (simp [*]; done), (by with_reducible repeat (first | exact H2 | apply zha | apply zhd | apply zhn)), by
    with_reducible repeat (first | apply zsa | apply zsd | apply zsn)
    refine Stays.trans ?_ K2
    with_reducible repeat (first | apply zsa | apply zsd | apply zsn)
    refine Stays.trans ?_ K1
    with_reducible repeat (first | apply zsa | apply zsd | apply zsn)
    exact Stays.refl _ _⟩

def lkLess (r : Int) : GM Unit :=
  SetReg 16 1 >>= fun _ =>
  ctDown r >>= fun ⟨m, ok⟩ =>
  if ok then
    if m = 0 then
      gvBury r >>= fun _ =>
      pure ()
    else
      pure ()
  else
    pure ()

theorem lkLess_c {A : GA} {S : GS} {w : World} (H : Held A S w) {r : Int} {T : GS} (e : lkLess r S = ((), T)) :
    Calls Tryz.prog 94 #[.pointer (some ⟨A.g, 0, none⟩), .int .i64 r] w (Did A w (.tuple #[]) T) := by
  unfold lkLess at e
  replace e := GM.bind_eq e; obtain ⟨u1, S1, e1_, e⟩ := e; have e1 := Hd.mk e1_; clear e1_
  replace e := GM.bind_eq e; obtain ⟨⟨m, ok⟩, S2, e2_, e⟩ := e; have e2 := Hd.mk e2_; clear e2_
  try dsimp only at e
  by_cases c3 : ok = true
  · rw [if_pos c3] at e; subst c3
    by_cases c4 : m = 0
    · rw [if_pos c4] at e; subst c4
      replace e := GM.bind_eq e; obtain ⟨u5, S5, e5_, e⟩ := e; have e5 := Hd.mk e5_; clear e5_
      obtain ⟨hv, rfl⟩ := GM.pure_eq e
      clear hv
      go_enter Tryz.func94, Tryz.ntmps94
      go_wp2_with fail
      with_reducible refine (SetReg_c (by with_reducible repeat (first | exact H | apply zha | apply zhd | apply zhn)) e1.out).mono ?_
      rintro _ w1 ⟨rfl, H1, K1⟩
      go_wp2_with fail
      with_reducible refine (ctDown_c (by with_reducible repeat (first | exact H1 | apply zha | apply zhd | apply zhn)) e2.out).mono ?_
      rintro _ w2 ⟨rfl, H2, K2⟩
      go_wp2_with fail
      with_reducible refine (gvBury_c (by with_reducible repeat (first | exact H2 | apply zha | apply zhd | apply zhn)) e5.out).mono ?_
      rintro _ w5 ⟨rfl, H5, K5⟩
      go_wp2_with fail
      go_end0
      exact ⟨by first | rfl | (simp; done) | (simp [*]; done), (by with_reducible repeat (first | exact H5 | apply zha | apply zhd | apply zhn)), by
        with_reducible repeat (first | apply zsa | apply zsd | apply zsn)
        refine Stays.trans ?_ K5
        with_reducible repeat (first | apply zsa | apply zsd | apply zsn)
        refine Stays.trans ?_ K2
        with_reducible repeat (first | apply zsa | apply zsd | apply zsn)
        refine Stays.trans ?_ K1
        with_reducible repeat (first | apply zsa | apply zsd | apply zsn)
        exact Stays.refl _ _⟩
    · rw [if_neg c4] at e; have c4b : (m == 0) = false := beq_eq_false_iff_ne.2 c4; have c4n : (m != 0) = true := bne_iff_ne.2 c4
      obtain ⟨hv, rfl⟩ := GM.pure_eq e
      clear hv
      go_enter Tryz.func94, Tryz.ntmps94
      go_wp2_with fail
      with_reducible refine (SetReg_c (by with_reducible repeat (first | exact H | apply zha | apply zhd | apply zhn)) e1.out).mono ?_
      rintro _ w1 ⟨rfl, H1, K1⟩
      go_wp2_with fail
      with_reducible refine (ctDown_c (by with_reducible repeat (first | exact H1 | apply zha | apply zhd | apply zhn)) e2.out).mono ?_
      rintro _ w2 ⟨rfl, H2, K2⟩
      go_wp2_with fail
      go_end0
      exact ⟨by first | rfl | (simp; done) | (simp [*]; done), (by with_reducible repeat (first | exact H2 | apply zha | apply zhd | apply zhn)), by
        with_reducible repeat (first | apply zsa | apply zsd | apply zsn)
        refine Stays.trans ?_ K2
        with_reducible repeat (first | apply zsa | apply zsd | apply zsn)
        refine Stays.trans ?_ K1
        with_reducible repeat (first | apply zsa | apply zsd | apply zsn)
        exact Stays.refl _ _⟩
  · rw [if_neg c3] at e; obtain rfl := eq_false_of_ne_true c3; clear c3
    obtain ⟨hv, rfl⟩ := GM.pure_eq e
    clear hv
    go_enter Tryz.func94, Tryz.ntmps94
    go_wp2_with fail
    with_reducible refine (SetReg_c (by with_reducible repeat (first | exact H | apply zha | apply zhd | apply zhn)) e1.out).mono ?_
    rintro _ w1 ⟨rfl, H1, K1⟩
    go_wp2_with fail
    with_reducible refine (ctDown_c (by with_reducible repeat (first | exact H1 | apply zha | apply zhd | apply zhn)) e2.out).mono ?_
    rintro _ w2 ⟨rfl, H2, K2⟩
    go_wp2_with fail
    go_end0
    exact ⟨by first | rfl | (simp; done) | (simp [*]; done), (by with_reducible repeat (first | exact H2 | apply zha | apply zhd | apply zhn)), by
      with_reducible repeat (first | apply zsa | apply zsd | apply zsn)
      refine Stays.trans ?_ K2
      with_reducible repeat (first | apply zsa | apply zsd | apply zsn)
      refine Stays.trans ?_ K1
      with_reducible repeat (first | apply zsa | apply zsd | apply zsn)
      exact Stays.refl _ _⟩

def lkHold (r : Int) : GM Bool :=
  lkAlive r >>= fun a =>
  if a then
    lkMore r >>= fun _ =>
    pure true
  else
    pure false

theorem lkHold_c {A : GA} {S : GS} {w : World} (H : Held A S w) {r : Int} {v0 : Bool} {T : GS} (e : lkHold r S = (v0, T)) :
    Calls Tryz.prog 22 #[.pointer (some ⟨A.g, 0, none⟩), .int .i64 r] w (Did A w (.bool v0) T) := by
  unfold lkHold at e
  replace e := GM.bind_eq e; obtain ⟨a, S1, e1_, e⟩ := e; have e1 := Hd.mk e1_; clear e1_
  by_cases c2 : a = true
  · rw [if_pos c2] at e; subst c2
    replace e := GM.bind_eq e; obtain ⟨u3, S3, e3_, e⟩ := e; have e3 := Hd.mk e3_; clear e3_
    obtain ⟨hv, rfl⟩ := GM.pure_eq e
    obtain rfl := hv
    go_enter Tryz.func22, Tryz.ntmps22
    go_wp2_with fail
    with_reducible refine (lkAlive_c (by with_reducible repeat (first | exact H | apply zha | apply zhd | apply zhn)) e1.out).mono ?_
    rintro _ w1 ⟨rfl, H1, K1⟩
    go_wp2_with fail
    with_reducible refine (lkMore_c (by with_reducible repeat (first | exact H1 | apply zha | apply zhd | apply zhn)) e3.out).mono ?_
    rintro _ w3 ⟨rfl, H3, K3⟩
    go_wp2_with fail
    go_ret
    exact ⟨by first | rfl | (simp; done) | (simp [*]; done), (by with_reducible repeat (first | exact H3 | apply zha | apply zhd | apply zhn)), by
      with_reducible repeat (first | apply zsa | apply zsd | apply zsn)
      refine Stays.trans ?_ K3
      with_reducible repeat (first | apply zsa | apply zsd | apply zsn)
      refine Stays.trans ?_ K1
      with_reducible repeat (first | apply zsa | apply zsd | apply zsn)
      exact Stays.refl _ _⟩
  · rw [if_neg c2] at e; obtain rfl := eq_false_of_ne_true c2; clear c2
    obtain ⟨hv, rfl⟩ := GM.pure_eq e
    obtain rfl := hv
    go_enter Tryz.func22, Tryz.ntmps22
    go_wp2_with fail
    with_reducible refine (lkAlive_c (by with_reducible repeat (first | exact H | apply zha | apply zhd | apply zhn)) e1.out).mono ?_
    rintro _ w1 ⟨rfl, H1, K1⟩
    go_wp2_with fail
    go_ret
    exact ⟨by first | rfl | (simp; done) | (simp [*]; done), (by with_reducible repeat (first | exact H1 | apply zha | apply zhd | apply zhn)), by
      with_reducible repeat (first | apply zsa | apply zsd | apply zsn)
      refine Stays.trans ?_ K1
      with_reducible repeat (first | apply zsa | apply zsd | apply zsn)
      exact Stays.refl _ _⟩

def lkLet (r : Int) : GM Bool :=
  lkAlive r >>= fun a =>
  if a then
    ctOf r >>= fun q =>
    if q = 0 then
      pure false
    else
      lkLess r >>= fun _ =>
      pure true
  else
    pure false

theorem lkLet_c {A : GA} {S : GS} {w : World} (H : Held A S w) {r : Int} {v0 : Bool} {T : GS} (e : lkLet r S = (v0, T)) :
    Calls Tryz.prog 23 #[.pointer (some ⟨A.g, 0, none⟩), .int .i64 r] w (Did A w (.bool v0) T) := by
  unfold lkLet at e
  replace e := GM.bind_eq e; obtain ⟨a, S1, e1_, e⟩ := e; have e1 := Hd.mk e1_; clear e1_
  by_cases c2 : a = true
  · rw [if_pos c2] at e; subst c2
    replace e := GM.bind_eq e; obtain ⟨q, S3, e3_, e⟩ := e; have e3 := Hd.mk e3_; clear e3_
    by_cases c4 : q = 0
    · rw [if_pos c4] at e; subst c4
      obtain ⟨hv, rfl⟩ := GM.pure_eq e
      obtain rfl := hv
      go_enter Tryz.func23, Tryz.ntmps23
      go_wp2_with fail
      with_reducible refine (lkAlive_c (by with_reducible repeat (first | exact H | apply zha | apply zhd | apply zhn)) e1.out).mono ?_
      rintro _ w1 ⟨rfl, H1, K1⟩
      go_wp2_with fail
      with_reducible refine (ctOf_c (by with_reducible repeat (first | exact H1 | apply zha | apply zhd | apply zhn)) e3.out).mono ?_
      rintro _ w3 ⟨⟨rfl, H3, K3⟩, rq0, rq1⟩
      go_wp2_with fail
      go_ret
      exact ⟨by first | rfl | (simp; done) | (simp [*]; done), (by with_reducible repeat (first | exact H3 | apply zha | apply zhd | apply zhn)), by
        with_reducible repeat (first | apply zsa | apply zsd | apply zsn)
        refine Stays.trans ?_ K3
        with_reducible repeat (first | apply zsa | apply zsd | apply zsn)
        refine Stays.trans ?_ K1
        with_reducible repeat (first | apply zsa | apply zsd | apply zsn)
        exact Stays.refl _ _⟩
    · rw [if_neg c4] at e; have c4b : (q == 0) = false := beq_eq_false_iff_ne.2 c4; have c4n : (q != 0) = true := bne_iff_ne.2 c4
      replace e := GM.bind_eq e; obtain ⟨u5, S5, e5_, e⟩ := e; have e5 := Hd.mk e5_; clear e5_
      obtain ⟨hv, rfl⟩ := GM.pure_eq e
      obtain rfl := hv
      go_enter Tryz.func23, Tryz.ntmps23
      go_wp2_with fail
      with_reducible refine (lkAlive_c (by with_reducible repeat (first | exact H | apply zha | apply zhd | apply zhn)) e1.out).mono ?_
      rintro _ w1 ⟨rfl, H1, K1⟩
      go_wp2_with fail
      with_reducible refine (ctOf_c (by with_reducible repeat (first | exact H1 | apply zha | apply zhd | apply zhn)) e3.out).mono ?_
      rintro _ w3 ⟨⟨rfl, H3, K3⟩, rq0, rq1⟩
      go_wp2_with fail
      with_reducible refine (lkLess_c (by with_reducible repeat (first | exact H3 | apply zha | apply zhd | apply zhn)) e5.out).mono ?_
      rintro _ w5 ⟨rfl, H5, K5⟩
      go_wp2_with fail
      go_ret
      exact ⟨by first | rfl | (simp; done) | (simp [*]; done), (by with_reducible repeat (first | exact H5 | apply zha | apply zhd | apply zhn)), by
        with_reducible repeat (first | apply zsa | apply zsd | apply zsn)
        refine Stays.trans ?_ K5
        with_reducible repeat (first | apply zsa | apply zsd | apply zsn)
        refine Stays.trans ?_ K3
        with_reducible repeat (first | apply zsa | apply zsd | apply zsn)
        refine Stays.trans ?_ K1
        with_reducible repeat (first | apply zsa | apply zsd | apply zsn)
        exact Stays.refl _ _⟩
  · rw [if_neg c2] at e; obtain rfl := eq_false_of_ne_true c2; clear c2
    obtain ⟨hv, rfl⟩ := GM.pure_eq e
    obtain rfl := hv
    go_enter Tryz.func23, Tryz.ntmps23
    go_wp2_with fail
    with_reducible refine (lkAlive_c (by with_reducible repeat (first | exact H | apply zha | apply zhd | apply zhn)) e1.out).mono ?_
    rintro _ w1 ⟨rfl, H1, K1⟩
    go_wp2_with fail
    go_ret
    exact ⟨by first | rfl | (simp; done) | (simp [*]; done), (by with_reducible repeat (first | exact H1 | apply zha | apply zhd | apply zhn)), by
      with_reducible repeat (first | apply zsa | apply zsd | apply zsn)
      refine Stays.trans ?_ K1
      with_reducible repeat (first | apply zsa | apply zsd | apply zsn)
      exact Stays.refl _ _⟩

def lkGet (r : Int) (i : Int) : GM (Int × Int) :=
  obPtr r i >>= fun ⟨x, er⟩ =>
  pure (x, er)

theorem lkGet_c {A : GA} {S : GS} {w : World} (H : Held A S w) {r : Int} {i : Int} {v0 : Int} {v1 : Int} {T : GS} (e : lkGet r i S = ((v0, v1), T)) :
    Calls Tryz.prog 20 #[.pointer (some ⟨A.g, 0, none⟩), .int .i64 r, .int .i64 i] w (fun e w' => Did A w (.tuple #[.int .i64 v0, .int .i64 v1]) T e w' ∧ 0 ≤ v0 ∧ v0 ≤ 4294967295) := by
  unfold lkGet at e
  replace e := GM.bind_eq e; obtain ⟨⟨x, er⟩, S1, e1_, e⟩ := e; have e1 := Hd.mk e1_; clear e1_
  try dsimp only at e
  obtain ⟨hv, rfl⟩ := GM.pure_eq e
  cases hv
  go_enter Tryz.func20, Tryz.ntmps20
  go_wp2_with fail
  with_reducible refine (obPtr_c (by with_reducible repeat (first | exact H | apply zha | apply zhd | apply zhn)) e1.out).mono ?_
  rintro _ w1 ⟨⟨rfl, H1, K1⟩, rx0, rx1⟩
  go_wp2_with fail
  go_ret2
  exact ⟨⟨by first | rfl | (simp; done) | (simp [*]; done), (by with_reducible repeat (first | exact H1 | apply zha | apply zhd | apply zhn)), by
    with_reducible repeat (first | apply zsa | apply zsd | apply zsn)
    refine Stays.trans ?_ K1
    with_reducible repeat (first | apply zsa | apply zsd | apply zsn)
    exact Stays.refl _ _⟩, by omega, by omega⟩

def lkSuspect : GM Bool :=
  Reg 16 >>= fun n =>
  if n = 1 then
    pure true
  else
    pure false

theorem lkSuspect_c {A : GA} {S : GS} {w : World} (H : Held A S w) {v0 : Bool} {T : GS} (e : lkSuspect S = (v0, T)) :
    Calls Tryz.prog 24 #[.pointer (some ⟨A.g, 0, none⟩)] w (Did A w (.bool v0) T) := by
  unfold lkSuspect at e
  replace e := GM.bind_eq e; obtain ⟨n, S1, e1_, e⟩ := e; have e1 := Hd.mk e1_; clear e1_
  by_cases c2 : n = 1
  · rw [if_pos c2] at e; subst c2
    obtain ⟨hv, rfl⟩ := GM.pure_eq e
    obtain rfl := hv
    go_enter Tryz.func24, Tryz.ntmps24
    go_wp2_with fail
    with_reducible refine (Reg_c (by with_reducible repeat (first | exact H | apply zha | apply zhd | apply zhn)) e1.out).mono ?_
    rintro _ w1 ⟨rfl, H1, K1⟩
    go_wp2_with fail
    go_ret
    exact ⟨by first | rfl | (simp; done) | (simp [*]; done), (by with_reducible repeat (first | exact H1 | apply zha | apply zhd | apply zhn)), by
      with_reducible repeat (first | apply zsa | apply zsd | apply zsn)
      refine Stays.trans ?_ K1
      with_reducible repeat (first | apply zsa | apply zsd | apply zsn)
      exact Stays.refl _ _⟩
  · rw [if_neg c2] at e; have c2b : (n == 1) = false := beq_eq_false_iff_ne.2 c2; have c2n : (n != 1) = true := bne_iff_ne.2 c2
    obtain ⟨hv, rfl⟩ := GM.pure_eq e
    obtain rfl := hv
    go_enter Tryz.func24, Tryz.ntmps24
    go_wp2_with fail
    with_reducible refine (Reg_c (by with_reducible repeat (first | exact H | apply zha | apply zhd | apply zhn)) e1.out).mono ?_
    rintro _ w1 ⟨rfl, H1, K1⟩
    go_wp2_with fail
    go_ret
    exact ⟨by first | rfl | (simp; done) | (simp [*]; done), (by with_reducible repeat (first | exact H1 | apply zha | apply zhd | apply zhn)), by
      with_reducible repeat (first | apply zsa | apply zsd | apply zsn)
      refine Stays.trans ?_ K1
      with_reducible repeat (first | apply zsa | apply zsd | apply zsn)
      exact Stays.refl _ _⟩

def lkPut (r : Int) (i : Int) (x : Int) : GM Int :=
  lkAlive r >>= fun a =>
  if a then
    obPtr r i >>= fun ⟨y, er⟩ =>
    if er = 0 then
      if x = 0 then
        obSetPtr r i x >>= fun _ =>
        if y = 0 then
          pure 0
        else
          ctOf y >>= fun q =>
          if q > 0 then
            tiTouch y >>= fun _ =>
            lkLess y >>= fun _ =>
            pure 0
          else
            pure 0
      else
        lkAlive x >>= fun ax =>
        if ax then
          lkMore x >>= fun _ =>
          obSetPtr r i x >>= fun _ =>
          if y = 0 then
            pure 0
          else
            ctOf y >>= fun q =>
            if q > 0 then
              tiTouch y >>= fun _ =>
              lkLess y >>= fun _ =>
              pure 0
            else
              pure 0
        else
          pure 2
    else
      pure er
  else
    pure 8

theorem lkPut_c {A : GA} {S : GS} {w : World} (H : Held A S w) {r : Int} {i : Int} {x : Int} {v0 : Int} {T : GS} (e : lkPut r i x S = (v0, T)) :
    Calls Tryz.prog 21 #[.pointer (some ⟨A.g, 0, none⟩), .int .i64 r, .int .i64 i, .int .i64 x] w (Did A w (.int .i64 v0) T) := by
  unfold lkPut at e
  replace e := GM.bind_eq e; obtain ⟨a, S1, e1_, e⟩ := e; have e1 := Hd.mk e1_; clear e1_
  by_cases c2 : a = true
  · rw [if_pos c2] at e; subst c2
    replace e := GM.bind_eq e; obtain ⟨⟨y, er⟩, S3, e3_, e⟩ := e; have e3 := Hd.mk e3_; clear e3_
    try dsimp only at e
    by_cases c4 : er = 0
    · rw [if_pos c4] at e; subst c4
      by_cases c5 : x = 0
      · rw [if_pos c5] at e; subst c5
        replace e := GM.bind_eq e; obtain ⟨u6, S6, e6_, e⟩ := e; have e6 := Hd.mk e6_; clear e6_
        by_cases c7 : y = 0
        · rw [if_pos c7] at e; subst c7
          obtain ⟨hv, rfl⟩ := GM.pure_eq e
          obtain rfl := hv
          go_enter Tryz.func21, Tryz.ntmps21
          go_wp2_with fail
          with_reducible refine (lkAlive_c (by with_reducible repeat (first | exact H | apply zha | apply zhd | apply zhn)) e1.out).mono ?_
          rintro _ w1 ⟨rfl, H1, K1⟩
          go_wp2_with fail
          with_reducible refine (obPtr_c (by with_reducible repeat (first | exact H1 | apply zha | apply zhd | apply zhn)) e3.out).mono ?_
          rintro _ w3 ⟨⟨rfl, H3, K3⟩, ry0, ry1⟩
          go_wp2_with fail
          with_reducible refine (obSetPtr_c (by with_reducible repeat (first | exact H3 | apply zha | apply zhd | apply zhn)) e6.out).mono ?_
          rintro _ w6 ⟨rfl, H6, K6⟩
          go_wp2_with fail
          go_ret
          exact ⟨by first | rfl | (simp; done) | (simp [*]; done), (by with_reducible repeat (first | exact H6 | apply zha | apply zhd | apply zhn)), by
            with_reducible repeat (first | apply zsa | apply zsd | apply zsn)
            refine Stays.trans ?_ K6
            with_reducible repeat (first | apply zsa | apply zsd | apply zsn)
            refine Stays.trans ?_ K3
            with_reducible repeat (first | apply zsa | apply zsd | apply zsn)
            refine Stays.trans ?_ K1
            with_reducible repeat (first | apply zsa | apply zsd | apply zsn)
            exact Stays.refl _ _⟩
        · rw [if_neg c7] at e; have c7b : (y == 0) = false := beq_eq_false_iff_ne.2 c7; have c7n : (y != 0) = true := bne_iff_ne.2 c7
          replace e := GM.bind_eq e; obtain ⟨q, S8, e8_, e⟩ := e; have e8 := Hd.mk e8_; clear e8_
          by_cases c9 : q > 0
          · rw [if_pos c9] at e
            replace e := GM.bind_eq e; obtain ⟨u10, S10, e10_, e⟩ := e; have e10 := Hd.mk e10_; clear e10_
            replace e := GM.bind_eq e; obtain ⟨u11, S11, e11_, e⟩ := e; have e11 := Hd.mk e11_; clear e11_
            obtain ⟨hv, rfl⟩ := GM.pure_eq e
            obtain rfl := hv
            go_enter Tryz.func21, Tryz.ntmps21
            go_wp2_with fail
            with_reducible refine (lkAlive_c (by with_reducible repeat (first | exact H | apply zha | apply zhd | apply zhn)) e1.out).mono ?_
            rintro _ w1 ⟨rfl, H1, K1⟩
            go_wp2_with fail
            with_reducible refine (obPtr_c (by with_reducible repeat (first | exact H1 | apply zha | apply zhd | apply zhn)) e3.out).mono ?_
            rintro _ w3 ⟨⟨rfl, H3, K3⟩, ry0, ry1⟩
            go_wp2_with fail
            with_reducible refine (obSetPtr_c (by with_reducible repeat (first | exact H3 | apply zha | apply zhd | apply zhn)) e6.out).mono ?_
            rintro _ w6 ⟨rfl, H6, K6⟩
            go_wp2_with fail
            with_reducible refine (ctOf_c (by with_reducible repeat (first | exact H6 | apply zha | apply zhd | apply zhn)) e8.out).mono ?_
            rintro _ w8 ⟨⟨rfl, H8, K8⟩, rq0, rq1⟩
            go_wp2_with fail
            with_reducible refine (tiTouch_c (by with_reducible repeat (first | exact H8 | apply zha | apply zhd | apply zhn)) e10.out).mono ?_
            rintro _ w10 ⟨rfl, H10, K10⟩
            go_wp2_with fail
            with_reducible refine (lkLess_c (by with_reducible repeat (first | exact H10 | apply zha | apply zhd | apply zhn)) e11.out).mono ?_
            rintro _ w11 ⟨rfl, H11, K11⟩
            go_wp2_with fail
            go_ret
            exact ⟨by first | rfl | (simp; done) | (simp [*]; done), (by with_reducible repeat (first | exact H11 | apply zha | apply zhd | apply zhn)), by
              with_reducible repeat (first | apply zsa | apply zsd | apply zsn)
              refine Stays.trans ?_ K11
              with_reducible repeat (first | apply zsa | apply zsd | apply zsn)
              refine Stays.trans ?_ K10
              with_reducible repeat (first | apply zsa | apply zsd | apply zsn)
              refine Stays.trans ?_ K8
              with_reducible repeat (first | apply zsa | apply zsd | apply zsn)
              refine Stays.trans ?_ K6
              with_reducible repeat (first | apply zsa | apply zsd | apply zsn)
              refine Stays.trans ?_ K3
              with_reducible repeat (first | apply zsa | apply zsd | apply zsn)
              refine Stays.trans ?_ K1
              with_reducible repeat (first | apply zsa | apply zsd | apply zsn)
              exact Stays.refl _ _⟩
          · rw [if_neg c9] at e
            obtain ⟨hv, rfl⟩ := GM.pure_eq e
            obtain rfl := hv
            go_enter Tryz.func21, Tryz.ntmps21
            go_wp2_with fail
            with_reducible refine (lkAlive_c (by with_reducible repeat (first | exact H | apply zha | apply zhd | apply zhn)) e1.out).mono ?_
            rintro _ w1 ⟨rfl, H1, K1⟩
            go_wp2_with fail
            with_reducible refine (obPtr_c (by with_reducible repeat (first | exact H1 | apply zha | apply zhd | apply zhn)) e3.out).mono ?_
            rintro _ w3 ⟨⟨rfl, H3, K3⟩, ry0, ry1⟩
            go_wp2_with fail
            with_reducible refine (obSetPtr_c (by with_reducible repeat (first | exact H3 | apply zha | apply zhd | apply zhn)) e6.out).mono ?_
            rintro _ w6 ⟨rfl, H6, K6⟩
            go_wp2_with fail
            with_reducible refine (ctOf_c (by with_reducible repeat (first | exact H6 | apply zha | apply zhd | apply zhn)) e8.out).mono ?_
            rintro _ w8 ⟨⟨rfl, H8, K8⟩, rq0, rq1⟩
            go_wp2_with fail
            go_ret
            exact ⟨by first | rfl | (simp; done) | (simp [*]; done), (by with_reducible repeat (first | exact H8 | apply zha | apply zhd | apply zhn)), by
              with_reducible repeat (first | apply zsa | apply zsd | apply zsn)
              refine Stays.trans ?_ K8
              with_reducible repeat (first | apply zsa | apply zsd | apply zsn)
              refine Stays.trans ?_ K6
              with_reducible repeat (first | apply zsa | apply zsd | apply zsn)
              refine Stays.trans ?_ K3
              with_reducible repeat (first | apply zsa | apply zsd | apply zsn)
              refine Stays.trans ?_ K1
              with_reducible repeat (first | apply zsa | apply zsd | apply zsn)
              exact Stays.refl _ _⟩
      · rw [if_neg c5] at e; have c5b : (x == 0) = false := beq_eq_false_iff_ne.2 c5; have c5n : (x != 0) = true := bne_iff_ne.2 c5
        replace e := GM.bind_eq e; obtain ⟨ax, S6, e6_, e⟩ := e; have e6 := Hd.mk e6_; clear e6_
        by_cases c7 : ax = true
        · rw [if_pos c7] at e; subst c7
          replace e := GM.bind_eq e; obtain ⟨u8, S8, e8_, e⟩ := e; have e8 := Hd.mk e8_; clear e8_
          replace e := GM.bind_eq e; obtain ⟨u9, S9, e9_, e⟩ := e; have e9 := Hd.mk e9_; clear e9_
          by_cases c10 : y = 0
          · rw [if_pos c10] at e; subst c10
            obtain ⟨hv, rfl⟩ := GM.pure_eq e
            obtain rfl := hv
            go_enter Tryz.func21, Tryz.ntmps21
            go_wp2_with fail
            with_reducible refine (lkAlive_c (by with_reducible repeat (first | exact H | apply zha | apply zhd | apply zhn)) e1.out).mono ?_
            rintro _ w1 ⟨rfl, H1, K1⟩
            go_wp2_with fail
            with_reducible refine (obPtr_c (by with_reducible repeat (first | exact H1 | apply zha | apply zhd | apply zhn)) e3.out).mono ?_
            rintro _ w3 ⟨⟨rfl, H3, K3⟩, ry0, ry1⟩
            go_wp2_with fail
            with_reducible refine (lkAlive_c (by with_reducible repeat (first | exact H3 | apply zha | apply zhd | apply zhn)) e6.out).mono ?_
            rintro _ w6 ⟨rfl, H6, K6⟩
            go_wp2_with fail
            with_reducible refine (lkMore_c (by with_reducible repeat (first | exact H6 | apply zha | apply zhd | apply zhn)) e8.out).mono ?_
            rintro _ w8 ⟨rfl, H8, K8⟩
            go_wp2_with fail
            with_reducible refine (obSetPtr_c (by with_reducible repeat (first | exact H8 | apply zha | apply zhd | apply zhn)) e9.out).mono ?_
            rintro _ w9 ⟨rfl, H9, K9⟩
            go_wp2_with fail
            go_ret
            exact ⟨by first | rfl | (simp; done) | (simp [*]; done), (by with_reducible repeat (first | exact H9 | apply zha | apply zhd | apply zhn)), by
              with_reducible repeat (first | apply zsa | apply zsd | apply zsn)
              refine Stays.trans ?_ K9
              with_reducible repeat (first | apply zsa | apply zsd | apply zsn)
              refine Stays.trans ?_ K8
              with_reducible repeat (first | apply zsa | apply zsd | apply zsn)
              refine Stays.trans ?_ K6
              with_reducible repeat (first | apply zsa | apply zsd | apply zsn)
              refine Stays.trans ?_ K3
              with_reducible repeat (first | apply zsa | apply zsd | apply zsn)
              refine Stays.trans ?_ K1
              with_reducible repeat (first | apply zsa | apply zsd | apply zsn)
              exact Stays.refl _ _⟩
          · rw [if_neg c10] at e; have c10b : (y == 0) = false := beq_eq_false_iff_ne.2 c10; have c10n : (y != 0) = true := bne_iff_ne.2 c10
            replace e := GM.bind_eq e; obtain ⟨q, S11, e11_, e⟩ := e; have e11 := Hd.mk e11_; clear e11_
            by_cases c12 : q > 0
            · rw [if_pos c12] at e
              replace e := GM.bind_eq e; obtain ⟨u13, S13, e13_, e⟩ := e; have e13 := Hd.mk e13_; clear e13_
              replace e := GM.bind_eq e; obtain ⟨u14, S14, e14_, e⟩ := e; have e14 := Hd.mk e14_; clear e14_
              obtain ⟨hv, rfl⟩ := GM.pure_eq e
              obtain rfl := hv
              go_enter Tryz.func21, Tryz.ntmps21
              go_wp2_with fail
              with_reducible refine (lkAlive_c (by with_reducible repeat (first | exact H | apply zha | apply zhd | apply zhn)) e1.out).mono ?_
              rintro _ w1 ⟨rfl, H1, K1⟩
              go_wp2_with fail
              with_reducible refine (obPtr_c (by with_reducible repeat (first | exact H1 | apply zha | apply zhd | apply zhn)) e3.out).mono ?_
              rintro _ w3 ⟨⟨rfl, H3, K3⟩, ry0, ry1⟩
              go_wp2_with fail
              with_reducible refine (lkAlive_c (by with_reducible repeat (first | exact H3 | apply zha | apply zhd | apply zhn)) e6.out).mono ?_
              rintro _ w6 ⟨rfl, H6, K6⟩
              go_wp2_with fail
              with_reducible refine (lkMore_c (by with_reducible repeat (first | exact H6 | apply zha | apply zhd | apply zhn)) e8.out).mono ?_
              rintro _ w8 ⟨rfl, H8, K8⟩
              go_wp2_with fail
              with_reducible refine (obSetPtr_c (by with_reducible repeat (first | exact H8 | apply zha | apply zhd | apply zhn)) e9.out).mono ?_
              rintro _ w9 ⟨rfl, H9, K9⟩
              go_wp2_with fail
              with_reducible refine (ctOf_c (by with_reducible repeat (first | exact H9 | apply zha | apply zhd | apply zhn)) e11.out).mono ?_
              rintro _ w11 ⟨⟨rfl, H11, K11⟩, rq0, rq1⟩
              go_wp2_with fail
              with_reducible refine (tiTouch_c (by with_reducible repeat (first | exact H11 | apply zha | apply zhd | apply zhn)) e13.out).mono ?_
              rintro _ w13 ⟨rfl, H13, K13⟩
              go_wp2_with fail
              with_reducible refine (lkLess_c (by with_reducible repeat (first | exact H13 | apply zha | apply zhd | apply zhn)) e14.out).mono ?_
              rintro _ w14 ⟨rfl, H14, K14⟩
              go_wp2_with fail
              go_ret
              exact ⟨by first | rfl | (simp; done) | (simp [*]; done), (by with_reducible repeat (first | exact H14 | apply zha | apply zhd | apply zhn)), by
                with_reducible repeat (first | apply zsa | apply zsd | apply zsn)
                refine Stays.trans ?_ K14
                with_reducible repeat (first | apply zsa | apply zsd | apply zsn)
                refine Stays.trans ?_ K13
                with_reducible repeat (first | apply zsa | apply zsd | apply zsn)
                refine Stays.trans ?_ K11
                with_reducible repeat (first | apply zsa | apply zsd | apply zsn)
                refine Stays.trans ?_ K9
                with_reducible repeat (first | apply zsa | apply zsd | apply zsn)
                refine Stays.trans ?_ K8
                with_reducible repeat (first | apply zsa | apply zsd | apply zsn)
                refine Stays.trans ?_ K6
                with_reducible repeat (first | apply zsa | apply zsd | apply zsn)
                refine Stays.trans ?_ K3
                with_reducible repeat (first | apply zsa | apply zsd | apply zsn)
                refine Stays.trans ?_ K1
                with_reducible repeat (first | apply zsa | apply zsd | apply zsn)
                exact Stays.refl _ _⟩
            · rw [if_neg c12] at e
              obtain ⟨hv, rfl⟩ := GM.pure_eq e
              obtain rfl := hv
              go_enter Tryz.func21, Tryz.ntmps21
              go_wp2_with fail
              with_reducible refine (lkAlive_c (by with_reducible repeat (first | exact H | apply zha | apply zhd | apply zhn)) e1.out).mono ?_
              rintro _ w1 ⟨rfl, H1, K1⟩
              go_wp2_with fail
              with_reducible refine (obPtr_c (by with_reducible repeat (first | exact H1 | apply zha | apply zhd | apply zhn)) e3.out).mono ?_
              rintro _ w3 ⟨⟨rfl, H3, K3⟩, ry0, ry1⟩
              go_wp2_with fail
              with_reducible refine (lkAlive_c (by with_reducible repeat (first | exact H3 | apply zha | apply zhd | apply zhn)) e6.out).mono ?_
              rintro _ w6 ⟨rfl, H6, K6⟩
              go_wp2_with fail
              with_reducible refine (lkMore_c (by with_reducible repeat (first | exact H6 | apply zha | apply zhd | apply zhn)) e8.out).mono ?_
              rintro _ w8 ⟨rfl, H8, K8⟩
              go_wp2_with fail
              with_reducible refine (obSetPtr_c (by with_reducible repeat (first | exact H8 | apply zha | apply zhd | apply zhn)) e9.out).mono ?_
              rintro _ w9 ⟨rfl, H9, K9⟩
              go_wp2_with fail
              with_reducible refine (ctOf_c (by with_reducible repeat (first | exact H9 | apply zha | apply zhd | apply zhn)) e11.out).mono ?_
              rintro _ w11 ⟨⟨rfl, H11, K11⟩, rq0, rq1⟩
              go_wp2_with fail
              go_ret
              exact ⟨by first | rfl | (simp; done) | (simp [*]; done), (by with_reducible repeat (first | exact H11 | apply zha | apply zhd | apply zhn)), by
                with_reducible repeat (first | apply zsa | apply zsd | apply zsn)
                refine Stays.trans ?_ K11
                with_reducible repeat (first | apply zsa | apply zsd | apply zsn)
                refine Stays.trans ?_ K9
                with_reducible repeat (first | apply zsa | apply zsd | apply zsn)
                refine Stays.trans ?_ K8
                with_reducible repeat (first | apply zsa | apply zsd | apply zsn)
                refine Stays.trans ?_ K6
                with_reducible repeat (first | apply zsa | apply zsd | apply zsn)
                refine Stays.trans ?_ K3
                with_reducible repeat (first | apply zsa | apply zsd | apply zsn)
                refine Stays.trans ?_ K1
                with_reducible repeat (first | apply zsa | apply zsd | apply zsn)
                exact Stays.refl _ _⟩
        · rw [if_neg c7] at e; obtain rfl := eq_false_of_ne_true c7; clear c7
          obtain ⟨hv, rfl⟩ := GM.pure_eq e
          obtain rfl := hv
          go_enter Tryz.func21, Tryz.ntmps21
          go_wp2_with fail
          with_reducible refine (lkAlive_c (by with_reducible repeat (first | exact H | apply zha | apply zhd | apply zhn)) e1.out).mono ?_
          rintro _ w1 ⟨rfl, H1, K1⟩
          go_wp2_with fail
          with_reducible refine (obPtr_c (by with_reducible repeat (first | exact H1 | apply zha | apply zhd | apply zhn)) e3.out).mono ?_
          rintro _ w3 ⟨⟨rfl, H3, K3⟩, ry0, ry1⟩
          go_wp2_with fail
          with_reducible refine (lkAlive_c (by with_reducible repeat (first | exact H3 | apply zha | apply zhd | apply zhn)) e6.out).mono ?_
          rintro _ w6 ⟨rfl, H6, K6⟩
          go_wp2_with fail
          go_ret
          exact ⟨by first | rfl | (simp; done) | (simp [*]; done), (by with_reducible repeat (first | exact H6 | apply zha | apply zhd | apply zhn)), by
            with_reducible repeat (first | apply zsa | apply zsd | apply zsn)
            refine Stays.trans ?_ K6
            with_reducible repeat (first | apply zsa | apply zsd | apply zsn)
            refine Stays.trans ?_ K3
            with_reducible repeat (first | apply zsa | apply zsd | apply zsn)
            refine Stays.trans ?_ K1
            with_reducible repeat (first | apply zsa | apply zsd | apply zsn)
            exact Stays.refl _ _⟩
    · rw [if_neg c4] at e; have c4b : (er == 0) = false := beq_eq_false_iff_ne.2 c4; have c4n : (er != 0) = true := bne_iff_ne.2 c4
      obtain ⟨hv, rfl⟩ := GM.pure_eq e
      obtain rfl := hv
      go_enter Tryz.func21, Tryz.ntmps21
      go_wp2_with fail
      with_reducible refine (lkAlive_c (by with_reducible repeat (first | exact H | apply zha | apply zhd | apply zhn)) e1.out).mono ?_
      rintro _ w1 ⟨rfl, H1, K1⟩
      go_wp2_with fail
      with_reducible refine (obPtr_c (by with_reducible repeat (first | exact H1 | apply zha | apply zhd | apply zhn)) e3.out).mono ?_
      rintro _ w3 ⟨⟨rfl, H3, K3⟩, ry0, ry1⟩
      go_wp2_with fail
      go_ret
      exact ⟨by first | rfl | (simp; done) | (simp [*]; done), (by with_reducible repeat (first | exact H3 | apply zha | apply zhd | apply zhn)), by
        with_reducible repeat (first | apply zsa | apply zsd | apply zsn)
        refine Stays.trans ?_ K3
        with_reducible repeat (first | apply zsa | apply zsd | apply zsn)
        refine Stays.trans ?_ K1
        with_reducible repeat (first | apply zsa | apply zsd | apply zsn)
        exact Stays.refl _ _⟩
  · rw [if_neg c2] at e; obtain rfl := eq_false_of_ne_true c2; clear c2
    obtain ⟨hv, rfl⟩ := GM.pure_eq e
    obtain rfl := hv
    go_enter Tryz.func21, Tryz.ntmps21
    go_wp2_with fail
    with_reducible refine (lkAlive_c (by with_reducible repeat (first | exact H | apply zha | apply zhd | apply zhn)) e1.out).mono ?_
    rintro _ w1 ⟨rfl, H1, K1⟩
    go_wp2_with fail
    go_ret
    exact ⟨by first | rfl | (simp; done) | (simp [*]; done), (by with_reducible repeat (first | exact H1 | apply zha | apply zhd | apply zhn)), by
      with_reducible repeat (first | apply zsa | apply zsd | apply zsn)
      refine Stays.trans ?_ K1
      with_reducible repeat (first | apply zsa | apply zsd | apply zsn)
      exact Stays.refl _ _⟩
end Go.Proofs.YtadhdjldcpkfiaaGreatDoor
