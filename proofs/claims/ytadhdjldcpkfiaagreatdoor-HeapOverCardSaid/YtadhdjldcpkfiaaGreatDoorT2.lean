/- What the calls of obj, count and tint do. Nothing is asked but that the ground lies there. -/
import Derived.Test.YtadhdjldcpkfiaaGreatDoorT1
namespace Go.Proofs.YtadhdjldcpkfiaaGreatDoor
set_option linter.unusedVariables false
set_option linter.unusedSimpArgs false
open Go.RowKit
set_option maxRecDepth 100000
set_option maxHeartbeats 800000
def tiPaint (r : Int) : GM Bool := tiChange r byPaint
def tiDone (r : Int) : GM Bool := tiChange r byDone
def tiDye (r : Int) : GM Bool := tiChange r (byDye r)
def tiDeep (r : Int) : GM Bool := tiChange r (byDeep r)
def tiKillC (r : Int) : GM Bool := tiChange r byKill

theorem tiPaint_c {A : GA} {S : GS} {w : World} (H : Held A S w) {r : Int} {v0 : Bool} {T : GS} (e : tiPaint r S = (v0, T)) :
    Calls Tryz.prog 123 #[.pointer (some ⟨A.g, 0, none⟩), .int .i64 r] w (Did A w (.bool v0) T) := by
  go_enter Tryz.func123, Tryz.ntmps123
  go_wp2_with fail
  refine (tiPaint_ch H e).mono ?_
  rintro _ w1 ⟨rfl, H1, K1⟩
  go_wp2_with fail
  go_ret
  exact ⟨rfl, H1, K1⟩

theorem tiDone_c {A : GA} {S : GS} {w : World} (H : Held A S w) {r : Int} {v0 : Bool} {T : GS} (e : tiDone r S = (v0, T)) :
    Calls Tryz.prog 102 #[.pointer (some ⟨A.g, 0, none⟩), .int .i64 r] w (Did A w (.bool v0) T) := by
  go_enter Tryz.func102, Tryz.ntmps102
  go_wp2_with fail
  refine (tiDone_ch H e).mono ?_
  rintro _ w1 ⟨rfl, H1, K1⟩
  go_wp2_with fail
  go_ret
  exact ⟨rfl, H1, K1⟩

theorem tiDye_c {A : GA} {S : GS} {w : World} (H : Held A S w) {r : Int} {v0 : Bool} {T : GS} (e : tiDye r S = (v0, T)) :
    Calls Tryz.prog 86 #[.pointer (some ⟨A.g, 0, none⟩), .int .i64 r] w (Did A w (.bool v0) T) := by
  have hmf : ∀ (fn : Fn) (first cap : Array Value) (w : World), (Instr.makeFunc fn first cap).run Tryz.prog w = .ok (.func fn first cap) w := fun _ _ _ _ => rfl
  go_enter Tryz.func86, Tryz.ntmps86
  go_wp2_with fail
  refine (tiDye_ch (bg := w.heap.size) (br := w.heap.size + 1) ((H.alloc _).alloc _) ((Blk.new w _ _).alloc _) (by simpa using Blk.new (w.alloc _) _ _) H.top (Nat.le_trans H.top (Nat.le_add_right _ 1)) e).mono ?_
  rintro _ w1 ⟨rfl, H1, K1⟩
  go_wp2_with fail
  go_ret
  exact ⟨rfl, H1, (((Stays.refl _ _).alloc _).alloc _).trans K1⟩

theorem tiDeep_c {A : GA} {S : GS} {w : World} (H : Held A S w) {r : Int} {v0 : Bool} {T : GS} (e : tiDeep r S = (v0, T)) :
    Calls Tryz.prog 103 #[.pointer (some ⟨A.g, 0, none⟩), .int .i64 r] w (Did A w (.bool v0) T) := by
  have hmf : ∀ (fn : Fn) (first cap : Array Value) (w : World), (Instr.makeFunc fn first cap).run Tryz.prog w = .ok (.func fn first cap) w := fun _ _ _ _ => rfl
  go_enter Tryz.func103, Tryz.ntmps103
  go_wp2_with fail
  refine (tiDeep_ch (bg := w.heap.size) (br := w.heap.size + 1) ((H.alloc _).alloc _) ((Blk.new w _ _).alloc _) (by simpa using Blk.new (w.alloc _) _ _) H.top (Nat.le_trans H.top (Nat.le_add_right _ 1)) e).mono ?_
  rintro _ w1 ⟨rfl, H1, K1⟩
  go_wp2_with fail
  go_ret
  exact ⟨rfl, H1, (((Stays.refl _ _).alloc _).alloc _).trans K1⟩

def obPtr (r : Int) (i : Int) : GM (Int × Int) :=
  obField r i false >>= fun ⟨b, x, er⟩ =>
  if er = 0 then
    Word b x >>= fun v =>
    pure (v, 0)
  else
    pure (0, er)

theorem obPtr_c {A : GA} {S : GS} {w : World} (H : Held A S w) {r : Int} {i : Int} {v0 : Int} {v1 : Int} {T : GS} (e : obPtr r i S = ((v0, v1), T)) :
    Calls Tryz.prog 88 #[.pointer (some ⟨A.g, 0, none⟩), .int .i64 r, .int .i64 i] w (fun e w' => Did A w (.tuple #[.int .i64 v0, .int .i64 v1]) T e w' ∧ 0 ≤ v0 ∧ v0 ≤ 4294967295) := by
  unfold obPtr at e
  replace e := GM.bind_eq e; obtain ⟨⟨b, x, er⟩, S1, e1_, e⟩ := e; have e1 := Hd.mk e1_; clear e1_
  dsimp only at e
  by_cases c2 : er = 0
  · rw [if_pos c2] at e; subst c2
    replace e := GM.bind_eq e; obtain ⟨v, S3, e3_, e⟩ := e; have e3 := Hd.mk e3_; clear e3_
    obtain ⟨hv, rfl⟩ := GM.pure_eq e
    cases hv
    go_enter Tryz.func88, Tryz.ntmps88
    go_wp2_with fail
    with_reducible refine (obField_c (by with_reducible repeat (first | exact H | apply zha | apply zhd | apply zhn)) e1.out).mono ?_
    rintro _ w1 ⟨rfl, H1, K1⟩
    have Bp := Blk.new w1 155 #[.int .i64 b, .int .i64 x]
    go_wp2_with fail
    with_reducible refine (Word_c (by with_reducible repeat (first | exact H1 | apply zha | apply zhd | apply zhn)) e3.out).mono ?_
    rintro _ w3 ⟨rfl, H3, K3⟩
    obtain ⟨rv0, rv1⟩ := stGet_range (H1).ok e3.out
    replace Bp := Blk.stays (by with_reducible repeat (first | exact Bp | apply zba | apply zbd | apply zbn)) K3 (GA.foot_far H1.top)
    have Bp0 : w3.cell? ⟨w1.heap.size, 0, none⟩ = some (.int .i64 b) := Bp.cell 0
    have Bp1 : w3.cell? ⟨w1.heap.size, 1, none⟩ = some (.int .i64 x) := Bp.cell 1
    go_wp2_with fail
    go_ret2
    exact ⟨⟨by first | rfl | (simp; done) | (simp [*]; done), (by with_reducible repeat (first | exact H3 | apply zha | apply zhd | apply zhn)), by
      with_reducible repeat (first | apply zsa | apply zsd | apply zsn)
      refine Stays.trans ?_ K3
      with_reducible repeat (first | apply zsa | apply zsd | apply zsn)
      refine Stays.trans ?_ K1
      with_reducible repeat (first | apply zsa | apply zsd | apply zsn)
      exact Stays.refl _ _⟩, by omega, by omega⟩
  · rw [if_neg c2] at e; have c2b : (er == 0) = false := beq_eq_false_iff_ne.2 c2; have c2n : (er != 0) = true := bne_iff_ne.2 c2
    obtain ⟨hv, rfl⟩ := GM.pure_eq e
    cases hv
    go_enter Tryz.func88, Tryz.ntmps88
    go_wp2_with fail
    with_reducible refine (obField_c (by with_reducible repeat (first | exact H | apply zha | apply zhd | apply zhn)) e1.out).mono ?_
    rintro _ w1 ⟨rfl, H1, K1⟩
    have Bp := Blk.new w1 155 #[.int .i64 b, .int .i64 x]
    go_wp2_with fail
    go_ret2
    exact ⟨⟨by first | rfl | (simp; done) | (simp [*]; done), (by with_reducible repeat (first | exact H1 | apply zha | apply zhd | apply zhn)), by
      with_reducible repeat (first | apply zsa | apply zsd | apply zsn)
      refine Stays.trans ?_ K1
      with_reducible repeat (first | apply zsa | apply zsd | apply zsn)
      exact Stays.refl _ _⟩, by omega, by omega⟩

def obSetPtr (r : Int) (i : Int) (y : Int) : GM Int :=
  obField r i false >>= fun ⟨b, x, er⟩ =>
  if er = 0 then
    if y < 0 then
      pure 2
    else
      getS >>= fun c =>
      if y > c.n then
        pure 2
      else
        SetWord b x y >>= fun _ =>
        pure 0
  else
    pure er

theorem obSetPtr_c {A : GA} {S : GS} {w : World} (H : Held A S w) {r : Int} {i : Int} {y : Int} {v0 : Int} {T : GS} (e : obSetPtr r i y S = (v0, T)) :
    Calls Tryz.prog 91 #[.pointer (some ⟨A.g, 0, none⟩), .int .i64 r, .int .i64 i, .int .i64 y] w (Did A w (.int .i64 v0) T) := by
  unfold obSetPtr at e
  replace e := GM.bind_eq e; obtain ⟨⟨b, x, er⟩, S1, e1_, e⟩ := e; have e1 := Hd.mk e1_; clear e1_
  dsimp only at e
  by_cases c2 : er = 0
  · rw [if_pos c2] at e; subst c2
    by_cases c3 : y < 0
    · rw [if_pos c3] at e
      obtain ⟨hv, rfl⟩ := GM.pure_eq e
      obtain rfl := hv
      go_enter Tryz.func91, Tryz.ntmps91
      go_wp2_with fail
      with_reducible refine (obField_c (by with_reducible repeat (first | exact H | apply zha | apply zhd | apply zhn)) e1.out).mono ?_
      rintro _ w1 ⟨rfl, H1, K1⟩
      have hn3 := H1.ok.n2
      have Bp := Blk.new w1 155 #[.int .i64 b, .int .i64 x]
      go_wp2_with fail
      go_ret
      exact ⟨by first | rfl | (simp; done) | (simp [*]; done), (by with_reducible repeat (first | exact H1 | apply zha | apply zhd | apply zhn)), by
        with_reducible repeat (first | apply zsa | apply zsd | apply zsn)
        refine Stays.trans ?_ K1
        with_reducible repeat (first | apply zsa | apply zsd | apply zsn)
        exact Stays.refl _ _⟩
    · rw [if_neg c3] at e
      replace e := GM.bind_eq e; obtain ⟨c, S4, e4, e⟩ := e
      obtain ⟨rfl, rfl⟩ := getS_eq e4
      by_cases c5 : y > S1.n
      · rw [if_pos c5] at e
        obtain ⟨hv, rfl⟩ := GM.pure_eq e
        obtain rfl := hv
        go_enter Tryz.func91, Tryz.ntmps91
        go_wp2_with fail
        with_reducible refine (obField_c (by with_reducible repeat (first | exact H | apply zha | apply zhd | apply zhn)) e1.out).mono ?_
        rintro _ w1 ⟨rfl, H1, K1⟩
        have hn3 := H1.ok.n2
        have Bp := Blk.new w1 155 #[.int .i64 b, .int .i64 x]
        go_wp2_with fail
        refine (conf_c (by with_reducible repeat (first | exact H1 | apply zha | apply zhd | apply zhn))).mono ?_
        rintro _ w4 ⟨rfl, H4, K4⟩
        replace Bp := Blk.stays (by with_reducible repeat (first | exact Bp | apply zba | apply zbd | apply zbn)) K4 (GA.foot_far H1.top)
        have Bp0 : w4.cell? ⟨w1.heap.size, 0, none⟩ = some (.int .i64 b) := Bp.cell 0
        have Bp1 : w4.cell? ⟨w1.heap.size, 1, none⟩ = some (.int .i64 x) := Bp.cell 1
        go_wp2_with fail
        go_ret
        exact ⟨by first | rfl | (simp; done) | (simp [*]; done), (by with_reducible repeat (first | exact H4 | apply zha | apply zhd | apply zhn)), by
          with_reducible repeat (first | apply zsa | apply zsd | apply zsn)
          refine Stays.trans ?_ K4
          with_reducible repeat (first | apply zsa | apply zsd | apply zsn)
          refine Stays.trans ?_ K1
          with_reducible repeat (first | apply zsa | apply zsd | apply zsn)
          exact Stays.refl _ _⟩
      · rw [if_neg c5] at e
        replace e := GM.bind_eq e; obtain ⟨u6, S6, e6_, e⟩ := e; have e6 := Hd.mk e6_; clear e6_
        obtain ⟨hv, rfl⟩ := GM.pure_eq e
        obtain rfl := hv
        go_enter Tryz.func91, Tryz.ntmps91
        go_wp2_with fail
        with_reducible refine (obField_c (by with_reducible repeat (first | exact H | apply zha | apply zhd | apply zhn)) e1.out).mono ?_
        rintro _ w1 ⟨rfl, H1, K1⟩
        have hn3 := H1.ok.n2
        have Bp := Blk.new w1 155 #[.int .i64 b, .int .i64 x]
        go_wp2_with fail
        refine (conf_c (by with_reducible repeat (first | exact H1 | apply zha | apply zhd | apply zhn))).mono ?_
        rintro _ w4 ⟨rfl, H4, K4⟩
        replace Bp := Blk.stays (by with_reducible repeat (first | exact Bp | apply zba | apply zbd | apply zbn)) K4 (GA.foot_far H1.top)
        have Bp0 : w4.cell? ⟨w1.heap.size, 0, none⟩ = some (.int .i64 b) := Bp.cell 0
        have Bp1 : w4.cell? ⟨w1.heap.size, 1, none⟩ = some (.int .i64 x) := Bp.cell 1
        go_wp2_with fail
        with_reducible refine (SetWord_c (by with_reducible repeat (first | exact H4 | apply zha | apply zhd | apply zhn)) (by omega) (by omega) e6.out).mono ?_
        rintro _ w6 ⟨rfl, H6, K6⟩
        replace Bp := Blk.stays (by with_reducible repeat (first | exact Bp | apply zba | apply zbd | apply zbn)) K6 (GA.foot_far H1.top)
        clear Bp0 Bp1
        have Bp0 : w6.cell? ⟨w1.heap.size, 0, none⟩ = some (.int .i64 b) := Bp.cell 0
        have Bp1 : w6.cell? ⟨w1.heap.size, 1, none⟩ = some (.int .i64 x) := Bp.cell 1
        go_wp2_with fail
        go_ret
        exact ⟨by first | rfl | (simp; done) | (simp [*]; done), (by with_reducible repeat (first | exact H6 | apply zha | apply zhd | apply zhn)), by
          with_reducible repeat (first | apply zsa | apply zsd | apply zsn)
          refine Stays.trans ?_ K6
          with_reducible repeat (first | apply zsa | apply zsd | apply zsn)
          refine Stays.trans ?_ K4
          with_reducible repeat (first | apply zsa | apply zsd | apply zsn)
          refine Stays.trans ?_ K1
          with_reducible repeat (first | apply zsa | apply zsd | apply zsn)
          exact Stays.refl _ _⟩
  · rw [if_neg c2] at e; have c2b : (er == 0) = false := beq_eq_false_iff_ne.2 c2; have c2n : (er != 0) = true := bne_iff_ne.2 c2
    obtain ⟨hv, rfl⟩ := GM.pure_eq e
    obtain rfl := hv
    go_enter Tryz.func91, Tryz.ntmps91
    go_wp2_with fail
    with_reducible refine (obField_c (by with_reducible repeat (first | exact H | apply zha | apply zhd | apply zhn)) e1.out).mono ?_
    rintro _ w1 ⟨rfl, H1, K1⟩
    have hn3 := H1.ok.n2
    have Bp := Blk.new w1 155 #[.int .i64 b, .int .i64 x]
    go_wp2_with fail
    go_ret
    exact ⟨by first | rfl | (simp; done) | (simp [*]; done), (by with_reducible repeat (first | exact H1 | apply zha | apply zhd | apply zhn)), by
      with_reducible repeat (first | apply zsa | apply zsd | apply zsn)
      refine Stays.trans ?_ K1
      with_reducible repeat (first | apply zsa | apply zsd | apply zsn)
      exact Stays.refl _ _⟩

def obData (r : Int) (i : Int) : GM (Int × Int) :=
  obField r i true >>= fun ⟨b, x, er⟩ =>
  if er = 0 then
    Word b x >>= fun v =>
    pure (v, 0)
  else
    pure (0, er)

theorem obData_c {A : GA} {S : GS} {w : World} (H : Held A S w) {r : Int} {i : Int} {v0 : Int} {v1 : Int} {T : GS} (e : obData r i S = ((v0, v1), T)) :
    Calls Tryz.prog 210 #[.pointer (some ⟨A.g, 0, none⟩), .int .i64 r, .int .i64 i] w (Did A w (.tuple #[.int .u32 v0, .int .i64 v1]) T) := by
  unfold obData at e
  replace e := GM.bind_eq e; obtain ⟨⟨b, x, er⟩, S1, e1_, e⟩ := e; have e1 := Hd.mk e1_; clear e1_
  dsimp only at e
  by_cases c2 : er = 0
  · rw [if_pos c2] at e; subst c2
    replace e := GM.bind_eq e; obtain ⟨v, S3, e3_, e⟩ := e; have e3 := Hd.mk e3_; clear e3_
    obtain ⟨hv, rfl⟩ := GM.pure_eq e
    cases hv
    go_enter Tryz.func210, Tryz.ntmps210
    go_wp2_with fail
    with_reducible refine (obField_c (by with_reducible repeat (first | exact H | apply zha | apply zhd | apply zhn)) e1.out).mono ?_
    rintro _ w1 ⟨rfl, H1, K1⟩
    have Bp := Blk.new w1 155 #[.int .i64 b, .int .i64 x]
    go_wp2_with fail
    with_reducible refine (Word_c (by with_reducible repeat (first | exact H1 | apply zha | apply zhd | apply zhn)) e3.out).mono ?_
    rintro _ w3 ⟨rfl, H3, K3⟩
    replace Bp := Blk.stays (by with_reducible repeat (first | exact Bp | apply zba | apply zbd | apply zbn)) K3 (GA.foot_far H1.top)
    have Bp0 : w3.cell? ⟨w1.heap.size, 0, none⟩ = some (.int .i64 b) := Bp.cell 0
    have Bp1 : w3.cell? ⟨w1.heap.size, 1, none⟩ = some (.int .i64 x) := Bp.cell 1
    go_wp2_with fail
    go_ret2
    exact ⟨by first | rfl | (simp; done) | (simp [*]; done), (by with_reducible repeat (first | exact H3 | apply zha | apply zhd | apply zhn)), by
      with_reducible repeat (first | apply zsa | apply zsd | apply zsn)
      refine Stays.trans ?_ K3
      with_reducible repeat (first | apply zsa | apply zsd | apply zsn)
      refine Stays.trans ?_ K1
      with_reducible repeat (first | apply zsa | apply zsd | apply zsn)
      exact Stays.refl _ _⟩
  · rw [if_neg c2] at e; have c2b : (er == 0) = false := beq_eq_false_iff_ne.2 c2; have c2n : (er != 0) = true := bne_iff_ne.2 c2
    obtain ⟨hv, rfl⟩ := GM.pure_eq e
    cases hv
    go_enter Tryz.func210, Tryz.ntmps210
    go_wp2_with fail
    with_reducible refine (obField_c (by with_reducible repeat (first | exact H | apply zha | apply zhd | apply zhn)) e1.out).mono ?_
    rintro _ w1 ⟨rfl, H1, K1⟩
    have Bp := Blk.new w1 155 #[.int .i64 b, .int .i64 x]
    go_wp2_with fail
    go_ret2
    exact ⟨by first | rfl | (simp; done) | (simp [*]; done), (by with_reducible repeat (first | exact H1 | apply zha | apply zhd | apply zhn)), by
      with_reducible repeat (first | apply zsa | apply zsd | apply zsn)
      refine Stays.trans ?_ K1
      with_reducible repeat (first | apply zsa | apply zsd | apply zsn)
      exact Stays.refl _ _⟩

def obSetData (r : Int) (i : Int) (v : Int) : GM Int :=
  obField r i true >>= fun ⟨b, x, er⟩ =>
  if er = 0 then
    SetWord b x v >>= fun _ =>
    pure 0
  else
    pure er

theorem obSetData_c {A : GA} {S : GS} {w : World} (H : Held A S w) {r : Int} {i : Int} {v : Int} {v0 : Int} (h0v : 0 ≤ v) (h1v : v ≤ 4294967295) {T : GS} (e : obSetData r i v S = (v0, T)) :
    Calls Tryz.prog 211 #[.pointer (some ⟨A.g, 0, none⟩), .int .i64 r, .int .i64 i, .int .u32 v] w (Did A w (.int .i64 v0) T) := by
  unfold obSetData at e
  replace e := GM.bind_eq e; obtain ⟨⟨b, x, er⟩, S1, e1_, e⟩ := e; have e1 := Hd.mk e1_; clear e1_
  dsimp only at e
  by_cases c2 : er = 0
  · rw [if_pos c2] at e; subst c2
    replace e := GM.bind_eq e; obtain ⟨u3, S3, e3_, e⟩ := e; have e3 := Hd.mk e3_; clear e3_
    obtain ⟨hv, rfl⟩ := GM.pure_eq e
    obtain rfl := hv
    go_enter Tryz.func211, Tryz.ntmps211
    go_wp2_with fail
    with_reducible refine (obField_c (by with_reducible repeat (first | exact H | apply zha | apply zhd | apply zhn)) e1.out).mono ?_
    rintro _ w1 ⟨rfl, H1, K1⟩
    have Bp := Blk.new w1 155 #[.int .i64 b, .int .i64 x]
    go_wp2_with fail
    with_reducible refine (SetWord_c (by with_reducible repeat (first | exact H1 | apply zha | apply zhd | apply zhn)) h0v h1v e3.out).mono ?_
    rintro _ w3 ⟨rfl, H3, K3⟩
    replace Bp := Blk.stays (by with_reducible repeat (first | exact Bp | apply zba | apply zbd | apply zbn)) K3 (GA.foot_far H1.top)
    have Bp0 : w3.cell? ⟨w1.heap.size, 0, none⟩ = some (.int .i64 b) := Bp.cell 0
    have Bp1 : w3.cell? ⟨w1.heap.size, 1, none⟩ = some (.int .i64 x) := Bp.cell 1
    go_wp2_with fail
    go_ret
    exact ⟨by first | rfl | (simp; done) | (simp [*]; done), (by with_reducible repeat (first | exact H3 | apply zha | apply zhd | apply zhn)), by
      with_reducible repeat (first | apply zsa | apply zsd | apply zsn)
      refine Stays.trans ?_ K3
      with_reducible repeat (first | apply zsa | apply zsd | apply zsn)
      refine Stays.trans ?_ K1
      with_reducible repeat (first | apply zsa | apply zsd | apply zsn)
      exact Stays.refl _ _⟩
  · rw [if_neg c2] at e; have c2b : (er == 0) = false := beq_eq_false_iff_ne.2 c2; have c2n : (er != 0) = true := bne_iff_ne.2 c2
    obtain ⟨hv, rfl⟩ := GM.pure_eq e
    obtain rfl := hv
    go_enter Tryz.func211, Tryz.ntmps211
    go_wp2_with fail
    with_reducible refine (obField_c (by with_reducible repeat (first | exact H | apply zha | apply zhd | apply zhn)) e1.out).mono ?_
    rintro _ w1 ⟨rfl, H1, K1⟩
    have Bp := Blk.new w1 155 #[.int .i64 b, .int .i64 x]
    go_wp2_with fail
    go_ret
    exact ⟨by first | rfl | (simp; done) | (simp [*]; done), (by with_reducible repeat (first | exact H1 | apply zha | apply zhd | apply zhn)), by
      with_reducible repeat (first | apply zsa | apply zsd | apply zsn)
      refine Stays.trans ?_ K1
      with_reducible repeat (first | apply zsa | apply zsd | apply zsn)
      exact Stays.refl _ _⟩

def ctOf (r : Int) : GM Int :=
  obIs r >>= fun i =>
  if i then
    Word (r - 1) 3 >>= fun n =>
    pure n
  else
    pure 0

theorem ctOf_c {A : GA} {S : GS} {w : World} (H : Held A S w) {r : Int} {v0 : Int} {T : GS} (e : ctOf r S = (v0, T)) :
    Calls Tryz.prog 92 #[.pointer (some ⟨A.g, 0, none⟩), .int .i64 r] w (fun e w' => Did A w (.int .i64 v0) T e w' ∧ 0 ≤ v0 ∧ v0 ≤ 4294967295) := by
  unfold ctOf at e
  have hn2 := H.ok.n2
  replace e := GM.bind_eq e; obtain ⟨i, S1, e1_, e⟩ := e; have e1 := Hd.mk e1_; clear e1_
  by_cases c2 : i = true
  · rw [if_pos c2] at e; subst c2
    obtain ⟨hr0, hr1⟩ := obIs_true e1.out
    replace e := GM.bind_eq e; obtain ⟨n, S3, e3_, e⟩ := e; have e3 := Hd.mk e3_; clear e3_
    obtain ⟨hv, rfl⟩ := GM.pure_eq e
    obtain rfl := hv
    go_enter Tryz.func92, Tryz.ntmps92
    go_wp2_with fail
    with_reducible refine (obIs_c (by with_reducible repeat (first | exact H | apply zha | apply zhd | apply zhn)) e1.out).mono ?_
    rintro _ w1 ⟨rfl, H1, K1⟩
    go_wp2_with fail
    with_reducible refine (Word_c (by with_reducible repeat (first | exact H1 | apply zha | apply zhd | apply zhn)) e3.out).mono ?_
    rintro _ w3 ⟨rfl, H3, K3⟩
    obtain ⟨rn0, rn1⟩ := stGet_range (H1).ok e3.out
    go_wp2_with fail
    go_ret
    exact ⟨⟨by first | rfl | (simp; done) | (simp [*]; done), (by with_reducible repeat (first | exact H3 | apply zha | apply zhd | apply zhn)), by
      with_reducible repeat (first | apply zsa | apply zsd | apply zsn)
      refine Stays.trans ?_ K3
      with_reducible repeat (first | apply zsa | apply zsd | apply zsn)
      refine Stays.trans ?_ K1
      with_reducible repeat (first | apply zsa | apply zsd | apply zsn)
      exact Stays.refl _ _⟩, by omega, by omega⟩
  · rw [if_neg c2] at e; obtain rfl := eq_false_of_ne_true c2; clear c2
    obtain ⟨hv, rfl⟩ := GM.pure_eq e
    obtain rfl := hv
    go_enter Tryz.func92, Tryz.ntmps92
    go_wp2_with fail
    with_reducible refine (obIs_c (by with_reducible repeat (first | exact H | apply zha | apply zhd | apply zhn)) e1.out).mono ?_
    rintro _ w1 ⟨rfl, H1, K1⟩
    go_wp2_with fail
    go_ret
    exact ⟨⟨by first | rfl | (simp; done) | (simp [*]; done), (by with_reducible repeat (first | exact H1 | apply zha | apply zhd | apply zhn)), by
      with_reducible repeat (first | apply zsa | apply zsd | apply zsn)
      refine Stays.trans ?_ K1
      with_reducible repeat (first | apply zsa | apply zsd | apply zsn)
      exact Stays.refl _ _⟩, by omega, by omega⟩

def ctUpC (r : Int) : GM (Int × Bool) :=
  obIs r >>= fun i =>
  if i then
    Word (r - 1) 3 >>= fun n =>
    if n = 4294967295 then
      pure (0, false)
    else
      SetWord (r - 1) 3 (n + 1) >>= fun _ =>
      pure (n + 1, true)
  else
    pure (0, false)

theorem ctUpC_c {A : GA} {S : GS} {w : World} (H : Held A S w) {r : Int} {v0 : Int} {v1 : Bool} {T : GS} (e : ctUpC r S = ((v0, v1), T)) :
    Calls Tryz.prog 166 #[.pointer (some ⟨A.g, 0, none⟩), .int .i64 r, .int .i64 1, .int .i64 4294967295] w (Did A w (.tuple #[.int .i64 v0, .bool v1]) T) := by
  unfold ctUpC at e
  have hn2 := H.ok.n2
  replace e := GM.bind_eq e; obtain ⟨i, S1, e1_, e⟩ := e; have e1 := Hd.mk e1_; clear e1_
  by_cases c2 : i = true
  · rw [if_pos c2] at e; subst c2
    obtain ⟨hr0, hr1⟩ := obIs_true e1.out
    replace e := GM.bind_eq e; obtain ⟨n, S3, e3_, e⟩ := e; have e3 := Hd.mk e3_; clear e3_
    by_cases c4 : n = 4294967295
    · rw [if_pos c4] at e; subst c4
      obtain ⟨hv, rfl⟩ := GM.pure_eq e
      cases hv
      go_enter Tryz.func166, Tryz.ntmps166
      go_wp2_with fail
      with_reducible refine (obIs_c (by with_reducible repeat (first | exact H | apply zha | apply zhd | apply zhn)) e1.out).mono ?_
      rintro _ w1 ⟨rfl, H1, K1⟩
      go_wp2_with fail
      with_reducible refine (Word_c (by with_reducible repeat (first | exact H1 | apply zha | apply zhd | apply zhn)) e3.out).mono ?_
      rintro _ w3 ⟨rfl, H3, K3⟩
      obtain ⟨rn0, rn1⟩ := stGet_range (H1).ok e3.out
      go_wp2_with fail
      go_ret2
      exact ⟨by first | rfl | (simp; done) | (simp [*]; done), (by with_reducible repeat (first | exact H3 | apply zha | apply zhd | apply zhn)), by
        with_reducible repeat (first | apply zsa | apply zsd | apply zsn)
        refine Stays.trans ?_ K3
        with_reducible repeat (first | apply zsa | apply zsd | apply zsn)
        refine Stays.trans ?_ K1
        with_reducible repeat (first | apply zsa | apply zsd | apply zsn)
        exact Stays.refl _ _⟩
    · rw [if_neg c4] at e; have c4b : (n == 4294967295) = false := beq_eq_false_iff_ne.2 c4; have c4n : (n != 4294967295) = true := bne_iff_ne.2 c4
      replace e := GM.bind_eq e; obtain ⟨u5, S5, e5_, e⟩ := e; have e5 := Hd.mk e5_; clear e5_
      obtain ⟨hv, rfl⟩ := GM.pure_eq e
      cases hv
      go_enter Tryz.func166, Tryz.ntmps166
      go_wp2_with fail
      with_reducible refine (obIs_c (by with_reducible repeat (first | exact H | apply zha | apply zhd | apply zhn)) e1.out).mono ?_
      rintro _ w1 ⟨rfl, H1, K1⟩
      go_wp2_with fail
      with_reducible refine (Word_c (by with_reducible repeat (first | exact H1 | apply zha | apply zhd | apply zhn)) e3.out).mono ?_
      rintro _ w3 ⟨rfl, H3, K3⟩
      obtain ⟨rn0, rn1⟩ := stGet_range (H1).ok e3.out
      go_wp2_with fail
      with_reducible refine (SetWord_c (by with_reducible repeat (first | exact H3 | apply zha | apply zhd | apply zhn)) (by omega) (by omega) e5.out).mono ?_
      rintro _ w5 ⟨rfl, H5, K5⟩
      go_wp2_with fail
      go_ret2
      exact ⟨by first | rfl | (simp; done) | (simp [*]; done), (by with_reducible repeat (first | exact H5 | apply zha | apply zhd | apply zhn)), by
        with_reducible repeat (first | apply zsa | apply zsd | apply zsn)
        refine Stays.trans ?_ K5
        with_reducible repeat (first | apply zsa | apply zsd | apply zsn)
        refine Stays.trans ?_ K3
        with_reducible repeat (first | apply zsa | apply zsd | apply zsn)
        refine Stays.trans ?_ K1
        with_reducible repeat (first | apply zsa | apply zsd | apply zsn)
        exact Stays.refl _ _⟩
  · rw [if_neg c2] at e; obtain rfl := eq_false_of_ne_true c2; clear c2
    obtain ⟨hv, rfl⟩ := GM.pure_eq e
    cases hv
    go_enter Tryz.func166, Tryz.ntmps166
    go_wp2_with fail
    with_reducible refine (obIs_c (by with_reducible repeat (first | exact H | apply zha | apply zhd | apply zhn)) e1.out).mono ?_
    rintro _ w1 ⟨rfl, H1, K1⟩
    go_wp2_with fail
    go_ret2
    exact ⟨by first | rfl | (simp; done) | (simp [*]; done), (by with_reducible repeat (first | exact H1 | apply zha | apply zhd | apply zhn)), by
      with_reducible repeat (first | apply zsa | apply zsd | apply zsn)
      refine Stays.trans ?_ K1
      with_reducible repeat (first | apply zsa | apply zsd | apply zsn)
      exact Stays.refl _ _⟩

def ctDownC (r : Int) : GM (Int × Bool) :=
  obIs r >>= fun i =>
  if i then
    Word (r - 1) 3 >>= fun n =>
    if n = 0 then
      pure (0, false)
    else
      SetWord (r - 1) 3 (n + -1) >>= fun _ =>
      pure (n + -1, true)
  else
    pure (0, false)

theorem ctDownC_c {A : GA} {S : GS} {w : World} (H : Held A S w) {r : Int} {v0 : Int} {v1 : Bool} {T : GS} (e : ctDownC r S = ((v0, v1), T)) :
    Calls Tryz.prog 166 #[.pointer (some ⟨A.g, 0, none⟩), .int .i64 r, .int .i64 (-1), .int .i64 0] w (Did A w (.tuple #[.int .i64 v0, .bool v1]) T) := by
  unfold ctDownC at e
  have hn2 := H.ok.n2
  replace e := GM.bind_eq e; obtain ⟨i, S1, e1_, e⟩ := e; have e1 := Hd.mk e1_; clear e1_
  by_cases c2 : i = true
  · rw [if_pos c2] at e; subst c2
    obtain ⟨hr0, hr1⟩ := obIs_true e1.out
    replace e := GM.bind_eq e; obtain ⟨n, S3, e3_, e⟩ := e; have e3 := Hd.mk e3_; clear e3_
    by_cases c4 : n = 0
    · rw [if_pos c4] at e; subst c4
      obtain ⟨hv, rfl⟩ := GM.pure_eq e
      cases hv
      go_enter Tryz.func166, Tryz.ntmps166
      go_wp2_with fail
      with_reducible refine (obIs_c (by with_reducible repeat (first | exact H | apply zha | apply zhd | apply zhn)) e1.out).mono ?_
      rintro _ w1 ⟨rfl, H1, K1⟩
      go_wp2_with fail
      with_reducible refine (Word_c (by with_reducible repeat (first | exact H1 | apply zha | apply zhd | apply zhn)) e3.out).mono ?_
      rintro _ w3 ⟨rfl, H3, K3⟩
      obtain ⟨rn0, rn1⟩ := stGet_range (H1).ok e3.out
      go_wp2_with fail
      go_ret2
      exact ⟨by first | rfl | (simp; done) | (simp [*]; done), (by with_reducible repeat (first | exact H3 | apply zha | apply zhd | apply zhn)), by
        with_reducible repeat (first | apply zsa | apply zsd | apply zsn)
        refine Stays.trans ?_ K3
        with_reducible repeat (first | apply zsa | apply zsd | apply zsn)
        refine Stays.trans ?_ K1
        with_reducible repeat (first | apply zsa | apply zsd | apply zsn)
        exact Stays.refl _ _⟩
    · rw [if_neg c4] at e; have c4b : (n == 0) = false := beq_eq_false_iff_ne.2 c4; have c4n : (n != 0) = true := bne_iff_ne.2 c4
      replace e := GM.bind_eq e; obtain ⟨u5, S5, e5_, e⟩ := e; have e5 := Hd.mk e5_; clear e5_
      obtain ⟨hv, rfl⟩ := GM.pure_eq e
      cases hv
      go_enter Tryz.func166, Tryz.ntmps166
      go_wp2_with fail
      with_reducible refine (obIs_c (by with_reducible repeat (first | exact H | apply zha | apply zhd | apply zhn)) e1.out).mono ?_
      rintro _ w1 ⟨rfl, H1, K1⟩
      go_wp2_with fail
      with_reducible refine (Word_c (by with_reducible repeat (first | exact H1 | apply zha | apply zhd | apply zhn)) e3.out).mono ?_
      rintro _ w3 ⟨rfl, H3, K3⟩
      obtain ⟨rn0, rn1⟩ := stGet_range (H1).ok e3.out
      go_wp2_with fail
      with_reducible refine (SetWord_c (by with_reducible repeat (first | exact H3 | apply zha | apply zhd | apply zhn)) (by omega) (by omega) e5.out).mono ?_
      rintro _ w5 ⟨rfl, H5, K5⟩
      go_wp2_with fail
      go_ret2
      exact ⟨by first | rfl | (simp; done) | (simp [*]; done), (by with_reducible repeat (first | exact H5 | apply zha | apply zhd | apply zhn)), by
        with_reducible repeat (first | apply zsa | apply zsd | apply zsn)
        refine Stays.trans ?_ K5
        with_reducible repeat (first | apply zsa | apply zsd | apply zsn)
        refine Stays.trans ?_ K3
        with_reducible repeat (first | apply zsa | apply zsd | apply zsn)
        refine Stays.trans ?_ K1
        with_reducible repeat (first | apply zsa | apply zsd | apply zsn)
        exact Stays.refl _ _⟩
  · rw [if_neg c2] at e; obtain rfl := eq_false_of_ne_true c2; clear c2
    obtain ⟨hv, rfl⟩ := GM.pure_eq e
    cases hv
    go_enter Tryz.func166, Tryz.ntmps166
    go_wp2_with fail
    with_reducible refine (obIs_c (by with_reducible repeat (first | exact H | apply zha | apply zhd | apply zhn)) e1.out).mono ?_
    rintro _ w1 ⟨rfl, H1, K1⟩
    go_wp2_with fail
    go_ret2
    exact ⟨by first | rfl | (simp; done) | (simp [*]; done), (by with_reducible repeat (first | exact H1 | apply zha | apply zhd | apply zhn)), by
      with_reducible repeat (first | apply zsa | apply zsd | apply zsn)
      refine Stays.trans ?_ K1
      with_reducible repeat (first | apply zsa | apply zsd | apply zsn)
      exact Stays.refl _ _⟩

def ctUp (r : Int) : GM (Int × Bool) :=
  ctUpC r >>= fun ⟨n, ok⟩ =>
  pure (n, ok)

theorem ctUp_c {A : GA} {S : GS} {w : World} (H : Held A S w) {r : Int} {v0 : Int} {v1 : Bool} {T : GS} (e : ctUp r S = ((v0, v1), T)) :
    Calls Tryz.prog 87 #[.pointer (some ⟨A.g, 0, none⟩), .int .i64 r] w (Did A w (.tuple #[.int .i64 v0, .bool v1]) T) := by
  unfold ctUp at e
  replace e := GM.bind_eq e; obtain ⟨⟨n, ok⟩, S1, e1_, e⟩ := e; have e1 := Hd.mk e1_; clear e1_
  dsimp only at e
  obtain ⟨hv, rfl⟩ := GM.pure_eq e
  cases hv
  go_enter Tryz.func87, Tryz.ntmps87
  go_wp2_with fail
  with_reducible refine (ctUpC_c (by with_reducible repeat (first | exact H | apply zha | apply zhd | apply zhn)) e1.out).mono ?_
  rintro _ w1 ⟨rfl, H1, K1⟩
  go_wp2_with fail
  go_ret2
  exact ⟨by first | rfl | (simp; done) | (simp [*]; done), (by with_reducible repeat (first | exact H1 | apply zha | apply zhd | apply zhn)), by
    with_reducible repeat (first | apply zsa | apply zsd | apply zsn)
    refine Stays.trans ?_ K1
    with_reducible repeat (first | apply zsa | apply zsd | apply zsn)
    exact Stays.refl _ _⟩

def ctDown (r : Int) : GM (Int × Bool) :=
  ctDownC r >>= fun ⟨n, ok⟩ =>
  pure (n, ok)

theorem ctDown_c {A : GA} {S : GS} {w : World} (H : Held A S w) {r : Int} {v0 : Int} {v1 : Bool} {T : GS} (e : ctDown r S = ((v0, v1), T)) :
    Calls Tryz.prog 172 #[.pointer (some ⟨A.g, 0, none⟩), .int .i64 r] w (Did A w (.tuple #[.int .i64 v0, .bool v1]) T) := by
  unfold ctDown at e
  replace e := GM.bind_eq e; obtain ⟨⟨n, ok⟩, S1, e1_, e⟩ := e; have e1 := Hd.mk e1_; clear e1_
  dsimp only at e
  obtain ⟨hv, rfl⟩ := GM.pure_eq e
  cases hv
  go_enter Tryz.func172, Tryz.ntmps172
  go_wp2_with fail
  with_reducible refine (ctDownC_c (by with_reducible repeat (first | exact H | apply zha | apply zhd | apply zhn)) e1.out).mono ?_
  rintro _ w1 ⟨rfl, H1, K1⟩
  go_wp2_with fail
  go_ret2
  exact ⟨by first | rfl | (simp; done) | (simp [*]; done), (by with_reducible repeat (first | exact H1 | apply zha | apply zhd | apply zhn)), by
    with_reducible repeat (first | apply zsa | apply zsd | apply zsn)
    refine Stays.trans ?_ K1
    with_reducible repeat (first | apply zsa | apply zsd | apply zsn)
    exact Stays.refl _ _⟩

def tiPhase : GM Int :=
  Reg 11 >>= fun n =>
  pure n

theorem tiPhase_c {A : GA} {S : GS} {w : World} (H : Held A S w) {v0 : Int} {T : GS} (e : tiPhase S = (v0, T)) :
    Calls Tryz.prog 97 #[.pointer (some ⟨A.g, 0, none⟩)] w (Did A w (.int .i64 v0) T) := by
  unfold tiPhase at e
  replace e := GM.bind_eq e; obtain ⟨n, S1, e1_, e⟩ := e; have e1 := Hd.mk e1_; clear e1_
  obtain ⟨hv, rfl⟩ := GM.pure_eq e
  obtain rfl := hv
  go_enter Tryz.func97, Tryz.ntmps97
  go_wp2_with fail
  with_reducible refine (Reg_c (by with_reducible repeat (first | exact H | apply zha | apply zhd | apply zhn)) e1.out).mono ?_
  rintro _ w1 ⟨rfl, H1, K1⟩
  go_wp2_with fail
  go_ret
  exact ⟨by first | rfl | (simp; done) | (simp [*]; done), (by with_reducible repeat (first | exact H1 | apply zha | apply zhd | apply zhn)), by
    with_reducible repeat (first | apply zsa | apply zsd | apply zsn)
    refine Stays.trans ?_ K1
    with_reducible repeat (first | apply zsa | apply zsd | apply zsn)
    exact Stays.refl _ _⟩

def tiTurn : GM Unit :=
  Reg 10 >>= fun n =>
  SetReg 10 (1 - n) >>= fun _ =>
  pure ()

theorem tiTurn_c {A : GA} {S : GS} {w : World} (H : Held A S w) {T : GS} (e : tiTurn S = ((), T)) :
    Calls Tryz.prog 28 #[.pointer (some ⟨A.g, 0, none⟩)] w (Did A w (.tuple #[]) T) := by
  unfold tiTurn at e
  replace e := GM.bind_eq e; obtain ⟨n, S1, e1_, e⟩ := e; have e1 := Hd.mk e1_; clear e1_
  replace e := GM.bind_eq e; obtain ⟨u2, S2, e2_, e⟩ := e; have e2 := Hd.mk e2_; clear e2_
  obtain ⟨hv, rfl⟩ := GM.pure_eq e
  clear hv
  go_enter Tryz.func28, Tryz.ntmps28
  go_wp2_with fail
  with_reducible refine (Reg_c (by with_reducible repeat (first | exact H | apply zha | apply zhd | apply zhn)) e1.out).mono ?_
  rintro _ w1 ⟨rfl, H1, K1⟩
  obtain ⟨rn0, rn1⟩ := stGet_range (H).ok e1.out
  go_wp2_with fail
  with_reducible refine (SetReg_c (by with_reducible repeat (first | exact H1 | apply zha | apply zhd | apply zhn)) e2.out).mono ?_
  rintro _ w2 ⟨rfl, H2, K2⟩
  go_wp2_with fail
  go_end0
  exact ⟨by first | rfl | (simp; done) | (simp [*]; done), (by with_reducible repeat (first | exact H2 | apply zha | apply zhd | apply zhn)), by
    with_reducible repeat (first | apply zsa | apply zsd | apply zsn)
    refine Stays.trans ?_ K2
    with_reducible repeat (first | apply zsa | apply zsd | apply zsn)
    refine Stays.trans ?_ K1
    with_reducible repeat (first | apply zsa | apply zsd | apply zsn)
    exact Stays.refl _ _⟩

def tiAt : GM (Int × Int) :=
  Reg 12 >>= fun c0 =>
  Reg 13 >>= fun f0 =>
  pure (c0, f0)

theorem tiAt_c {A : GA} {S : GS} {w : World} (H : Held A S w) {v0 : Int} {v1 : Int} {T : GS} (e : tiAt S = ((v0, v1), T)) :
    Calls Tryz.prog 31 #[.pointer (some ⟨A.g, 0, none⟩)] w (Did A w (.tuple #[.int .i64 v0, .int .i64 v1]) T) := by
  unfold tiAt at e
  replace e := GM.bind_eq e; obtain ⟨c0, S1, e1_, e⟩ := e; have e1 := Hd.mk e1_; clear e1_
  replace e := GM.bind_eq e; obtain ⟨f0, S2, e2_, e⟩ := e; have e2 := Hd.mk e2_; clear e2_
  obtain ⟨hv, rfl⟩ := GM.pure_eq e
  cases hv
  go_enter Tryz.func31, Tryz.ntmps31
  go_wp2_with fail
  with_reducible refine (Reg_c (by with_reducible repeat (first | exact H | apply zha | apply zhd | apply zhn)) e1.out).mono ?_
  rintro _ w1 ⟨rfl, H1, K1⟩
  go_wp2_with fail
  with_reducible refine (Reg_c (by with_reducible repeat (first | exact H1 | apply zha | apply zhd | apply zhn)) e2.out).mono ?_
  rintro _ w2 ⟨rfl, H2, K2⟩
  go_wp2_with fail
  go_ret2
  exact ⟨by first | rfl | (simp; done) | (simp [*]; done), (by with_reducible repeat (first | exact H2 | apply zha | apply zhd | apply zhn)), by
    with_reducible repeat (first | apply zsa | apply zsd | apply zsn)
    refine Stays.trans ?_ K2
    with_reducible repeat (first | apply zsa | apply zsd | apply zsn)
    refine Stays.trans ?_ K1
    with_reducible repeat (first | apply zsa | apply zsd | apply zsn)
    exact Stays.refl _ _⟩

def tiDead (r : Int) : GM Bool :=
  tiOf r >>= fun ⟨t, ok⟩ =>
  if ok then
    if t.dead = 1 then
      pure true
    else
      pure false
  else
    pure false

theorem tiDead_c {A : GA} {S : GS} {w : World} (H : Held A S w) {r : Int} {v0 : Bool} {T : GS} (e : tiDead r S = (v0, T)) :
    Calls Tryz.prog 122 #[.pointer (some ⟨A.g, 0, none⟩), .int .i64 r] w (Did A w (.bool v0) T) := by
  unfold tiDead at e
  replace e := GM.bind_eq e; obtain ⟨⟨t, ok⟩, S1, e1_, e⟩ := e; have e1 := Hd.mk e1_; clear e1_
  dsimp only at e
  by_cases c2 : ok = true
  · rw [if_pos c2] at e; subst c2
    by_cases c3 : t.dead = 1
    · rw [if_pos c3] at e; have c3b : (t.dead == 1) = true := beq_iff_eq.2 c3; have c3n : (t.dead != 1) = false := by rw [bne_eq_false_iff_eq]; exact c3
      clear c3
      obtain ⟨hv, rfl⟩ := GM.pure_eq e
      obtain rfl := hv
      go_enter Tryz.func122, Tryz.ntmps122
      go_wp2_with fail
      with_reducible refine (tiOf_c (by with_reducible repeat (first | exact H | apply zha | apply zhd | apply zhn)) e1.out).mono ?_
      rintro _ w1 ⟨rfl, H1, K1⟩
      have Bt := Blk.new w1 149 #[.int .i64 t.kind, .int .i64 t.color, .int .i64 t.count, .int .i64 t.shade, .int .i64 t.dead, .int .i64 t.ring, .int .i64 t.owner]
      go_wp2_with fail
      go_ret
      exact ⟨by first | rfl | (simp; done) | (simp [*]; done), (by with_reducible repeat (first | exact H1 | apply zha | apply zhd | apply zhn)), by
        with_reducible repeat (first | apply zsa | apply zsd | apply zsn)
        refine Stays.trans ?_ K1
        with_reducible repeat (first | apply zsa | apply zsd | apply zsn)
        exact Stays.refl _ _⟩
    · rw [if_neg c3] at e; have c3b : (t.dead == 1) = false := beq_eq_false_iff_ne.2 c3; have c3n : (t.dead != 1) = true := bne_iff_ne.2 c3
      obtain ⟨hv, rfl⟩ := GM.pure_eq e
      obtain rfl := hv
      go_enter Tryz.func122, Tryz.ntmps122
      go_wp2_with fail
      with_reducible refine (tiOf_c (by with_reducible repeat (first | exact H | apply zha | apply zhd | apply zhn)) e1.out).mono ?_
      rintro _ w1 ⟨rfl, H1, K1⟩
      have Bt := Blk.new w1 149 #[.int .i64 t.kind, .int .i64 t.color, .int .i64 t.count, .int .i64 t.shade, .int .i64 t.dead, .int .i64 t.ring, .int .i64 t.owner]
      go_wp2_with fail
      go_ret
      exact ⟨by first | rfl | (simp; done) | (simp [*]; done), (by with_reducible repeat (first | exact H1 | apply zha | apply zhd | apply zhn)), by
        with_reducible repeat (first | apply zsa | apply zsd | apply zsn)
        refine Stays.trans ?_ K1
        with_reducible repeat (first | apply zsa | apply zsd | apply zsn)
        exact Stays.refl _ _⟩
  · rw [if_neg c2] at e; obtain rfl := eq_false_of_ne_true c2; clear c2
    obtain ⟨hv, rfl⟩ := GM.pure_eq e
    obtain rfl := hv
    go_enter Tryz.func122, Tryz.ntmps122
    go_wp2_with fail
    with_reducible refine (tiOf_c (by with_reducible repeat (first | exact H | apply zha | apply zhd | apply zhn)) e1.out).mono ?_
    rintro _ w1 ⟨rfl, H1, K1⟩
    have Bt := Blk.new w1 149 #[.int .i64 t.kind, .int .i64 t.color, .int .i64 t.count, .int .i64 t.shade, .int .i64 t.dead, .int .i64 t.ring, .int .i64 t.owner]
    go_wp2_with fail
    go_ret
    exact ⟨by first | rfl | (simp; done) | (simp [*]; done), (by with_reducible repeat (first | exact H1 | apply zha | apply zhd | apply zhn)), by
      with_reducible repeat (first | apply zsa | apply zsd | apply zsn)
      refine Stays.trans ?_ K1
      with_reducible repeat (first | apply zsa | apply zsd | apply zsn)
      exact Stays.refl _ _⟩

def tiBlack (r : Int) : GM Bool :=
  tiOf r >>= fun ⟨t, ok⟩ =>
  if ok then
    tiParity >>= fun now =>
    if t.color = now then
      pure true
    else
      pure false
  else
    pure false

theorem tiBlack_c {A : GA} {S : GS} {w : World} (H : Held A S w) {r : Int} {v0 : Bool} {T : GS} (e : tiBlack r S = (v0, T)) :
    Calls Tryz.prog 121 #[.pointer (some ⟨A.g, 0, none⟩), .int .i64 r] w (Did A w (.bool v0) T) := by
  unfold tiBlack at e
  replace e := GM.bind_eq e; obtain ⟨⟨t, ok⟩, S1, e1_, e⟩ := e; have e1 := Hd.mk e1_; clear e1_
  dsimp only at e
  by_cases c2 : ok = true
  · rw [if_pos c2] at e; subst c2
    replace e := GM.bind_eq e; obtain ⟨now, S3, e3_, e⟩ := e; have e3 := Hd.mk e3_; clear e3_
    by_cases c4 : t.color = now
    · rw [if_pos c4] at e; have c4b : (t.color == now) = true := beq_iff_eq.2 c4; have c4n : (t.color != now) = false := by rw [bne_eq_false_iff_eq]; exact c4
      clear c4
      obtain ⟨hv, rfl⟩ := GM.pure_eq e
      obtain rfl := hv
      go_enter Tryz.func121, Tryz.ntmps121
      go_wp2_with fail
      with_reducible refine (tiOf_c (by with_reducible repeat (first | exact H | apply zha | apply zhd | apply zhn)) e1.out).mono ?_
      rintro _ w1 ⟨rfl, H1, K1⟩
      have Bt := Blk.new w1 149 #[.int .i64 t.kind, .int .i64 t.color, .int .i64 t.count, .int .i64 t.shade, .int .i64 t.dead, .int .i64 t.ring, .int .i64 t.owner]
      have Bt0 : (w1.alloc (Obj.cells #[.int .i64 t.kind, .int .i64 t.color, .int .i64 t.count, .int .i64 t.shade, .int .i64 t.dead, .int .i64 t.ring, .int .i64 t.owner] 149)).cell? ⟨w1.heap.size, 0, none⟩ = some (.int .i64 t.kind) := Bt.cell 0
      have Bt1 : (w1.alloc (Obj.cells #[.int .i64 t.kind, .int .i64 t.color, .int .i64 t.count, .int .i64 t.shade, .int .i64 t.dead, .int .i64 t.ring, .int .i64 t.owner] 149)).cell? ⟨w1.heap.size, 1, none⟩ = some (.int .i64 t.color) := Bt.cell 1
      have Bt2 : (w1.alloc (Obj.cells #[.int .i64 t.kind, .int .i64 t.color, .int .i64 t.count, .int .i64 t.shade, .int .i64 t.dead, .int .i64 t.ring, .int .i64 t.owner] 149)).cell? ⟨w1.heap.size, 2, none⟩ = some (.int .i64 t.count) := Bt.cell 2
      have Bt3 : (w1.alloc (Obj.cells #[.int .i64 t.kind, .int .i64 t.color, .int .i64 t.count, .int .i64 t.shade, .int .i64 t.dead, .int .i64 t.ring, .int .i64 t.owner] 149)).cell? ⟨w1.heap.size, 3, none⟩ = some (.int .i64 t.shade) := Bt.cell 3
      have Bt4 : (w1.alloc (Obj.cells #[.int .i64 t.kind, .int .i64 t.color, .int .i64 t.count, .int .i64 t.shade, .int .i64 t.dead, .int .i64 t.ring, .int .i64 t.owner] 149)).cell? ⟨w1.heap.size, 4, none⟩ = some (.int .i64 t.dead) := Bt.cell 4
      have Bt5 : (w1.alloc (Obj.cells #[.int .i64 t.kind, .int .i64 t.color, .int .i64 t.count, .int .i64 t.shade, .int .i64 t.dead, .int .i64 t.ring, .int .i64 t.owner] 149)).cell? ⟨w1.heap.size, 5, none⟩ = some (.int .i64 t.ring) := Bt.cell 5
      have Bt6 : (w1.alloc (Obj.cells #[.int .i64 t.kind, .int .i64 t.color, .int .i64 t.count, .int .i64 t.shade, .int .i64 t.dead, .int .i64 t.ring, .int .i64 t.owner] 149)).cell? ⟨w1.heap.size, 6, none⟩ = some (.int .i64 t.owner) := Bt.cell 6
      go_wp2_with fail
      go_region_held3 (fun wx => wx.cell? ⟨w1.heap.size, 0, none⟩ = some (.int .i64 t.kind) ∧ wx.cell? ⟨w1.heap.size, 1, none⟩ = some (.int .i64 t.color) ∧ wx.cell? ⟨w1.heap.size, 2, none⟩ = some (.int .i64 t.count) ∧ wx.cell? ⟨w1.heap.size, 3, none⟩ = some (.int .i64 t.shade) ∧ wx.cell? ⟨w1.heap.size, 4, none⟩ = some (.int .i64 t.dead) ∧ wx.cell? ⟨w1.heap.size, 5, none⟩ = some (.int .i64 t.ring) ∧ wx.cell? ⟨w1.heap.size, 6, none⟩ = some (.int .i64 t.owner))
        (first | exact ⟨Bt0, Bt1, Bt2, Bt3, Bt4, Bt5, Bt6⟩ | go_keep)
        (first | (go_at_call 170; ((repeat (first | rw [IntWalk.i64_in _ (by omega)] | rw [IntWalk.u32_in _ (by omega)]))); (with_reducible refine (tiParity_c (by with_reducible repeat (first | exact H1 | apply zha | apply zhd | apply zhn)) e3.out).mono ?_); (rintro _ w3 ⟨rfl, H3, K3⟩); (replace Bt := Blk.stays (by with_reducible repeat (first | exact Bt | apply zba | apply zbd | apply zbn)) K3 (GA.foot_far H1.top)); (clear Bt0 Bt1 Bt2 Bt3 Bt4 Bt5 Bt6); (have Bt0 : w3.cell? ⟨w1.heap.size, 0, none⟩ = some (.int .i64 t.kind) := Bt.cell 0); (have Bt1 : w3.cell? ⟨w1.heap.size, 1, none⟩ = some (.int .i64 t.color) := Bt.cell 1); (have Bt2 : w3.cell? ⟨w1.heap.size, 2, none⟩ = some (.int .i64 t.count) := Bt.cell 2); (have Bt3 : w3.cell? ⟨w1.heap.size, 3, none⟩ = some (.int .i64 t.shade) := Bt.cell 3); (have Bt4 : w3.cell? ⟨w1.heap.size, 4, none⟩ = some (.int .i64 t.dead) := Bt.cell 4); (have Bt5 : w3.cell? ⟨w1.heap.size, 5, none⟩ = some (.int .i64 t.ring) := Bt.cell 5); (have Bt6 : w3.cell? ⟨w1.heap.size, 6, none⟩ = some (.int .i64 t.owner) := Bt.cell 6)))
      go_wp2_with fail
      go_ret
      exact ⟨by first | rfl | (simp; done) | (simp [*]; done), (by with_reducible repeat (first | exact H3 | apply zha | apply zhd | apply zhn)), by
        with_reducible repeat (first | apply zsa | apply zsd | apply zsn)
        refine Stays.trans ?_ K3
        with_reducible repeat (first | apply zsa | apply zsd | apply zsn)
        refine Stays.trans ?_ K1
        with_reducible repeat (first | apply zsa | apply zsd | apply zsn)
        exact Stays.refl _ _⟩
    · rw [if_neg c4] at e; have c4b : (t.color == now) = false := beq_eq_false_iff_ne.2 c4; have c4n : (t.color != now) = true := bne_iff_ne.2 c4
      obtain ⟨hv, rfl⟩ := GM.pure_eq e
      obtain rfl := hv
      go_enter Tryz.func121, Tryz.ntmps121
      go_wp2_with fail
      with_reducible refine (tiOf_c (by with_reducible repeat (first | exact H | apply zha | apply zhd | apply zhn)) e1.out).mono ?_
      rintro _ w1 ⟨rfl, H1, K1⟩
      have Bt := Blk.new w1 149 #[.int .i64 t.kind, .int .i64 t.color, .int .i64 t.count, .int .i64 t.shade, .int .i64 t.dead, .int .i64 t.ring, .int .i64 t.owner]
      have Bt0 : (w1.alloc (Obj.cells #[.int .i64 t.kind, .int .i64 t.color, .int .i64 t.count, .int .i64 t.shade, .int .i64 t.dead, .int .i64 t.ring, .int .i64 t.owner] 149)).cell? ⟨w1.heap.size, 0, none⟩ = some (.int .i64 t.kind) := Bt.cell 0
      have Bt1 : (w1.alloc (Obj.cells #[.int .i64 t.kind, .int .i64 t.color, .int .i64 t.count, .int .i64 t.shade, .int .i64 t.dead, .int .i64 t.ring, .int .i64 t.owner] 149)).cell? ⟨w1.heap.size, 1, none⟩ = some (.int .i64 t.color) := Bt.cell 1
      have Bt2 : (w1.alloc (Obj.cells #[.int .i64 t.kind, .int .i64 t.color, .int .i64 t.count, .int .i64 t.shade, .int .i64 t.dead, .int .i64 t.ring, .int .i64 t.owner] 149)).cell? ⟨w1.heap.size, 2, none⟩ = some (.int .i64 t.count) := Bt.cell 2
      have Bt3 : (w1.alloc (Obj.cells #[.int .i64 t.kind, .int .i64 t.color, .int .i64 t.count, .int .i64 t.shade, .int .i64 t.dead, .int .i64 t.ring, .int .i64 t.owner] 149)).cell? ⟨w1.heap.size, 3, none⟩ = some (.int .i64 t.shade) := Bt.cell 3
      have Bt4 : (w1.alloc (Obj.cells #[.int .i64 t.kind, .int .i64 t.color, .int .i64 t.count, .int .i64 t.shade, .int .i64 t.dead, .int .i64 t.ring, .int .i64 t.owner] 149)).cell? ⟨w1.heap.size, 4, none⟩ = some (.int .i64 t.dead) := Bt.cell 4
      have Bt5 : (w1.alloc (Obj.cells #[.int .i64 t.kind, .int .i64 t.color, .int .i64 t.count, .int .i64 t.shade, .int .i64 t.dead, .int .i64 t.ring, .int .i64 t.owner] 149)).cell? ⟨w1.heap.size, 5, none⟩ = some (.int .i64 t.ring) := Bt.cell 5
      have Bt6 : (w1.alloc (Obj.cells #[.int .i64 t.kind, .int .i64 t.color, .int .i64 t.count, .int .i64 t.shade, .int .i64 t.dead, .int .i64 t.ring, .int .i64 t.owner] 149)).cell? ⟨w1.heap.size, 6, none⟩ = some (.int .i64 t.owner) := Bt.cell 6
      go_wp2_with fail
      go_region_held3 (fun wx => wx.cell? ⟨w1.heap.size, 0, none⟩ = some (.int .i64 t.kind) ∧ wx.cell? ⟨w1.heap.size, 1, none⟩ = some (.int .i64 t.color) ∧ wx.cell? ⟨w1.heap.size, 2, none⟩ = some (.int .i64 t.count) ∧ wx.cell? ⟨w1.heap.size, 3, none⟩ = some (.int .i64 t.shade) ∧ wx.cell? ⟨w1.heap.size, 4, none⟩ = some (.int .i64 t.dead) ∧ wx.cell? ⟨w1.heap.size, 5, none⟩ = some (.int .i64 t.ring) ∧ wx.cell? ⟨w1.heap.size, 6, none⟩ = some (.int .i64 t.owner))
        (first | exact ⟨Bt0, Bt1, Bt2, Bt3, Bt4, Bt5, Bt6⟩ | go_keep)
        (first | (go_at_call 170; ((repeat (first | rw [IntWalk.i64_in _ (by omega)] | rw [IntWalk.u32_in _ (by omega)]))); (with_reducible refine (tiParity_c (by with_reducible repeat (first | exact H1 | apply zha | apply zhd | apply zhn)) e3.out).mono ?_); (rintro _ w3 ⟨rfl, H3, K3⟩); (replace Bt := Blk.stays (by with_reducible repeat (first | exact Bt | apply zba | apply zbd | apply zbn)) K3 (GA.foot_far H1.top)); (clear Bt0 Bt1 Bt2 Bt3 Bt4 Bt5 Bt6); (have Bt0 : w3.cell? ⟨w1.heap.size, 0, none⟩ = some (.int .i64 t.kind) := Bt.cell 0); (have Bt1 : w3.cell? ⟨w1.heap.size, 1, none⟩ = some (.int .i64 t.color) := Bt.cell 1); (have Bt2 : w3.cell? ⟨w1.heap.size, 2, none⟩ = some (.int .i64 t.count) := Bt.cell 2); (have Bt3 : w3.cell? ⟨w1.heap.size, 3, none⟩ = some (.int .i64 t.shade) := Bt.cell 3); (have Bt4 : w3.cell? ⟨w1.heap.size, 4, none⟩ = some (.int .i64 t.dead) := Bt.cell 4); (have Bt5 : w3.cell? ⟨w1.heap.size, 5, none⟩ = some (.int .i64 t.ring) := Bt.cell 5); (have Bt6 : w3.cell? ⟨w1.heap.size, 6, none⟩ = some (.int .i64 t.owner) := Bt.cell 6)))
      go_wp2_with fail
      go_ret
      exact ⟨by first | rfl | (simp; done) | (simp [*]; done), (by with_reducible repeat (first | exact H3 | apply zha | apply zhd | apply zhn)), by
        with_reducible repeat (first | apply zsa | apply zsd | apply zsn)
        refine Stays.trans ?_ K3
        with_reducible repeat (first | apply zsa | apply zsd | apply zsn)
        refine Stays.trans ?_ K1
        with_reducible repeat (first | apply zsa | apply zsd | apply zsn)
        exact Stays.refl _ _⟩
  · rw [if_neg c2] at e; obtain rfl := eq_false_of_ne_true c2; clear c2
    obtain ⟨hv, rfl⟩ := GM.pure_eq e
    obtain rfl := hv
    go_enter Tryz.func121, Tryz.ntmps121
    go_wp2_with fail
    with_reducible refine (tiOf_c (by with_reducible repeat (first | exact H | apply zha | apply zhd | apply zhn)) e1.out).mono ?_
    rintro _ w1 ⟨rfl, H1, K1⟩
    have Bt := Blk.new w1 149 #[.int .i64 t.kind, .int .i64 t.color, .int .i64 t.count, .int .i64 t.shade, .int .i64 t.dead, .int .i64 t.ring, .int .i64 t.owner]
    have Bt0 : (w1.alloc (Obj.cells #[.int .i64 t.kind, .int .i64 t.color, .int .i64 t.count, .int .i64 t.shade, .int .i64 t.dead, .int .i64 t.ring, .int .i64 t.owner] 149)).cell? ⟨w1.heap.size, 0, none⟩ = some (.int .i64 t.kind) := Bt.cell 0
    have Bt1 : (w1.alloc (Obj.cells #[.int .i64 t.kind, .int .i64 t.color, .int .i64 t.count, .int .i64 t.shade, .int .i64 t.dead, .int .i64 t.ring, .int .i64 t.owner] 149)).cell? ⟨w1.heap.size, 1, none⟩ = some (.int .i64 t.color) := Bt.cell 1
    have Bt2 : (w1.alloc (Obj.cells #[.int .i64 t.kind, .int .i64 t.color, .int .i64 t.count, .int .i64 t.shade, .int .i64 t.dead, .int .i64 t.ring, .int .i64 t.owner] 149)).cell? ⟨w1.heap.size, 2, none⟩ = some (.int .i64 t.count) := Bt.cell 2
    have Bt3 : (w1.alloc (Obj.cells #[.int .i64 t.kind, .int .i64 t.color, .int .i64 t.count, .int .i64 t.shade, .int .i64 t.dead, .int .i64 t.ring, .int .i64 t.owner] 149)).cell? ⟨w1.heap.size, 3, none⟩ = some (.int .i64 t.shade) := Bt.cell 3
    have Bt4 : (w1.alloc (Obj.cells #[.int .i64 t.kind, .int .i64 t.color, .int .i64 t.count, .int .i64 t.shade, .int .i64 t.dead, .int .i64 t.ring, .int .i64 t.owner] 149)).cell? ⟨w1.heap.size, 4, none⟩ = some (.int .i64 t.dead) := Bt.cell 4
    have Bt5 : (w1.alloc (Obj.cells #[.int .i64 t.kind, .int .i64 t.color, .int .i64 t.count, .int .i64 t.shade, .int .i64 t.dead, .int .i64 t.ring, .int .i64 t.owner] 149)).cell? ⟨w1.heap.size, 5, none⟩ = some (.int .i64 t.ring) := Bt.cell 5
    have Bt6 : (w1.alloc (Obj.cells #[.int .i64 t.kind, .int .i64 t.color, .int .i64 t.count, .int .i64 t.shade, .int .i64 t.dead, .int .i64 t.ring, .int .i64 t.owner] 149)).cell? ⟨w1.heap.size, 6, none⟩ = some (.int .i64 t.owner) := Bt.cell 6
    go_wp2_with fail
    go_quiet (fail)
    go_wp2_with fail
    go_ret
    exact ⟨by first | rfl | (simp; done) | (simp [*]; done), (by with_reducible repeat (first | exact H1 | apply zha | apply zhd | apply zhn)), by
      with_reducible repeat (first | apply zsa | apply zsd | apply zsn)
      refine Stays.trans ?_ K1
      with_reducible repeat (first | apply zsa | apply zsd | apply zsn)
      exact Stays.refl _ _⟩

def tiShadow (r : Int) : GM Int :=
  tiOf r >>= fun ⟨t, ok⟩ =>
  if ok then
    tiParity >>= fun now =>
    if t.shade = now then
      Word (r - 1) 4 >>= fun n =>
      pure n
    else
      pure 0
  else
    pure 0

theorem tiShadow_c {A : GA} {S : GS} {w : World} (H : Held A S w) {r : Int} {v0 : Int} {T : GS} (e : tiShadow r S = (v0, T)) :
    Calls Tryz.prog 106 #[.pointer (some ⟨A.g, 0, none⟩), .int .i64 r] w (fun e w' => Did A w (.int .i64 v0) T e w' ∧ 0 ≤ v0 ∧ v0 ≤ 4294967295) := by
  unfold tiShadow at e
  have hn2 := H.ok.n2
  replace e := GM.bind_eq e; obtain ⟨⟨t, ok⟩, S1, e1_, e⟩ := e; have e1 := Hd.mk e1_; clear e1_
  dsimp only at e
  by_cases c2 : ok = true
  · rw [if_pos c2] at e; subst c2
    obtain ⟨_, _, hr0, hr1⟩ := tiOf_used e1.out
    replace e := GM.bind_eq e; obtain ⟨now, S3, e3_, e⟩ := e; have e3 := Hd.mk e3_; clear e3_
    by_cases c4 : t.shade = now
    · rw [if_pos c4] at e; have c4b : (t.shade == now) = true := beq_iff_eq.2 c4; have c4n : (t.shade != now) = false := by rw [bne_eq_false_iff_eq]; exact c4
      clear c4
      replace e := GM.bind_eq e; obtain ⟨n, S5, e5_, e⟩ := e; have e5 := Hd.mk e5_; clear e5_
      obtain ⟨hv, rfl⟩ := GM.pure_eq e
      obtain rfl := hv
      go_enter Tryz.func106, Tryz.ntmps106
      go_wp2_with fail
      with_reducible refine (tiOf_c (by with_reducible repeat (first | exact H | apply zha | apply zhd | apply zhn)) e1.out).mono ?_
      rintro _ w1 ⟨rfl, H1, K1⟩
      have Bt := Blk.new w1 149 #[.int .i64 t.kind, .int .i64 t.color, .int .i64 t.count, .int .i64 t.shade, .int .i64 t.dead, .int .i64 t.ring, .int .i64 t.owner]
      have Bt0 : (w1.alloc (Obj.cells #[.int .i64 t.kind, .int .i64 t.color, .int .i64 t.count, .int .i64 t.shade, .int .i64 t.dead, .int .i64 t.ring, .int .i64 t.owner] 149)).cell? ⟨w1.heap.size, 0, none⟩ = some (.int .i64 t.kind) := Bt.cell 0
      have Bt1 : (w1.alloc (Obj.cells #[.int .i64 t.kind, .int .i64 t.color, .int .i64 t.count, .int .i64 t.shade, .int .i64 t.dead, .int .i64 t.ring, .int .i64 t.owner] 149)).cell? ⟨w1.heap.size, 1, none⟩ = some (.int .i64 t.color) := Bt.cell 1
      have Bt2 : (w1.alloc (Obj.cells #[.int .i64 t.kind, .int .i64 t.color, .int .i64 t.count, .int .i64 t.shade, .int .i64 t.dead, .int .i64 t.ring, .int .i64 t.owner] 149)).cell? ⟨w1.heap.size, 2, none⟩ = some (.int .i64 t.count) := Bt.cell 2
      have Bt3 : (w1.alloc (Obj.cells #[.int .i64 t.kind, .int .i64 t.color, .int .i64 t.count, .int .i64 t.shade, .int .i64 t.dead, .int .i64 t.ring, .int .i64 t.owner] 149)).cell? ⟨w1.heap.size, 3, none⟩ = some (.int .i64 t.shade) := Bt.cell 3
      have Bt4 : (w1.alloc (Obj.cells #[.int .i64 t.kind, .int .i64 t.color, .int .i64 t.count, .int .i64 t.shade, .int .i64 t.dead, .int .i64 t.ring, .int .i64 t.owner] 149)).cell? ⟨w1.heap.size, 4, none⟩ = some (.int .i64 t.dead) := Bt.cell 4
      have Bt5 : (w1.alloc (Obj.cells #[.int .i64 t.kind, .int .i64 t.color, .int .i64 t.count, .int .i64 t.shade, .int .i64 t.dead, .int .i64 t.ring, .int .i64 t.owner] 149)).cell? ⟨w1.heap.size, 5, none⟩ = some (.int .i64 t.ring) := Bt.cell 5
      have Bt6 : (w1.alloc (Obj.cells #[.int .i64 t.kind, .int .i64 t.color, .int .i64 t.count, .int .i64 t.shade, .int .i64 t.dead, .int .i64 t.ring, .int .i64 t.owner] 149)).cell? ⟨w1.heap.size, 6, none⟩ = some (.int .i64 t.owner) := Bt.cell 6
      go_wp2_with fail
      go_region_held3 (fun wx => wx.cell? ⟨w1.heap.size, 0, none⟩ = some (.int .i64 t.kind) ∧ wx.cell? ⟨w1.heap.size, 1, none⟩ = some (.int .i64 t.color) ∧ wx.cell? ⟨w1.heap.size, 2, none⟩ = some (.int .i64 t.count) ∧ wx.cell? ⟨w1.heap.size, 3, none⟩ = some (.int .i64 t.shade) ∧ wx.cell? ⟨w1.heap.size, 4, none⟩ = some (.int .i64 t.dead) ∧ wx.cell? ⟨w1.heap.size, 5, none⟩ = some (.int .i64 t.ring) ∧ wx.cell? ⟨w1.heap.size, 6, none⟩ = some (.int .i64 t.owner))
        (first | exact ⟨Bt0, Bt1, Bt2, Bt3, Bt4, Bt5, Bt6⟩ | go_keep)
        (first | (go_at_call 170; ((repeat (first | rw [IntWalk.i64_in _ (by omega)] | rw [IntWalk.u32_in _ (by omega)]))); (with_reducible refine (tiParity_c (by with_reducible repeat (first | exact H1 | apply zha | apply zhd | apply zhn)) e3.out).mono ?_); (rintro _ w3 ⟨rfl, H3, K3⟩); (replace Bt := Blk.stays (by with_reducible repeat (first | exact Bt | apply zba | apply zbd | apply zbn)) K3 (GA.foot_far H1.top)); (clear Bt0 Bt1 Bt2 Bt3 Bt4 Bt5 Bt6); (have Bt0 : w3.cell? ⟨w1.heap.size, 0, none⟩ = some (.int .i64 t.kind) := Bt.cell 0); (have Bt1 : w3.cell? ⟨w1.heap.size, 1, none⟩ = some (.int .i64 t.color) := Bt.cell 1); (have Bt2 : w3.cell? ⟨w1.heap.size, 2, none⟩ = some (.int .i64 t.count) := Bt.cell 2); (have Bt3 : w3.cell? ⟨w1.heap.size, 3, none⟩ = some (.int .i64 t.shade) := Bt.cell 3); (have Bt4 : w3.cell? ⟨w1.heap.size, 4, none⟩ = some (.int .i64 t.dead) := Bt.cell 4); (have Bt5 : w3.cell? ⟨w1.heap.size, 5, none⟩ = some (.int .i64 t.ring) := Bt.cell 5); (have Bt6 : w3.cell? ⟨w1.heap.size, 6, none⟩ = some (.int .i64 t.owner) := Bt.cell 6)))
      go_wp2_with fail
      with_reducible refine (Word_c (by with_reducible repeat (first | exact H3 | apply zha | apply zhd | apply zhn)) e5.out).mono ?_
      rintro _ w5 ⟨rfl, H5, K5⟩
      obtain ⟨rn0, rn1⟩ := stGet_range (H3).ok e5.out
      replace Bt := Blk.stays (by with_reducible repeat (first | exact Bt | apply zba | apply zbd | apply zbn)) K5 (GA.foot_far H1.top)
      clear Bt0 Bt1 Bt2 Bt3 Bt4 Bt5 Bt6
      have Bt0 : w5.cell? ⟨w1.heap.size, 0, none⟩ = some (.int .i64 t.kind) := Bt.cell 0
      have Bt1 : w5.cell? ⟨w1.heap.size, 1, none⟩ = some (.int .i64 t.color) := Bt.cell 1
      have Bt2 : w5.cell? ⟨w1.heap.size, 2, none⟩ = some (.int .i64 t.count) := Bt.cell 2
      have Bt3 : w5.cell? ⟨w1.heap.size, 3, none⟩ = some (.int .i64 t.shade) := Bt.cell 3
      have Bt4 : w5.cell? ⟨w1.heap.size, 4, none⟩ = some (.int .i64 t.dead) := Bt.cell 4
      have Bt5 : w5.cell? ⟨w1.heap.size, 5, none⟩ = some (.int .i64 t.ring) := Bt.cell 5
      have Bt6 : w5.cell? ⟨w1.heap.size, 6, none⟩ = some (.int .i64 t.owner) := Bt.cell 6
      go_wp2_with fail
      go_ret
      exact ⟨⟨by first | rfl | (simp; done) | (simp [*]; done), (by with_reducible repeat (first | exact H5 | apply zha | apply zhd | apply zhn)), by
        with_reducible repeat (first | apply zsa | apply zsd | apply zsn)
        refine Stays.trans ?_ K5
        with_reducible repeat (first | apply zsa | apply zsd | apply zsn)
        refine Stays.trans ?_ K3
        with_reducible repeat (first | apply zsa | apply zsd | apply zsn)
        refine Stays.trans ?_ K1
        with_reducible repeat (first | apply zsa | apply zsd | apply zsn)
        exact Stays.refl _ _⟩, by omega, by omega⟩
    · rw [if_neg c4] at e; have c4b : (t.shade == now) = false := beq_eq_false_iff_ne.2 c4; have c4n : (t.shade != now) = true := bne_iff_ne.2 c4
      obtain ⟨hv, rfl⟩ := GM.pure_eq e
      obtain rfl := hv
      go_enter Tryz.func106, Tryz.ntmps106
      go_wp2_with fail
      with_reducible refine (tiOf_c (by with_reducible repeat (first | exact H | apply zha | apply zhd | apply zhn)) e1.out).mono ?_
      rintro _ w1 ⟨rfl, H1, K1⟩
      have Bt := Blk.new w1 149 #[.int .i64 t.kind, .int .i64 t.color, .int .i64 t.count, .int .i64 t.shade, .int .i64 t.dead, .int .i64 t.ring, .int .i64 t.owner]
      have Bt0 : (w1.alloc (Obj.cells #[.int .i64 t.kind, .int .i64 t.color, .int .i64 t.count, .int .i64 t.shade, .int .i64 t.dead, .int .i64 t.ring, .int .i64 t.owner] 149)).cell? ⟨w1.heap.size, 0, none⟩ = some (.int .i64 t.kind) := Bt.cell 0
      have Bt1 : (w1.alloc (Obj.cells #[.int .i64 t.kind, .int .i64 t.color, .int .i64 t.count, .int .i64 t.shade, .int .i64 t.dead, .int .i64 t.ring, .int .i64 t.owner] 149)).cell? ⟨w1.heap.size, 1, none⟩ = some (.int .i64 t.color) := Bt.cell 1
      have Bt2 : (w1.alloc (Obj.cells #[.int .i64 t.kind, .int .i64 t.color, .int .i64 t.count, .int .i64 t.shade, .int .i64 t.dead, .int .i64 t.ring, .int .i64 t.owner] 149)).cell? ⟨w1.heap.size, 2, none⟩ = some (.int .i64 t.count) := Bt.cell 2
      have Bt3 : (w1.alloc (Obj.cells #[.int .i64 t.kind, .int .i64 t.color, .int .i64 t.count, .int .i64 t.shade, .int .i64 t.dead, .int .i64 t.ring, .int .i64 t.owner] 149)).cell? ⟨w1.heap.size, 3, none⟩ = some (.int .i64 t.shade) := Bt.cell 3
      have Bt4 : (w1.alloc (Obj.cells #[.int .i64 t.kind, .int .i64 t.color, .int .i64 t.count, .int .i64 t.shade, .int .i64 t.dead, .int .i64 t.ring, .int .i64 t.owner] 149)).cell? ⟨w1.heap.size, 4, none⟩ = some (.int .i64 t.dead) := Bt.cell 4
      have Bt5 : (w1.alloc (Obj.cells #[.int .i64 t.kind, .int .i64 t.color, .int .i64 t.count, .int .i64 t.shade, .int .i64 t.dead, .int .i64 t.ring, .int .i64 t.owner] 149)).cell? ⟨w1.heap.size, 5, none⟩ = some (.int .i64 t.ring) := Bt.cell 5
      have Bt6 : (w1.alloc (Obj.cells #[.int .i64 t.kind, .int .i64 t.color, .int .i64 t.count, .int .i64 t.shade, .int .i64 t.dead, .int .i64 t.ring, .int .i64 t.owner] 149)).cell? ⟨w1.heap.size, 6, none⟩ = some (.int .i64 t.owner) := Bt.cell 6
      go_wp2_with fail
      go_region_held3 (fun wx => wx.cell? ⟨w1.heap.size, 0, none⟩ = some (.int .i64 t.kind) ∧ wx.cell? ⟨w1.heap.size, 1, none⟩ = some (.int .i64 t.color) ∧ wx.cell? ⟨w1.heap.size, 2, none⟩ = some (.int .i64 t.count) ∧ wx.cell? ⟨w1.heap.size, 3, none⟩ = some (.int .i64 t.shade) ∧ wx.cell? ⟨w1.heap.size, 4, none⟩ = some (.int .i64 t.dead) ∧ wx.cell? ⟨w1.heap.size, 5, none⟩ = some (.int .i64 t.ring) ∧ wx.cell? ⟨w1.heap.size, 6, none⟩ = some (.int .i64 t.owner))
        (first | exact ⟨Bt0, Bt1, Bt2, Bt3, Bt4, Bt5, Bt6⟩ | go_keep)
        (first | (go_at_call 170; ((repeat (first | rw [IntWalk.i64_in _ (by omega)] | rw [IntWalk.u32_in _ (by omega)]))); (with_reducible refine (tiParity_c (by with_reducible repeat (first | exact H1 | apply zha | apply zhd | apply zhn)) e3.out).mono ?_); (rintro _ w3 ⟨rfl, H3, K3⟩); (replace Bt := Blk.stays (by with_reducible repeat (first | exact Bt | apply zba | apply zbd | apply zbn)) K3 (GA.foot_far H1.top)); (clear Bt0 Bt1 Bt2 Bt3 Bt4 Bt5 Bt6); (have Bt0 : w3.cell? ⟨w1.heap.size, 0, none⟩ = some (.int .i64 t.kind) := Bt.cell 0); (have Bt1 : w3.cell? ⟨w1.heap.size, 1, none⟩ = some (.int .i64 t.color) := Bt.cell 1); (have Bt2 : w3.cell? ⟨w1.heap.size, 2, none⟩ = some (.int .i64 t.count) := Bt.cell 2); (have Bt3 : w3.cell? ⟨w1.heap.size, 3, none⟩ = some (.int .i64 t.shade) := Bt.cell 3); (have Bt4 : w3.cell? ⟨w1.heap.size, 4, none⟩ = some (.int .i64 t.dead) := Bt.cell 4); (have Bt5 : w3.cell? ⟨w1.heap.size, 5, none⟩ = some (.int .i64 t.ring) := Bt.cell 5); (have Bt6 : w3.cell? ⟨w1.heap.size, 6, none⟩ = some (.int .i64 t.owner) := Bt.cell 6)))
      go_wp2_with fail
      go_ret
      exact ⟨⟨by first | rfl | (simp; done) | (simp [*]; done), (by with_reducible repeat (first | exact H3 | apply zha | apply zhd | apply zhn)), by
        with_reducible repeat (first | apply zsa | apply zsd | apply zsn)
        refine Stays.trans ?_ K3
        with_reducible repeat (first | apply zsa | apply zsd | apply zsn)
        refine Stays.trans ?_ K1
        with_reducible repeat (first | apply zsa | apply zsd | apply zsn)
        exact Stays.refl _ _⟩, by omega, by omega⟩
  · rw [if_neg c2] at e; obtain rfl := eq_false_of_ne_true c2; clear c2
    obtain ⟨hv, rfl⟩ := GM.pure_eq e
    obtain rfl := hv
    go_enter Tryz.func106, Tryz.ntmps106
    go_wp2_with fail
    with_reducible refine (tiOf_c (by with_reducible repeat (first | exact H | apply zha | apply zhd | apply zhn)) e1.out).mono ?_
    rintro _ w1 ⟨rfl, H1, K1⟩
    have Bt := Blk.new w1 149 #[.int .i64 t.kind, .int .i64 t.color, .int .i64 t.count, .int .i64 t.shade, .int .i64 t.dead, .int .i64 t.ring, .int .i64 t.owner]
    have Bt0 : (w1.alloc (Obj.cells #[.int .i64 t.kind, .int .i64 t.color, .int .i64 t.count, .int .i64 t.shade, .int .i64 t.dead, .int .i64 t.ring, .int .i64 t.owner] 149)).cell? ⟨w1.heap.size, 0, none⟩ = some (.int .i64 t.kind) := Bt.cell 0
    have Bt1 : (w1.alloc (Obj.cells #[.int .i64 t.kind, .int .i64 t.color, .int .i64 t.count, .int .i64 t.shade, .int .i64 t.dead, .int .i64 t.ring, .int .i64 t.owner] 149)).cell? ⟨w1.heap.size, 1, none⟩ = some (.int .i64 t.color) := Bt.cell 1
    have Bt2 : (w1.alloc (Obj.cells #[.int .i64 t.kind, .int .i64 t.color, .int .i64 t.count, .int .i64 t.shade, .int .i64 t.dead, .int .i64 t.ring, .int .i64 t.owner] 149)).cell? ⟨w1.heap.size, 2, none⟩ = some (.int .i64 t.count) := Bt.cell 2
    have Bt3 : (w1.alloc (Obj.cells #[.int .i64 t.kind, .int .i64 t.color, .int .i64 t.count, .int .i64 t.shade, .int .i64 t.dead, .int .i64 t.ring, .int .i64 t.owner] 149)).cell? ⟨w1.heap.size, 3, none⟩ = some (.int .i64 t.shade) := Bt.cell 3
    have Bt4 : (w1.alloc (Obj.cells #[.int .i64 t.kind, .int .i64 t.color, .int .i64 t.count, .int .i64 t.shade, .int .i64 t.dead, .int .i64 t.ring, .int .i64 t.owner] 149)).cell? ⟨w1.heap.size, 4, none⟩ = some (.int .i64 t.dead) := Bt.cell 4
    have Bt5 : (w1.alloc (Obj.cells #[.int .i64 t.kind, .int .i64 t.color, .int .i64 t.count, .int .i64 t.shade, .int .i64 t.dead, .int .i64 t.ring, .int .i64 t.owner] 149)).cell? ⟨w1.heap.size, 5, none⟩ = some (.int .i64 t.ring) := Bt.cell 5
    have Bt6 : (w1.alloc (Obj.cells #[.int .i64 t.kind, .int .i64 t.color, .int .i64 t.count, .int .i64 t.shade, .int .i64 t.dead, .int .i64 t.ring, .int .i64 t.owner] 149)).cell? ⟨w1.heap.size, 6, none⟩ = some (.int .i64 t.owner) := Bt.cell 6
    go_wp2_with fail
    go_quiet (fail)
    go_wp2_with fail
    go_ret
    exact ⟨⟨by first | rfl | (simp; done) | (simp [*]; done), (by with_reducible repeat (first | exact H1 | apply zha | apply zhd | apply zhn)), by
      with_reducible repeat (first | apply zsa | apply zsd | apply zsn)
      refine Stays.trans ?_ K1
      with_reducible repeat (first | apply zsa | apply zsd | apply zsn)
      exact Stays.refl _ _⟩, by omega, by omega⟩
end Go.Proofs.YtadhdjldcpkfiaaGreatDoor
