/- What the calls of chain do. Nothing is asked but that the ground lies there. -/
import Derived.Test.YtadhdjldcpkfiaaGreatDoorC1
namespace Go.Proofs.YtadhdjldcpkfiaaGreatDoor
set_option linter.unusedVariables false
set_option linter.unusedSimpArgs false
open Go.RowKit
set_option maxRecDepth 100000
set_option maxHeartbeats 800000
theorem chain_of_c {A : GA} {S : GS} {w : World} (H : Held A S w) (k : Int) (h0 : 0 ≤ k) (h1 : k ≤ 1) :
    Calls Tryz.prog 196 #[.pointer (some ⟨A.g, 0, none⟩), .int .i64 k] w (Did A w (.tuple #[.agg #[.int .i64 (3 * k), .int .i64 (3 * k + 1), .int .i64 (3 * k + 2)], .bool true]) S) := by
  go_enter Tryz.func196, Tryz.ntmps196
  go_wp2
  refine bodyPost_ret (v := .tuple #[.agg #[.int .i64 (3 * k), .int .i64 (3 * k + 1), .int .i64 (3 * k + 2)], .bool true]) (by simp [results, Tryz.results196, go_sem]) rfl ⟨rfl, H.alloc _, (Stays.refl _ _).alloc _⟩

def chLen (k : Int) : GM Int :=
  Reg (3 * k + 2) >>= fun n =>
  pure n

theorem chLen_c {A : GA} {S : GS} {w : World} (H : Held A S w) {k : Int} {v0 : Int} (hk0 : 0 ≤ k) (hk1 : k ≤ 1) {T : GS} (e : chLen k S = (v0, T)) :
    Calls Tryz.prog 199 #[.pointer (some ⟨A.g, 0, none⟩), .int .i64 k] w (Did A w (.int .i64 v0) T) := by
  unfold chLen at e
  replace e := GM.bind_eq e; obtain ⟨n, S2, e2_, e⟩ := e; have e2 := Hd.mk e2_; clear e2_
  obtain ⟨hv, rfl⟩ := GM.pure_eq e
  obtain rfl := hv
  go_enter Tryz.func199, Tryz.ntmps199
  go_wp2_with fail
  with_reducible refine (chain_of_c (by repeat (first | exact H | with_reducible apply zha | with_reducible apply zhd | with_reducible apply zhn)) k hk0 hk1).mono ?_
  rintro _ w1 ⟨rfl, H1, K1⟩
  have Be := Blk.new w1 175 #[.int .i64 (3 * k), .int .i64 (3 * k + 1), .int .i64 (3 * k + 2)]
  go_wp2_with fail
  with_reducible refine (Reg_c (by repeat (first | exact H1 | with_reducible apply zha | with_reducible apply zhd | with_reducible apply zhn)) e2.out).mono ?_
  rintro _ w2 ⟨rfl, H2, K2⟩
  replace Be := Blk.stays (by repeat (first | exact Be | with_reducible apply zba | with_reducible apply zbd)) K2 (GA.foot_far H1.top)
  have Be0 : w2.cell? ⟨w1.heap.size, 0, none⟩ = some (.int .i64 (3 * k)) := Be.cell 0
  have Be1 : w2.cell? ⟨w1.heap.size, 1, none⟩ = some (.int .i64 (3 * k + 1)) := Be.cell 1
  have Be2 : w2.cell? ⟨w1.heap.size, 2, none⟩ = some (.int .i64 (3 * k + 2)) := Be.cell 2
  go_wp2_with fail
  go_ret
  exact ⟨by first | rfl | (simp; done) | (simp [*]; done), (by repeat (first | exact H2 | with_reducible apply zha | with_reducible apply zhd | with_reducible apply zhn)), by
    with_reducible repeat (first | apply zsa | apply zsd)
    refine Stays.trans ?_ K2
    with_reducible repeat (first | apply zsa | apply zsd)
    refine Stays.trans ?_ K1
    with_reducible repeat (first | apply zsa | apply zsd)
    exact Stays.refl _ _⟩

def chFirst (k : Int) : GM (Int × Bool) :=
  Reg (3 * k) >>= fun n =>
  if n > 0 then
    pure (n - 1, true)
  else
    pure (0, false)

theorem chFirst_c {A : GA} {S : GS} {w : World} (H : Held A S w) {k : Int} {v0 : Int} {v1 : Bool} (hk0 : 0 ≤ k) (hk1 : k ≤ 1) {T : GS} (e : chFirst k S = ((v0, v1), T)) :
    Calls Tryz.prog 191 #[.pointer (some ⟨A.g, 0, none⟩), .int .i64 k] w (Did A w (.tuple #[.int .i64 v0, .bool v1]) T) := by
  unfold chFirst at e
  replace e := GM.bind_eq e; obtain ⟨n, S2, e2_, e⟩ := e; have e2 := Hd.mk e2_; clear e2_
  by_cases c3 : n > 0
  · rw [if_pos c3] at e
    obtain ⟨hv, rfl⟩ := GM.pure_eq e
    cases hv
    go_enter Tryz.func191, Tryz.ntmps191
    go_wp2_with fail
    with_reducible refine (chain_of_c (by repeat (first | exact H | with_reducible apply zha | with_reducible apply zhd | with_reducible apply zhn)) k hk0 hk1).mono ?_
    rintro _ w1 ⟨rfl, H1, K1⟩
    have Be := Blk.new w1 175 #[.int .i64 (3 * k), .int .i64 (3 * k + 1), .int .i64 (3 * k + 2)]
    go_wp2_with fail
    with_reducible refine (Reg_c (by repeat (first | exact H1 | with_reducible apply zha | with_reducible apply zhd | with_reducible apply zhn)) e2.out).mono ?_
    rintro _ w2 ⟨rfl, H2, K2⟩
    obtain ⟨ra2, rb2⟩ := stGet_range (H1).ok e2.out
    replace Be := Blk.stays (by repeat (first | exact Be | with_reducible apply zba | with_reducible apply zbd)) K2 (GA.foot_far H1.top)
    have Be0 : w2.cell? ⟨w1.heap.size, 0, none⟩ = some (.int .i64 (3 * k)) := Be.cell 0
    have Be1 : w2.cell? ⟨w1.heap.size, 1, none⟩ = some (.int .i64 (3 * k + 1)) := Be.cell 1
    have Be2 : w2.cell? ⟨w1.heap.size, 2, none⟩ = some (.int .i64 (3 * k + 2)) := Be.cell 2
    go_wp2_with fail
    go_ret2
    exact ⟨by first | rfl | (simp; done) | (simp [*]; done), (by repeat (first | exact H2 | with_reducible apply zha | with_reducible apply zhd | with_reducible apply zhn)), by
      with_reducible repeat (first | apply zsa | apply zsd)
      refine Stays.trans ?_ K2
      with_reducible repeat (first | apply zsa | apply zsd)
      refine Stays.trans ?_ K1
      with_reducible repeat (first | apply zsa | apply zsd)
      exact Stays.refl _ _⟩
  · rw [if_neg c3] at e
    obtain ⟨hv, rfl⟩ := GM.pure_eq e
    cases hv
    go_enter Tryz.func191, Tryz.ntmps191
    go_wp2_with fail
    with_reducible refine (chain_of_c (by repeat (first | exact H | with_reducible apply zha | with_reducible apply zhd | with_reducible apply zhn)) k hk0 hk1).mono ?_
    rintro _ w1 ⟨rfl, H1, K1⟩
    have Be := Blk.new w1 175 #[.int .i64 (3 * k), .int .i64 (3 * k + 1), .int .i64 (3 * k + 2)]
    go_wp2_with fail
    with_reducible refine (Reg_c (by repeat (first | exact H1 | with_reducible apply zha | with_reducible apply zhd | with_reducible apply zhn)) e2.out).mono ?_
    rintro _ w2 ⟨rfl, H2, K2⟩
    obtain ⟨ra2, rb2⟩ := stGet_range (H1).ok e2.out
    replace Be := Blk.stays (by repeat (first | exact Be | with_reducible apply zba | with_reducible apply zbd)) K2 (GA.foot_far H1.top)
    have Be0 : w2.cell? ⟨w1.heap.size, 0, none⟩ = some (.int .i64 (3 * k)) := Be.cell 0
    have Be1 : w2.cell? ⟨w1.heap.size, 1, none⟩ = some (.int .i64 (3 * k + 1)) := Be.cell 1
    have Be2 : w2.cell? ⟨w1.heap.size, 2, none⟩ = some (.int .i64 (3 * k + 2)) := Be.cell 2
    go_wp2_with fail
    go_ret2
    exact ⟨by first | rfl | (simp; done) | (simp [*]; done), (by repeat (first | exact H2 | with_reducible apply zha | with_reducible apply zhd | with_reducible apply zhn)), by
      with_reducible repeat (first | apply zsa | apply zsd)
      refine Stays.trans ?_ K2
      with_reducible repeat (first | apply zsa | apply zsd)
      refine Stays.trans ?_ K1
      with_reducible repeat (first | apply zsa | apply zsd)
      exact Stays.refl _ _⟩

def chTake (k : Int) : GM (Int × Bool) :=
  Reg (3 * k) >>= fun nm =>
  if nm = 0 then
    pure (0, false)
  else
    Word (nm - 1) 5 >>= fun nx =>
    SetWord (nm - 1) 5 0 >>= fun _ =>
    SetReg (3 * k) nx >>= fun _ =>
    if nx = 0 then
      SetReg (3 * k + 1) 0 >>= fun _ =>
      Reg (3 * k + 2) >>= fun n =>
      SetReg (3 * k + 2) (n - 1) >>= fun _ =>
      pure (nm - 1, true)
    else
      Reg (3 * k + 2) >>= fun n =>
      SetReg (3 * k + 2) (n - 1) >>= fun _ =>
      pure (nm - 1, true)

theorem chTake_c {A : GA} {S : GS} {w : World} (H : Held A S w) {k : Int} {v0 : Int} {v1 : Bool} (hk0 : 0 ≤ k) (hk1 : k ≤ 1) {T : GS} (e : chTake k S = ((v0, v1), T)) :
    Calls Tryz.prog 194 #[.pointer (some ⟨A.g, 0, none⟩), .int .i64 k] w (Did A w (.tuple #[.int .i64 v0, .bool v1]) T) := by
  unfold chTake at e
  replace e := GM.bind_eq e; obtain ⟨nm, S2, e2_, e⟩ := e; have e2 := Hd.mk e2_; clear e2_
  by_cases c3 : nm = 0
  · rw [if_pos c3] at e; subst c3
    obtain ⟨hv, rfl⟩ := GM.pure_eq e
    cases hv
    go_enter Tryz.func194, Tryz.ntmps194
    go_wp2_with fail
    with_reducible refine (chain_of_c (by repeat (first | exact H | with_reducible apply zha | with_reducible apply zhd | with_reducible apply zhn)) k hk0 hk1).mono ?_
    rintro _ w1 ⟨rfl, H1, K1⟩
    have Be := Blk.new w1 175 #[.int .i64 (3 * k), .int .i64 (3 * k + 1), .int .i64 (3 * k + 2)]
    go_wp2_with fail
    with_reducible refine (Reg_c (by repeat (first | exact H1 | with_reducible apply zha | with_reducible apply zhd | with_reducible apply zhn)) e2.out).mono ?_
    rintro _ w2 ⟨rfl, H2, K2⟩
    obtain ⟨ra2, rb2⟩ := stGet_range (H1).ok e2.out
    replace Be := Blk.stays (by repeat (first | exact Be | with_reducible apply zba | with_reducible apply zbd)) K2 (GA.foot_far H1.top)
    have Be0 : w2.cell? ⟨w1.heap.size, 0, none⟩ = some (.int .i64 (3 * k)) := Be.cell 0
    have Be1 : w2.cell? ⟨w1.heap.size, 1, none⟩ = some (.int .i64 (3 * k + 1)) := Be.cell 1
    have Be2 : w2.cell? ⟨w1.heap.size, 2, none⟩ = some (.int .i64 (3 * k + 2)) := Be.cell 2
    go_wp2_with fail
    go_ret2
    exact ⟨by first | rfl | (simp; done) | (simp [*]; done), (by repeat (first | exact H2 | with_reducible apply zha | with_reducible apply zhd | with_reducible apply zhn)), by
      with_reducible repeat (first | apply zsa | apply zsd)
      refine Stays.trans ?_ K2
      with_reducible repeat (first | apply zsa | apply zsd)
      refine Stays.trans ?_ K1
      with_reducible repeat (first | apply zsa | apply zsd)
      exact Stays.refl _ _⟩
  · rw [if_neg c3] at e; have c3b : (nm == 0) = false := beq_eq_false_iff_ne.2 c3; have c3n : (nm != 0) = true := bne_iff_ne.2 c3
    replace e := GM.bind_eq e; obtain ⟨nx, S4, e4_, e⟩ := e; have e4 := Hd.mk e4_; clear e4_
    replace e := GM.bind_eq e; obtain ⟨u5, S5, e5_, e⟩ := e; have e5 := Hd.mk e5_; clear e5_
    replace e := GM.bind_eq e; obtain ⟨u6, S6, e6_, e⟩ := e; have e6 := Hd.mk e6_; clear e6_
    by_cases c7 : nx = 0
    · rw [if_pos c7] at e; subst c7
      replace e := GM.bind_eq e; obtain ⟨u8, S8, e8_, e⟩ := e; have e8 := Hd.mk e8_; clear e8_
      replace e := GM.bind_eq e; obtain ⟨n, S9, e9_, e⟩ := e; have e9 := Hd.mk e9_; clear e9_
      replace e := GM.bind_eq e; obtain ⟨u10, S10, e10_, e⟩ := e; have e10 := Hd.mk e10_; clear e10_
      obtain ⟨hv, rfl⟩ := GM.pure_eq e
      cases hv
      go_enter Tryz.func194, Tryz.ntmps194
      go_wp2_with fail
      with_reducible refine (chain_of_c (by repeat (first | exact H | with_reducible apply zha | with_reducible apply zhd | with_reducible apply zhn)) k hk0 hk1).mono ?_
      rintro _ w1 ⟨rfl, H1, K1⟩
      have Be := Blk.new w1 175 #[.int .i64 (3 * k), .int .i64 (3 * k + 1), .int .i64 (3 * k + 2)]
      go_wp2_with fail
      with_reducible refine (Reg_c (by repeat (first | exact H1 | with_reducible apply zha | with_reducible apply zhd | with_reducible apply zhn)) e2.out).mono ?_
      rintro _ w2 ⟨rfl, H2, K2⟩
      obtain ⟨ra2, rb2⟩ := stGet_range (H1).ok e2.out
      replace Be := Blk.stays (by repeat (first | exact Be | with_reducible apply zba | with_reducible apply zbd)) K2 (GA.foot_far H1.top)
      have Be0 : w2.cell? ⟨w1.heap.size, 0, none⟩ = some (.int .i64 (3 * k)) := Be.cell 0
      have Be1 : w2.cell? ⟨w1.heap.size, 1, none⟩ = some (.int .i64 (3 * k + 1)) := Be.cell 1
      have Be2 : w2.cell? ⟨w1.heap.size, 2, none⟩ = some (.int .i64 (3 * k + 2)) := Be.cell 2
      go_wp2_with fail
      with_reducible refine (Word_c (by repeat (first | exact H2 | with_reducible apply zha | with_reducible apply zhd | with_reducible apply zhn)) e4.out).mono ?_
      rintro _ w4 ⟨rfl, H4, K4⟩
      obtain ⟨ra4, rb4⟩ := stGet_range (H2).ok e4.out
      replace Be := Blk.stays (by repeat (first | exact Be | with_reducible apply zba | with_reducible apply zbd)) K4 (GA.foot_far H1.top)
      clear Be0 Be1 Be2
      have Be0 : w4.cell? ⟨w1.heap.size, 0, none⟩ = some (.int .i64 (3 * k)) := Be.cell 0
      have Be1 : w4.cell? ⟨w1.heap.size, 1, none⟩ = some (.int .i64 (3 * k + 1)) := Be.cell 1
      have Be2 : w4.cell? ⟨w1.heap.size, 2, none⟩ = some (.int .i64 (3 * k + 2)) := Be.cell 2
      go_wp2_with fail
      with_reducible refine (SetWord_c (by repeat (first | exact H4 | with_reducible apply zha | with_reducible apply zhd | with_reducible apply zhn)) (by omega) (by omega) e5.out).mono ?_
      rintro _ w5 ⟨rfl, H5, K5⟩
      replace Be := Blk.stays (by repeat (first | exact Be | with_reducible apply zba | with_reducible apply zbd)) K5 (GA.foot_far H1.top)
      clear Be0 Be1 Be2
      have Be0 : w5.cell? ⟨w1.heap.size, 0, none⟩ = some (.int .i64 (3 * k)) := Be.cell 0
      have Be1 : w5.cell? ⟨w1.heap.size, 1, none⟩ = some (.int .i64 (3 * k + 1)) := Be.cell 1
      have Be2 : w5.cell? ⟨w1.heap.size, 2, none⟩ = some (.int .i64 (3 * k + 2)) := Be.cell 2
      go_wp2_with fail
      with_reducible refine (SetReg_c (by repeat (first | exact H5 | with_reducible apply zha | with_reducible apply zhd | with_reducible apply zhn)) e6.out).mono ?_
      rintro _ w6 ⟨rfl, H6, K6⟩
      replace Be := Blk.stays (by repeat (first | exact Be | with_reducible apply zba | with_reducible apply zbd)) K6 (GA.foot_far H1.top)
      clear Be0 Be1 Be2
      have Be0 : w6.cell? ⟨w1.heap.size, 0, none⟩ = some (.int .i64 (3 * k)) := Be.cell 0
      have Be1 : w6.cell? ⟨w1.heap.size, 1, none⟩ = some (.int .i64 (3 * k + 1)) := Be.cell 1
      have Be2 : w6.cell? ⟨w1.heap.size, 2, none⟩ = some (.int .i64 (3 * k + 2)) := Be.cell 2
      go_wp2_with fail
      with_reducible refine (SetReg_c (by repeat (first | exact H6 | with_reducible apply zha | with_reducible apply zhd | with_reducible apply zhn)) e8.out).mono ?_
      rintro _ w8 ⟨rfl, H8, K8⟩
      replace Be := Blk.stays (by repeat (first | exact Be | with_reducible apply zba | with_reducible apply zbd)) K8 (GA.foot_far H1.top)
      clear Be0 Be1 Be2
      have Be0 : w8.cell? ⟨w1.heap.size, 0, none⟩ = some (.int .i64 (3 * k)) := Be.cell 0
      have Be1 : w8.cell? ⟨w1.heap.size, 1, none⟩ = some (.int .i64 (3 * k + 1)) := Be.cell 1
      have Be2 : w8.cell? ⟨w1.heap.size, 2, none⟩ = some (.int .i64 (3 * k + 2)) := Be.cell 2
      go_wp2_with fail
      go_region_held3 (fun wx => wx.cell? ⟨w1.heap.size, 0, none⟩ = some (.int .i64 (3 * k)) ∧ wx.cell? ⟨w1.heap.size, 1, none⟩ = some (.int .i64 (3 * k + 1)) ∧ wx.cell? ⟨w1.heap.size, 2, none⟩ = some (.int .i64 (3 * k + 2)))
        (first | exact ⟨Be0, Be1, Be2⟩ | go_keep)
        (first | (go_at_call 95; (repeat (first | rw [IntWalk.i64_in _ (by omega)] | rw [IntWalk.u32_in _ (by omega)])); (with_reducible refine (Reg_c (by repeat (first | exact H8 | with_reducible apply zha | with_reducible apply zhd | with_reducible apply zhn)) e9.out).mono ?_); (rintro _ w9 ⟨rfl, H9, K9⟩); obtain ⟨ra9, rb9⟩ := stGet_range (H8).ok e9.out; replace Be := Blk.stays (by repeat (first | exact Be | with_reducible apply zba | with_reducible apply zbd)) K9 (GA.foot_far H1.top); clear Be0 Be1 Be2; have Be0 : w9.cell? ⟨w1.heap.size, 0, none⟩ = some (.int .i64 (3 * k)) := Be.cell 0; have Be1 : w9.cell? ⟨w1.heap.size, 1, none⟩ = some (.int .i64 (3 * k + 1)) := Be.cell 1; have Be2 : w9.cell? ⟨w1.heap.size, 2, none⟩ = some (.int .i64 (3 * k + 2)) := Be.cell 2) | (go_at_call 105; (repeat (first | rw [IntWalk.i64_in _ (by omega)] | rw [IntWalk.u32_in _ (by omega)])); (with_reducible refine (SetReg_c (by repeat (first | exact H9 | with_reducible apply zha | with_reducible apply zhd | with_reducible apply zhn)) e10.out).mono ?_); (rintro _ w10 ⟨rfl, H10, K10⟩); replace Be := Blk.stays (by repeat (first | exact Be | with_reducible apply zba | with_reducible apply zbd)) K10 (GA.foot_far H1.top); clear Be0 Be1 Be2; have Be0 : w10.cell? ⟨w1.heap.size, 0, none⟩ = some (.int .i64 (3 * k)) := Be.cell 0; have Be1 : w10.cell? ⟨w1.heap.size, 1, none⟩ = some (.int .i64 (3 * k + 1)) := Be.cell 1; have Be2 : w10.cell? ⟨w1.heap.size, 2, none⟩ = some (.int .i64 (3 * k + 2)) := Be.cell 2))
      go_wp2_with fail
      go_ret2
      exact ⟨by first | rfl | (simp; done) | (simp [*]; done), (by repeat (first | exact H10 | with_reducible apply zha | with_reducible apply zhd | with_reducible apply zhn)), by
        with_reducible repeat (first | apply zsa | apply zsd)
        refine Stays.trans ?_ K10
        with_reducible repeat (first | apply zsa | apply zsd)
        refine Stays.trans ?_ K9
        with_reducible repeat (first | apply zsa | apply zsd)
        refine Stays.trans ?_ K8
        with_reducible repeat (first | apply zsa | apply zsd)
        refine Stays.trans ?_ K6
        with_reducible repeat (first | apply zsa | apply zsd)
        refine Stays.trans ?_ K5
        with_reducible repeat (first | apply zsa | apply zsd)
        refine Stays.trans ?_ K4
        with_reducible repeat (first | apply zsa | apply zsd)
        refine Stays.trans ?_ K2
        with_reducible repeat (first | apply zsa | apply zsd)
        refine Stays.trans ?_ K1
        with_reducible repeat (first | apply zsa | apply zsd)
        exact Stays.refl _ _⟩
    · rw [if_neg c7] at e; have c7b : (nx == 0) = false := beq_eq_false_iff_ne.2 c7; have c7n : (nx != 0) = true := bne_iff_ne.2 c7
      replace e := GM.bind_eq e; obtain ⟨n, S8, e8_, e⟩ := e; have e8 := Hd.mk e8_; clear e8_
      replace e := GM.bind_eq e; obtain ⟨u9, S9, e9_, e⟩ := e; have e9 := Hd.mk e9_; clear e9_
      obtain ⟨hv, rfl⟩ := GM.pure_eq e
      cases hv
      go_enter Tryz.func194, Tryz.ntmps194
      go_wp2_with fail
      with_reducible refine (chain_of_c (by repeat (first | exact H | with_reducible apply zha | with_reducible apply zhd | with_reducible apply zhn)) k hk0 hk1).mono ?_
      rintro _ w1 ⟨rfl, H1, K1⟩
      have Be := Blk.new w1 175 #[.int .i64 (3 * k), .int .i64 (3 * k + 1), .int .i64 (3 * k + 2)]
      go_wp2_with fail
      with_reducible refine (Reg_c (by repeat (first | exact H1 | with_reducible apply zha | with_reducible apply zhd | with_reducible apply zhn)) e2.out).mono ?_
      rintro _ w2 ⟨rfl, H2, K2⟩
      obtain ⟨ra2, rb2⟩ := stGet_range (H1).ok e2.out
      replace Be := Blk.stays (by repeat (first | exact Be | with_reducible apply zba | with_reducible apply zbd)) K2 (GA.foot_far H1.top)
      have Be0 : w2.cell? ⟨w1.heap.size, 0, none⟩ = some (.int .i64 (3 * k)) := Be.cell 0
      have Be1 : w2.cell? ⟨w1.heap.size, 1, none⟩ = some (.int .i64 (3 * k + 1)) := Be.cell 1
      have Be2 : w2.cell? ⟨w1.heap.size, 2, none⟩ = some (.int .i64 (3 * k + 2)) := Be.cell 2
      go_wp2_with fail
      with_reducible refine (Word_c (by repeat (first | exact H2 | with_reducible apply zha | with_reducible apply zhd | with_reducible apply zhn)) e4.out).mono ?_
      rintro _ w4 ⟨rfl, H4, K4⟩
      obtain ⟨ra4, rb4⟩ := stGet_range (H2).ok e4.out
      replace Be := Blk.stays (by repeat (first | exact Be | with_reducible apply zba | with_reducible apply zbd)) K4 (GA.foot_far H1.top)
      clear Be0 Be1 Be2
      have Be0 : w4.cell? ⟨w1.heap.size, 0, none⟩ = some (.int .i64 (3 * k)) := Be.cell 0
      have Be1 : w4.cell? ⟨w1.heap.size, 1, none⟩ = some (.int .i64 (3 * k + 1)) := Be.cell 1
      have Be2 : w4.cell? ⟨w1.heap.size, 2, none⟩ = some (.int .i64 (3 * k + 2)) := Be.cell 2
      go_wp2_with fail
      with_reducible refine (SetWord_c (by repeat (first | exact H4 | with_reducible apply zha | with_reducible apply zhd | with_reducible apply zhn)) (by omega) (by omega) e5.out).mono ?_
      rintro _ w5 ⟨rfl, H5, K5⟩
      replace Be := Blk.stays (by repeat (first | exact Be | with_reducible apply zba | with_reducible apply zbd)) K5 (GA.foot_far H1.top)
      clear Be0 Be1 Be2
      have Be0 : w5.cell? ⟨w1.heap.size, 0, none⟩ = some (.int .i64 (3 * k)) := Be.cell 0
      have Be1 : w5.cell? ⟨w1.heap.size, 1, none⟩ = some (.int .i64 (3 * k + 1)) := Be.cell 1
      have Be2 : w5.cell? ⟨w1.heap.size, 2, none⟩ = some (.int .i64 (3 * k + 2)) := Be.cell 2
      go_wp2_with fail
      with_reducible refine (SetReg_c (by repeat (first | exact H5 | with_reducible apply zha | with_reducible apply zhd | with_reducible apply zhn)) e6.out).mono ?_
      rintro _ w6 ⟨rfl, H6, K6⟩
      replace Be := Blk.stays (by repeat (first | exact Be | with_reducible apply zba | with_reducible apply zbd)) K6 (GA.foot_far H1.top)
      clear Be0 Be1 Be2
      have Be0 : w6.cell? ⟨w1.heap.size, 0, none⟩ = some (.int .i64 (3 * k)) := Be.cell 0
      have Be1 : w6.cell? ⟨w1.heap.size, 1, none⟩ = some (.int .i64 (3 * k + 1)) := Be.cell 1
      have Be2 : w6.cell? ⟨w1.heap.size, 2, none⟩ = some (.int .i64 (3 * k + 2)) := Be.cell 2
      go_wp2_with fail
      go_region_held3 (fun wx => wx.cell? ⟨w1.heap.size, 0, none⟩ = some (.int .i64 (3 * k)) ∧ wx.cell? ⟨w1.heap.size, 1, none⟩ = some (.int .i64 (3 * k + 1)) ∧ wx.cell? ⟨w1.heap.size, 2, none⟩ = some (.int .i64 (3 * k + 2)))
        (first | exact ⟨Be0, Be1, Be2⟩ | go_keep)
        (first | (go_at_call 95; (repeat (first | rw [IntWalk.i64_in _ (by omega)] | rw [IntWalk.u32_in _ (by omega)])); (with_reducible refine (Reg_c (by repeat (first | exact H6 | with_reducible apply zha | with_reducible apply zhd | with_reducible apply zhn)) e8.out).mono ?_); (rintro _ w8 ⟨rfl, H8, K8⟩); obtain ⟨ra8, rb8⟩ := stGet_range (H6).ok e8.out; replace Be := Blk.stays (by repeat (first | exact Be | with_reducible apply zba | with_reducible apply zbd)) K8 (GA.foot_far H1.top); clear Be0 Be1 Be2; have Be0 : w8.cell? ⟨w1.heap.size, 0, none⟩ = some (.int .i64 (3 * k)) := Be.cell 0; have Be1 : w8.cell? ⟨w1.heap.size, 1, none⟩ = some (.int .i64 (3 * k + 1)) := Be.cell 1; have Be2 : w8.cell? ⟨w1.heap.size, 2, none⟩ = some (.int .i64 (3 * k + 2)) := Be.cell 2) | (go_at_call 105; (repeat (first | rw [IntWalk.i64_in _ (by omega)] | rw [IntWalk.u32_in _ (by omega)])); (with_reducible refine (SetReg_c (by repeat (first | exact H8 | with_reducible apply zha | with_reducible apply zhd | with_reducible apply zhn)) e9.out).mono ?_); (rintro _ w9 ⟨rfl, H9, K9⟩); replace Be := Blk.stays (by repeat (first | exact Be | with_reducible apply zba | with_reducible apply zbd)) K9 (GA.foot_far H1.top); clear Be0 Be1 Be2; have Be0 : w9.cell? ⟨w1.heap.size, 0, none⟩ = some (.int .i64 (3 * k)) := Be.cell 0; have Be1 : w9.cell? ⟨w1.heap.size, 1, none⟩ = some (.int .i64 (3 * k + 1)) := Be.cell 1; have Be2 : w9.cell? ⟨w1.heap.size, 2, none⟩ = some (.int .i64 (3 * k + 2)) := Be.cell 2))
      go_wp2_with fail
      go_ret2
      exact ⟨by first | rfl | (simp; done) | (simp [*]; done), (by repeat (first | exact H9 | with_reducible apply zha | with_reducible apply zhd | with_reducible apply zhn)), by
        with_reducible repeat (first | apply zsa | apply zsd)
        refine Stays.trans ?_ K9
        with_reducible repeat (first | apply zsa | apply zsd)
        refine Stays.trans ?_ K8
        with_reducible repeat (first | apply zsa | apply zsd)
        refine Stays.trans ?_ K6
        with_reducible repeat (first | apply zsa | apply zsd)
        refine Stays.trans ?_ K5
        with_reducible repeat (first | apply zsa | apply zsd)
        refine Stays.trans ?_ K4
        with_reducible repeat (first | apply zsa | apply zsd)
        refine Stays.trans ?_ K2
        with_reducible repeat (first | apply zsa | apply zsd)
        refine Stays.trans ?_ K1
        with_reducible repeat (first | apply zsa | apply zsd)
        exact Stays.refl _ _⟩

def chAddL (k : Int) (b : Int) (n : Int) : GM Unit :=
  SetWord b 5 0 >>= fun _ =>
  if n = 0 then
    SetReg (3 * k) (b + 1) >>= fun _ =>
    SetReg (3 * k + 1) (b + 1) >>= fun _ =>
    pure ()
  else
    Reg (3 * k + 1) >>= fun x =>
    SetWord (x - 1) 5 (b + 1) >>= fun _ =>
    SetReg (3 * k + 1) (b + 1) >>= fun _ =>
    pure ()

theorem chAddL_c {A : GA} {S : GS} {w : World} (H : Held A S w) {k : Int} {b : Int} {n : Int} {bg bb : Nat} (hbg : A.top ≤ bg) (hbb : A.top ≤ bb) (Bg : Blk w bg 22 #[.pointer (some ⟨A.g, 0, none⟩)]) (Bb : Blk w bb 3 #[.int .i64 b]) (hb0 : 0 ≤ b) (hb1 : b < 1048576) (hk0 : 0 ≤ k) (hk1 : k ≤ 1) {T : GS} (e : chAddL k b n S = ((), T)) :
    Calls Tryz.prog 190 #[.agg #[.int .i64 (3 * k), .int .i64 (3 * k + 1), .int .i64 (3 * k + 2)], .int .i64 (b + 1), .int .i64 n, .pointer (some ⟨bg, 0, none⟩), .pointer (some ⟨bb, 0, none⟩)] w (Did A w (.tuple #[]) T) := by
  unfold chAddL at e
  replace e := GM.bind_eq e; obtain ⟨u1, S1, e1_, e⟩ := e; have e1 := Hd.mk e1_; clear e1_
  by_cases c2 : n = 0
  · rw [if_pos c2] at e; subst c2
    replace e := GM.bind_eq e; obtain ⟨u3, S3, e3_, e⟩ := e; have e3 := Hd.mk e3_; clear e3_
    replace e := GM.bind_eq e; obtain ⟨u4, S4, e4_, e⟩ := e; have e4 := Hd.mk e4_; clear e4_
    obtain ⟨hv, rfl⟩ := GM.pure_eq e
    clear hv
    go_enter Tryz.func190, Tryz.ntmps190
    have Be := Blk.new w 175 #[.int .i64 (3 * k), .int .i64 (3 * k + 1), .int .i64 (3 * k + 2)]
    replace Bg := Bg.alloc (Obj.cells #[.int .i64 (3 * k), .int .i64 (3 * k + 1), .int .i64 (3 * k + 2)] 175)
    have Bg0 : (w.alloc (Obj.cells #[.int .i64 (3 * k), .int .i64 (3 * k + 1), .int .i64 (3 * k + 2)] 175)).cell? ⟨bg, 0, none⟩ = some (.pointer (some ⟨A.g, 0, none⟩)) := Bg.cell 0
    replace Bb := Bb.alloc (Obj.cells #[.int .i64 (3 * k), .int .i64 (3 * k + 1), .int .i64 (3 * k + 2)] 175)
    have Bb0 : (w.alloc (Obj.cells #[.int .i64 (3 * k), .int .i64 (3 * k + 1), .int .i64 (3 * k + 2)] 175)).cell? ⟨bb, 0, none⟩ = some (.int .i64 b) := Bb.cell 0
    go_wp2_with fail
    with_reducible refine (SetWord_c (by repeat (first | exact H | with_reducible apply zha | with_reducible apply zhd | with_reducible apply zhn)) (by omega) (by omega) e1.out).mono ?_
    rintro _ w1 ⟨rfl, H1, K1⟩
    replace Bg := Blk.stays (by repeat (first | exact Bg | with_reducible apply zba | with_reducible apply zbd)) K1 (GA.foot_far hbg)
    clear Bg0
    have Bg0 : w1.cell? ⟨bg, 0, none⟩ = some (.pointer (some ⟨A.g, 0, none⟩)) := Bg.cell 0
    replace Bb := Blk.stays (by repeat (first | exact Bb | with_reducible apply zba | with_reducible apply zbd)) K1 (GA.foot_far hbb)
    clear Bb0
    have Bb0 : w1.cell? ⟨bb, 0, none⟩ = some (.int .i64 b) := Bb.cell 0
    replace Be := Blk.stays (by repeat (first | exact Be | with_reducible apply zba | with_reducible apply zbd)) K1 (GA.foot_far H.top)
    have Be0 : w1.cell? ⟨w.heap.size, 0, none⟩ = some (.int .i64 (3 * k)) := Be.cell 0
    have Be1 : w1.cell? ⟨w.heap.size, 1, none⟩ = some (.int .i64 (3 * k + 1)) := Be.cell 1
    have Be2 : w1.cell? ⟨w.heap.size, 2, none⟩ = some (.int .i64 (3 * k + 2)) := Be.cell 2
    go_wp2_with fail
    with_reducible refine (SetReg_c (by repeat (first | exact H1 | with_reducible apply zha | with_reducible apply zhd | with_reducible apply zhn)) e3.out).mono ?_
    rintro _ w3 ⟨rfl, H3, K3⟩
    replace Bg := Blk.stays (by repeat (first | exact Bg | with_reducible apply zba | with_reducible apply zbd)) K3 (GA.foot_far hbg)
    clear Bg0
    have Bg0 : w3.cell? ⟨bg, 0, none⟩ = some (.pointer (some ⟨A.g, 0, none⟩)) := Bg.cell 0
    replace Bb := Blk.stays (by repeat (first | exact Bb | with_reducible apply zba | with_reducible apply zbd)) K3 (GA.foot_far hbb)
    clear Bb0
    have Bb0 : w3.cell? ⟨bb, 0, none⟩ = some (.int .i64 b) := Bb.cell 0
    replace Be := Blk.stays (by repeat (first | exact Be | with_reducible apply zba | with_reducible apply zbd)) K3 (GA.foot_far H.top)
    clear Be0 Be1 Be2
    have Be0 : w3.cell? ⟨w.heap.size, 0, none⟩ = some (.int .i64 (3 * k)) := Be.cell 0
    have Be1 : w3.cell? ⟨w.heap.size, 1, none⟩ = some (.int .i64 (3 * k + 1)) := Be.cell 1
    have Be2 : w3.cell? ⟨w.heap.size, 2, none⟩ = some (.int .i64 (3 * k + 2)) := Be.cell 2
    go_wp2_with fail
    with_reducible refine (SetReg_c (by repeat (first | exact H3 | with_reducible apply zha | with_reducible apply zhd | with_reducible apply zhn)) e4.out).mono ?_
    rintro _ w4 ⟨rfl, H4, K4⟩
    replace Bg := Blk.stays (by repeat (first | exact Bg | with_reducible apply zba | with_reducible apply zbd)) K4 (GA.foot_far hbg)
    clear Bg0
    have Bg0 : w4.cell? ⟨bg, 0, none⟩ = some (.pointer (some ⟨A.g, 0, none⟩)) := Bg.cell 0
    replace Bb := Blk.stays (by repeat (first | exact Bb | with_reducible apply zba | with_reducible apply zbd)) K4 (GA.foot_far hbb)
    clear Bb0
    have Bb0 : w4.cell? ⟨bb, 0, none⟩ = some (.int .i64 b) := Bb.cell 0
    replace Be := Blk.stays (by repeat (first | exact Be | with_reducible apply zba | with_reducible apply zbd)) K4 (GA.foot_far H.top)
    clear Be0 Be1 Be2
    have Be0 : w4.cell? ⟨w.heap.size, 0, none⟩ = some (.int .i64 (3 * k)) := Be.cell 0
    have Be1 : w4.cell? ⟨w.heap.size, 1, none⟩ = some (.int .i64 (3 * k + 1)) := Be.cell 1
    have Be2 : w4.cell? ⟨w.heap.size, 2, none⟩ = some (.int .i64 (3 * k + 2)) := Be.cell 2
    go_wp2_with fail
    go_end0
    exact ⟨by first | rfl | (simp; done) | (simp [*]; done), (by repeat (first | exact H4 | with_reducible apply zha | with_reducible apply zhd | with_reducible apply zhn)), by
      with_reducible repeat (first | apply zsa | apply zsd)
      refine Stays.trans ?_ K4
      with_reducible repeat (first | apply zsa | apply zsd)
      refine Stays.trans ?_ K3
      with_reducible repeat (first | apply zsa | apply zsd)
      refine Stays.trans ?_ K1
      with_reducible repeat (first | apply zsa | apply zsd)
      exact Stays.refl _ _⟩
  · rw [if_neg c2] at e; have c2b : (n == 0) = false := beq_eq_false_iff_ne.2 c2; have c2n : (n != 0) = true := bne_iff_ne.2 c2
    replace e := GM.bind_eq e; obtain ⟨x, S3, e3_, e⟩ := e; have e3 := Hd.mk e3_; clear e3_
    replace e := GM.bind_eq e; obtain ⟨u4, S4, e4_, e⟩ := e; have e4 := Hd.mk e4_; clear e4_
    replace e := GM.bind_eq e; obtain ⟨u5, S5, e5_, e⟩ := e; have e5 := Hd.mk e5_; clear e5_
    obtain ⟨hv, rfl⟩ := GM.pure_eq e
    clear hv
    go_enter Tryz.func190, Tryz.ntmps190
    have Be := Blk.new w 175 #[.int .i64 (3 * k), .int .i64 (3 * k + 1), .int .i64 (3 * k + 2)]
    replace Bg := Bg.alloc (Obj.cells #[.int .i64 (3 * k), .int .i64 (3 * k + 1), .int .i64 (3 * k + 2)] 175)
    have Bg0 : (w.alloc (Obj.cells #[.int .i64 (3 * k), .int .i64 (3 * k + 1), .int .i64 (3 * k + 2)] 175)).cell? ⟨bg, 0, none⟩ = some (.pointer (some ⟨A.g, 0, none⟩)) := Bg.cell 0
    replace Bb := Bb.alloc (Obj.cells #[.int .i64 (3 * k), .int .i64 (3 * k + 1), .int .i64 (3 * k + 2)] 175)
    have Bb0 : (w.alloc (Obj.cells #[.int .i64 (3 * k), .int .i64 (3 * k + 1), .int .i64 (3 * k + 2)] 175)).cell? ⟨bb, 0, none⟩ = some (.int .i64 b) := Bb.cell 0
    go_wp2_with fail
    with_reducible refine (SetWord_c (by repeat (first | exact H | with_reducible apply zha | with_reducible apply zhd | with_reducible apply zhn)) (by omega) (by omega) e1.out).mono ?_
    rintro _ w1 ⟨rfl, H1, K1⟩
    replace Bg := Blk.stays (by repeat (first | exact Bg | with_reducible apply zba | with_reducible apply zbd)) K1 (GA.foot_far hbg)
    clear Bg0
    have Bg0 : w1.cell? ⟨bg, 0, none⟩ = some (.pointer (some ⟨A.g, 0, none⟩)) := Bg.cell 0
    replace Bb := Blk.stays (by repeat (first | exact Bb | with_reducible apply zba | with_reducible apply zbd)) K1 (GA.foot_far hbb)
    clear Bb0
    have Bb0 : w1.cell? ⟨bb, 0, none⟩ = some (.int .i64 b) := Bb.cell 0
    replace Be := Blk.stays (by repeat (first | exact Be | with_reducible apply zba | with_reducible apply zbd)) K1 (GA.foot_far H.top)
    have Be0 : w1.cell? ⟨w.heap.size, 0, none⟩ = some (.int .i64 (3 * k)) := Be.cell 0
    have Be1 : w1.cell? ⟨w.heap.size, 1, none⟩ = some (.int .i64 (3 * k + 1)) := Be.cell 1
    have Be2 : w1.cell? ⟨w.heap.size, 2, none⟩ = some (.int .i64 (3 * k + 2)) := Be.cell 2
    go_wp2_with fail
    go_region_held3 (fun wx => wx.cell? ⟨bg, 0, none⟩ = some (.pointer (some ⟨A.g, 0, none⟩)) ∧ wx.cell? ⟨bb, 0, none⟩ = some (.int .i64 b) ∧ wx.cell? ⟨w.heap.size, 0, none⟩ = some (.int .i64 (3 * k)) ∧ wx.cell? ⟨w.heap.size, 1, none⟩ = some (.int .i64 (3 * k + 1)) ∧ wx.cell? ⟨w.heap.size, 2, none⟩ = some (.int .i64 (3 * k + 2)))
      (first | exact ⟨Bg0, Bb0, Be0, Be1, Be2⟩ | go_keep)
      (first | (go_at_call 95; (repeat (first | rw [IntWalk.i64_in _ (by omega)] | rw [IntWalk.u32_in _ (by omega)])); (with_reducible refine (Reg_c (by repeat (first | exact H1 | with_reducible apply zha | with_reducible apply zhd | with_reducible apply zhn)) e3.out).mono ?_); (rintro _ w3 ⟨rfl, H3, K3⟩); obtain ⟨ra3, rb3⟩ := stGet_range (H1).ok e3.out; replace Bg := Blk.stays (by repeat (first | exact Bg | with_reducible apply zba | with_reducible apply zbd)) K3 (GA.foot_far hbg); clear Bg0; have Bg0 : w3.cell? ⟨bg, 0, none⟩ = some (.pointer (some ⟨A.g, 0, none⟩)) := Bg.cell 0; replace Bb := Blk.stays (by repeat (first | exact Bb | with_reducible apply zba | with_reducible apply zbd)) K3 (GA.foot_far hbb); clear Bb0; have Bb0 : w3.cell? ⟨bb, 0, none⟩ = some (.int .i64 b) := Bb.cell 0; replace Be := Blk.stays (by repeat (first | exact Be | with_reducible apply zba | with_reducible apply zbd)) K3 (GA.foot_far H.top); clear Be0 Be1 Be2; have Be0 : w3.cell? ⟨w.heap.size, 0, none⟩ = some (.int .i64 (3 * k)) := Be.cell 0; have Be1 : w3.cell? ⟨w.heap.size, 1, none⟩ = some (.int .i64 (3 * k + 1)) := Be.cell 1; have Be2 : w3.cell? ⟨w.heap.size, 2, none⟩ = some (.int .i64 (3 * k + 2)) := Be.cell 2) | (go_at_call 111; (repeat (first | rw [IntWalk.i64_in _ (by omega)] | rw [IntWalk.u32_in _ (by omega)])); (with_reducible refine (SetWord_c (by repeat (first | exact H3 | with_reducible apply zha | with_reducible apply zhd | with_reducible apply zhn)) (by omega) (by omega) e4.out).mono ?_); (rintro _ w4 ⟨rfl, H4, K4⟩); replace Bg := Blk.stays (by repeat (first | exact Bg | with_reducible apply zba | with_reducible apply zbd)) K4 (GA.foot_far hbg); clear Bg0; have Bg0 : w4.cell? ⟨bg, 0, none⟩ = some (.pointer (some ⟨A.g, 0, none⟩)) := Bg.cell 0; replace Bb := Blk.stays (by repeat (first | exact Bb | with_reducible apply zba | with_reducible apply zbd)) K4 (GA.foot_far hbb); clear Bb0; have Bb0 : w4.cell? ⟨bb, 0, none⟩ = some (.int .i64 b) := Bb.cell 0; replace Be := Blk.stays (by repeat (first | exact Be | with_reducible apply zba | with_reducible apply zbd)) K4 (GA.foot_far H.top); clear Be0 Be1 Be2; have Be0 : w4.cell? ⟨w.heap.size, 0, none⟩ = some (.int .i64 (3 * k)) := Be.cell 0; have Be1 : w4.cell? ⟨w.heap.size, 1, none⟩ = some (.int .i64 (3 * k + 1)) := Be.cell 1; have Be2 : w4.cell? ⟨w.heap.size, 2, none⟩ = some (.int .i64 (3 * k + 2)) := Be.cell 2))
    go_wp2_with fail
    with_reducible refine (SetReg_c (by repeat (first | exact H4 | with_reducible apply zha | with_reducible apply zhd | with_reducible apply zhn)) e5.out).mono ?_
    rintro _ w5 ⟨rfl, H5, K5⟩
    replace Bg := Blk.stays (by repeat (first | exact Bg | with_reducible apply zba | with_reducible apply zbd)) K5 (GA.foot_far hbg)
    clear Bg0
    have Bg0 : w5.cell? ⟨bg, 0, none⟩ = some (.pointer (some ⟨A.g, 0, none⟩)) := Bg.cell 0
    replace Bb := Blk.stays (by repeat (first | exact Bb | with_reducible apply zba | with_reducible apply zbd)) K5 (GA.foot_far hbb)
    clear Bb0
    have Bb0 : w5.cell? ⟨bb, 0, none⟩ = some (.int .i64 b) := Bb.cell 0
    replace Be := Blk.stays (by repeat (first | exact Be | with_reducible apply zba | with_reducible apply zbd)) K5 (GA.foot_far H.top)
    clear Be0 Be1 Be2
    have Be0 : w5.cell? ⟨w.heap.size, 0, none⟩ = some (.int .i64 (3 * k)) := Be.cell 0
    have Be1 : w5.cell? ⟨w.heap.size, 1, none⟩ = some (.int .i64 (3 * k + 1)) := Be.cell 1
    have Be2 : w5.cell? ⟨w.heap.size, 2, none⟩ = some (.int .i64 (3 * k + 2)) := Be.cell 2
    go_wp2_with fail
    go_end0
    exact ⟨by first | rfl | (simp; done) | (simp [*]; done), (by repeat (first | exact H5 | with_reducible apply zha | with_reducible apply zhd | with_reducible apply zhn)), by
      with_reducible repeat (first | apply zsa | apply zsd)
      refine Stays.trans ?_ K5
      with_reducible repeat (first | apply zsa | apply zsd)
      refine Stays.trans ?_ K4
      with_reducible repeat (first | apply zsa | apply zsd)
      refine Stays.trans ?_ K3
      with_reducible repeat (first | apply zsa | apply zsd)
      refine Stays.trans ?_ K1
      with_reducible repeat (first | apply zsa | apply zsd)
      exact Stays.refl _ _⟩

def chPushL (k : Int) (b : Int) (n : Int) : GM Unit :=
  Reg (3 * k) >>= fun x =>
  SetWord b 5 x >>= fun _ =>
  SetReg (3 * k) (b + 1) >>= fun _ =>
  if n = 0 then
    SetReg (3 * k + 1) (b + 1) >>= fun _ =>
    pure ()
  else
    pure ()

theorem chPushL_c {A : GA} {S : GS} {w : World} (H : Held A S w) {k : Int} {b : Int} {n : Int} {bg bb : Nat} (hbg : A.top ≤ bg) (hbb : A.top ≤ bb) (Bg : Blk w bg 22 #[.pointer (some ⟨A.g, 0, none⟩)]) (Bb : Blk w bb 3 #[.int .i64 b]) (hb0 : 0 ≤ b) (hb1 : b < 1048576) (hk0 : 0 ≤ k) (hk1 : k ≤ 1) {T : GS} (e : chPushL k b n S = ((), T)) :
    Calls Tryz.prog 256 #[.agg #[.int .i64 (3 * k), .int .i64 (3 * k + 1), .int .i64 (3 * k + 2)], .int .i64 (b + 1), .int .i64 n, .pointer (some ⟨bg, 0, none⟩), .pointer (some ⟨bb, 0, none⟩)] w (Did A w (.tuple #[]) T) := by
  unfold chPushL at e
  replace e := GM.bind_eq e; obtain ⟨x, S1, e1_, e⟩ := e; have e1 := Hd.mk e1_; clear e1_
  replace e := GM.bind_eq e; obtain ⟨u2, S2, e2_, e⟩ := e; have e2 := Hd.mk e2_; clear e2_
  replace e := GM.bind_eq e; obtain ⟨u3, S3, e3_, e⟩ := e; have e3 := Hd.mk e3_; clear e3_
  by_cases c4 : n = 0
  · rw [if_pos c4] at e; subst c4
    replace e := GM.bind_eq e; obtain ⟨u5, S5, e5_, e⟩ := e; have e5 := Hd.mk e5_; clear e5_
    obtain ⟨hv, rfl⟩ := GM.pure_eq e
    clear hv
    go_enter Tryz.func256, Tryz.ntmps256
    have Be := Blk.new w 175 #[.int .i64 (3 * k), .int .i64 (3 * k + 1), .int .i64 (3 * k + 2)]
    replace Bg := Bg.alloc (Obj.cells #[.int .i64 (3 * k), .int .i64 (3 * k + 1), .int .i64 (3 * k + 2)] 175)
    have Bg0 : (w.alloc (Obj.cells #[.int .i64 (3 * k), .int .i64 (3 * k + 1), .int .i64 (3 * k + 2)] 175)).cell? ⟨bg, 0, none⟩ = some (.pointer (some ⟨A.g, 0, none⟩)) := Bg.cell 0
    replace Bb := Bb.alloc (Obj.cells #[.int .i64 (3 * k), .int .i64 (3 * k + 1), .int .i64 (3 * k + 2)] 175)
    have Bb0 : (w.alloc (Obj.cells #[.int .i64 (3 * k), .int .i64 (3 * k + 1), .int .i64 (3 * k + 2)] 175)).cell? ⟨bb, 0, none⟩ = some (.int .i64 b) := Bb.cell 0
    go_wp2_with fail
    go_region_held3 (fun wx => wx.cell? ⟨bg, 0, none⟩ = some (.pointer (some ⟨A.g, 0, none⟩)) ∧ wx.cell? ⟨bb, 0, none⟩ = some (.int .i64 b) ∧ wx.cell? ⟨w.heap.size, 0, none⟩ = some (.int .i64 (3 * k)) ∧ wx.cell? ⟨w.heap.size, 1, none⟩ = some (.int .i64 (3 * k + 1)) ∧ wx.cell? ⟨w.heap.size, 2, none⟩ = some (.int .i64 (3 * k + 2)))
      (first | exact ⟨Bg0, Bb0, Be0, Be1, Be2⟩ | go_keep)
      (first | (go_at_call 95; (repeat (first | rw [IntWalk.i64_in _ (by omega)] | rw [IntWalk.u32_in _ (by omega)])); (with_reducible refine (Reg_c (by repeat (first | exact H | with_reducible apply zha | with_reducible apply zhd | with_reducible apply zhn)) e1.out).mono ?_); (rintro _ w1 ⟨rfl, H1, K1⟩); obtain ⟨ra1, rb1⟩ := stGet_range (H).ok e1.out; replace Bg := Blk.stays (by repeat (first | exact Bg | with_reducible apply zba | with_reducible apply zbd)) K1 (GA.foot_far hbg); clear Bg0; have Bg0 : w1.cell? ⟨bg, 0, none⟩ = some (.pointer (some ⟨A.g, 0, none⟩)) := Bg.cell 0; replace Bb := Blk.stays (by repeat (first | exact Bb | with_reducible apply zba | with_reducible apply zbd)) K1 (GA.foot_far hbb); clear Bb0; have Bb0 : w1.cell? ⟨bb, 0, none⟩ = some (.int .i64 b) := Bb.cell 0; replace Be := Blk.stays (by repeat (first | exact Be | with_reducible apply zba | with_reducible apply zbd)) K1 (GA.foot_far H.top); have Be0 : w1.cell? ⟨w.heap.size, 0, none⟩ = some (.int .i64 (3 * k)) := Be.cell 0; have Be1 : w1.cell? ⟨w.heap.size, 1, none⟩ = some (.int .i64 (3 * k + 1)) := Be.cell 1; have Be2 : w1.cell? ⟨w.heap.size, 2, none⟩ = some (.int .i64 (3 * k + 2)) := Be.cell 2) | (go_at_call 111; (repeat (first | rw [IntWalk.i64_in _ (by omega)] | rw [IntWalk.u32_in _ (by omega)])); (with_reducible refine (SetWord_c (by repeat (first | exact H1 | with_reducible apply zha | with_reducible apply zhd | with_reducible apply zhn)) (by omega) (by omega) e2.out).mono ?_); (rintro _ w2 ⟨rfl, H2, K2⟩); replace Bg := Blk.stays (by repeat (first | exact Bg | with_reducible apply zba | with_reducible apply zbd)) K2 (GA.foot_far hbg); clear Bg0; have Bg0 : w2.cell? ⟨bg, 0, none⟩ = some (.pointer (some ⟨A.g, 0, none⟩)) := Bg.cell 0; replace Bb := Blk.stays (by repeat (first | exact Bb | with_reducible apply zba | with_reducible apply zbd)) K2 (GA.foot_far hbb); clear Bb0; have Bb0 : w2.cell? ⟨bb, 0, none⟩ = some (.int .i64 b) := Bb.cell 0; replace Be := Blk.stays (by repeat (first | exact Be | with_reducible apply zba | with_reducible apply zbd)) K2 (GA.foot_far H.top); clear Be0 Be1 Be2; have Be0 : w2.cell? ⟨w.heap.size, 0, none⟩ = some (.int .i64 (3 * k)) := Be.cell 0; have Be1 : w2.cell? ⟨w.heap.size, 1, none⟩ = some (.int .i64 (3 * k + 1)) := Be.cell 1; have Be2 : w2.cell? ⟨w.heap.size, 2, none⟩ = some (.int .i64 (3 * k + 2)) := Be.cell 2))
    go_wp2_with fail
    with_reducible refine (SetReg_c (by repeat (first | exact H2 | with_reducible apply zha | with_reducible apply zhd | with_reducible apply zhn)) e3.out).mono ?_
    rintro _ w3 ⟨rfl, H3, K3⟩
    replace Bg := Blk.stays (by repeat (first | exact Bg | with_reducible apply zba | with_reducible apply zbd)) K3 (GA.foot_far hbg)
    clear Bg0
    have Bg0 : w3.cell? ⟨bg, 0, none⟩ = some (.pointer (some ⟨A.g, 0, none⟩)) := Bg.cell 0
    replace Bb := Blk.stays (by repeat (first | exact Bb | with_reducible apply zba | with_reducible apply zbd)) K3 (GA.foot_far hbb)
    clear Bb0
    have Bb0 : w3.cell? ⟨bb, 0, none⟩ = some (.int .i64 b) := Bb.cell 0
    replace Be := Blk.stays (by repeat (first | exact Be | with_reducible apply zba | with_reducible apply zbd)) K3 (GA.foot_far H.top)
    clear Be0 Be1 Be2
    have Be0 : w3.cell? ⟨w.heap.size, 0, none⟩ = some (.int .i64 (3 * k)) := Be.cell 0
    have Be1 : w3.cell? ⟨w.heap.size, 1, none⟩ = some (.int .i64 (3 * k + 1)) := Be.cell 1
    have Be2 : w3.cell? ⟨w.heap.size, 2, none⟩ = some (.int .i64 (3 * k + 2)) := Be.cell 2
    go_wp2_with fail
    with_reducible refine (SetReg_c (by repeat (first | exact H3 | with_reducible apply zha | with_reducible apply zhd | with_reducible apply zhn)) e5.out).mono ?_
    rintro _ w5 ⟨rfl, H5, K5⟩
    replace Bg := Blk.stays (by repeat (first | exact Bg | with_reducible apply zba | with_reducible apply zbd)) K5 (GA.foot_far hbg)
    clear Bg0
    have Bg0 : w5.cell? ⟨bg, 0, none⟩ = some (.pointer (some ⟨A.g, 0, none⟩)) := Bg.cell 0
    replace Bb := Blk.stays (by repeat (first | exact Bb | with_reducible apply zba | with_reducible apply zbd)) K5 (GA.foot_far hbb)
    clear Bb0
    have Bb0 : w5.cell? ⟨bb, 0, none⟩ = some (.int .i64 b) := Bb.cell 0
    replace Be := Blk.stays (by repeat (first | exact Be | with_reducible apply zba | with_reducible apply zbd)) K5 (GA.foot_far H.top)
    clear Be0 Be1 Be2
    have Be0 : w5.cell? ⟨w.heap.size, 0, none⟩ = some (.int .i64 (3 * k)) := Be.cell 0
    have Be1 : w5.cell? ⟨w.heap.size, 1, none⟩ = some (.int .i64 (3 * k + 1)) := Be.cell 1
    have Be2 : w5.cell? ⟨w.heap.size, 2, none⟩ = some (.int .i64 (3 * k + 2)) := Be.cell 2
    go_wp2_with fail
    go_end0
    exact ⟨by first | rfl | (simp; done) | (simp [*]; done), (by repeat (first | exact H5 | with_reducible apply zha | with_reducible apply zhd | with_reducible apply zhn)), by
      with_reducible repeat (first | apply zsa | apply zsd)
      refine Stays.trans ?_ K5
      with_reducible repeat (first | apply zsa | apply zsd)
      refine Stays.trans ?_ K3
      with_reducible repeat (first | apply zsa | apply zsd)
      refine Stays.trans ?_ K2
      with_reducible repeat (first | apply zsa | apply zsd)
      refine Stays.trans ?_ K1
      with_reducible repeat (first | apply zsa | apply zsd)
      exact Stays.refl _ _⟩
  · rw [if_neg c4] at e; have c4b : (n == 0) = false := beq_eq_false_iff_ne.2 c4; have c4n : (n != 0) = true := bne_iff_ne.2 c4
    obtain ⟨hv, rfl⟩ := GM.pure_eq e
    clear hv
    go_enter Tryz.func256, Tryz.ntmps256
    have Be := Blk.new w 175 #[.int .i64 (3 * k), .int .i64 (3 * k + 1), .int .i64 (3 * k + 2)]
    replace Bg := Bg.alloc (Obj.cells #[.int .i64 (3 * k), .int .i64 (3 * k + 1), .int .i64 (3 * k + 2)] 175)
    have Bg0 : (w.alloc (Obj.cells #[.int .i64 (3 * k), .int .i64 (3 * k + 1), .int .i64 (3 * k + 2)] 175)).cell? ⟨bg, 0, none⟩ = some (.pointer (some ⟨A.g, 0, none⟩)) := Bg.cell 0
    replace Bb := Bb.alloc (Obj.cells #[.int .i64 (3 * k), .int .i64 (3 * k + 1), .int .i64 (3 * k + 2)] 175)
    have Bb0 : (w.alloc (Obj.cells #[.int .i64 (3 * k), .int .i64 (3 * k + 1), .int .i64 (3 * k + 2)] 175)).cell? ⟨bb, 0, none⟩ = some (.int .i64 b) := Bb.cell 0
    go_wp2_with fail
    go_region_held3 (fun wx => wx.cell? ⟨bg, 0, none⟩ = some (.pointer (some ⟨A.g, 0, none⟩)) ∧ wx.cell? ⟨bb, 0, none⟩ = some (.int .i64 b) ∧ wx.cell? ⟨w.heap.size, 0, none⟩ = some (.int .i64 (3 * k)) ∧ wx.cell? ⟨w.heap.size, 1, none⟩ = some (.int .i64 (3 * k + 1)) ∧ wx.cell? ⟨w.heap.size, 2, none⟩ = some (.int .i64 (3 * k + 2)))
      (first | exact ⟨Bg0, Bb0, Be0, Be1, Be2⟩ | go_keep)
      (first | (go_at_call 95; (repeat (first | rw [IntWalk.i64_in _ (by omega)] | rw [IntWalk.u32_in _ (by omega)])); (with_reducible refine (Reg_c (by repeat (first | exact H | with_reducible apply zha | with_reducible apply zhd | with_reducible apply zhn)) e1.out).mono ?_); (rintro _ w1 ⟨rfl, H1, K1⟩); obtain ⟨ra1, rb1⟩ := stGet_range (H).ok e1.out; replace Bg := Blk.stays (by repeat (first | exact Bg | with_reducible apply zba | with_reducible apply zbd)) K1 (GA.foot_far hbg); clear Bg0; have Bg0 : w1.cell? ⟨bg, 0, none⟩ = some (.pointer (some ⟨A.g, 0, none⟩)) := Bg.cell 0; replace Bb := Blk.stays (by repeat (first | exact Bb | with_reducible apply zba | with_reducible apply zbd)) K1 (GA.foot_far hbb); clear Bb0; have Bb0 : w1.cell? ⟨bb, 0, none⟩ = some (.int .i64 b) := Bb.cell 0; replace Be := Blk.stays (by repeat (first | exact Be | with_reducible apply zba | with_reducible apply zbd)) K1 (GA.foot_far H.top); have Be0 : w1.cell? ⟨w.heap.size, 0, none⟩ = some (.int .i64 (3 * k)) := Be.cell 0; have Be1 : w1.cell? ⟨w.heap.size, 1, none⟩ = some (.int .i64 (3 * k + 1)) := Be.cell 1; have Be2 : w1.cell? ⟨w.heap.size, 2, none⟩ = some (.int .i64 (3 * k + 2)) := Be.cell 2) | (go_at_call 111; (repeat (first | rw [IntWalk.i64_in _ (by omega)] | rw [IntWalk.u32_in _ (by omega)])); (with_reducible refine (SetWord_c (by repeat (first | exact H1 | with_reducible apply zha | with_reducible apply zhd | with_reducible apply zhn)) (by omega) (by omega) e2.out).mono ?_); (rintro _ w2 ⟨rfl, H2, K2⟩); replace Bg := Blk.stays (by repeat (first | exact Bg | with_reducible apply zba | with_reducible apply zbd)) K2 (GA.foot_far hbg); clear Bg0; have Bg0 : w2.cell? ⟨bg, 0, none⟩ = some (.pointer (some ⟨A.g, 0, none⟩)) := Bg.cell 0; replace Bb := Blk.stays (by repeat (first | exact Bb | with_reducible apply zba | with_reducible apply zbd)) K2 (GA.foot_far hbb); clear Bb0; have Bb0 : w2.cell? ⟨bb, 0, none⟩ = some (.int .i64 b) := Bb.cell 0; replace Be := Blk.stays (by repeat (first | exact Be | with_reducible apply zba | with_reducible apply zbd)) K2 (GA.foot_far H.top); clear Be0 Be1 Be2; have Be0 : w2.cell? ⟨w.heap.size, 0, none⟩ = some (.int .i64 (3 * k)) := Be.cell 0; have Be1 : w2.cell? ⟨w.heap.size, 1, none⟩ = some (.int .i64 (3 * k + 1)) := Be.cell 1; have Be2 : w2.cell? ⟨w.heap.size, 2, none⟩ = some (.int .i64 (3 * k + 2)) := Be.cell 2))
    go_wp2_with fail
    with_reducible refine (SetReg_c (by repeat (first | exact H2 | with_reducible apply zha | with_reducible apply zhd | with_reducible apply zhn)) e3.out).mono ?_
    rintro _ w3 ⟨rfl, H3, K3⟩
    replace Bg := Blk.stays (by repeat (first | exact Bg | with_reducible apply zba | with_reducible apply zbd)) K3 (GA.foot_far hbg)
    clear Bg0
    have Bg0 : w3.cell? ⟨bg, 0, none⟩ = some (.pointer (some ⟨A.g, 0, none⟩)) := Bg.cell 0
    replace Bb := Blk.stays (by repeat (first | exact Bb | with_reducible apply zba | with_reducible apply zbd)) K3 (GA.foot_far hbb)
    clear Bb0
    have Bb0 : w3.cell? ⟨bb, 0, none⟩ = some (.int .i64 b) := Bb.cell 0
    replace Be := Blk.stays (by repeat (first | exact Be | with_reducible apply zba | with_reducible apply zbd)) K3 (GA.foot_far H.top)
    clear Be0 Be1 Be2
    have Be0 : w3.cell? ⟨w.heap.size, 0, none⟩ = some (.int .i64 (3 * k)) := Be.cell 0
    have Be1 : w3.cell? ⟨w.heap.size, 1, none⟩ = some (.int .i64 (3 * k + 1)) := Be.cell 1
    have Be2 : w3.cell? ⟨w.heap.size, 2, none⟩ = some (.int .i64 (3 * k + 2)) := Be.cell 2
    go_wp2_with fail
    go_end0
    exact ⟨by first | rfl | (simp; done) | (simp [*]; done), (by repeat (first | exact H3 | with_reducible apply zha | with_reducible apply zhd | with_reducible apply zhn)), by
      with_reducible repeat (first | apply zsa | apply zsd)
      refine Stays.trans ?_ K3
      with_reducible repeat (first | apply zsa | apply zsd)
      refine Stays.trans ?_ K2
      with_reducible repeat (first | apply zsa | apply zsd)
      refine Stays.trans ?_ K1
      with_reducible repeat (first | apply zsa | apply zsd)
      exact Stays.refl _ _⟩

def chAdd (k : Int) (b : Int) : GM Bool :=
  if b < 0 then
    pure false
  else
    getS >>= fun c =>
    if b ≥ c.n then
      pure false
    else
      Reg (3 * k + 2) >>= fun n =>
      chAddL k b n >>= fun _ =>
      SetReg (3 * k + 2) (n + 1) >>= fun _ =>
      pure true

theorem chAdd_c {A : GA} {S : GS} {w : World} (H : Held A S w) {k : Int} {b : Int} {v0 : Bool} {bg bb : Nat} (hbg : A.top ≤ bg) (hbb : A.top ≤ bb) (Bg : Blk w bg 22 #[.pointer (some ⟨A.g, 0, none⟩)]) (Bb : Blk w bb 3 #[.int .i64 b]) (hk0 : 0 ≤ k) (hk1 : k ≤ 1) {T : GS} (e : chAdd k b S = (v0, T)) :
    Calls Tryz.prog 189 #[.pointer (some ⟨A.g, 0, none⟩), .int .i64 k, .int .i64 b, .func (.func 190) #[] #[.pointer (some ⟨bg, 0, none⟩), .pointer (some ⟨bb, 0, none⟩)]] w (Did A w (.bool v0) T) := by
  unfold chAdd at e
  have hn2 := H.ok.n2
  by_cases c2 : b < 0
  · rw [if_pos c2] at e
    obtain ⟨hv, rfl⟩ := GM.pure_eq e
    obtain rfl := hv
    go_enter Tryz.func189, Tryz.ntmps189
    go_wp2_with fail
    with_reducible refine (chain_of_c (by repeat (first | exact H | with_reducible apply zha | with_reducible apply zhd | with_reducible apply zhn)) k hk0 hk1).mono ?_
    rintro _ w1 ⟨rfl, H1, K1⟩
    replace Bg := Blk.stays (by repeat (first | exact Bg | with_reducible apply zba | with_reducible apply zbd)) K1 (GA.foot_far hbg)
    have Bg0 : w1.cell? ⟨bg, 0, none⟩ = some (.pointer (some ⟨A.g, 0, none⟩)) := Bg.cell 0
    replace Bb := Blk.stays (by repeat (first | exact Bb | with_reducible apply zba | with_reducible apply zbd)) K1 (GA.foot_far hbb)
    have Bb0 : w1.cell? ⟨bb, 0, none⟩ = some (.int .i64 b) := Bb.cell 0
    have Be := Blk.new w1 175 #[.int .i64 (3 * k), .int .i64 (3 * k + 1), .int .i64 (3 * k + 2)]
    replace Bg := Bg.alloc (Obj.cells #[.int .i64 (3 * k), .int .i64 (3 * k + 1), .int .i64 (3 * k + 2)] 175)
    clear Bg0
    have Bg0 : (w1.alloc (Obj.cells #[.int .i64 (3 * k), .int .i64 (3 * k + 1), .int .i64 (3 * k + 2)] 175)).cell? ⟨bg, 0, none⟩ = some (.pointer (some ⟨A.g, 0, none⟩)) := Bg.cell 0
    replace Bb := Bb.alloc (Obj.cells #[.int .i64 (3 * k), .int .i64 (3 * k + 1), .int .i64 (3 * k + 2)] 175)
    clear Bb0
    have Bb0 : (w1.alloc (Obj.cells #[.int .i64 (3 * k), .int .i64 (3 * k + 1), .int .i64 (3 * k + 2)] 175)).cell? ⟨bb, 0, none⟩ = some (.int .i64 b) := Bb.cell 0
    go_wp2_with fail
    go_ret
    exact ⟨by first | rfl | (simp; done) | (simp [*]; done), (by repeat (first | exact H1 | with_reducible apply zha | with_reducible apply zhd | with_reducible apply zhn)), by
      with_reducible repeat (first | apply zsa | apply zsd)
      refine Stays.trans ?_ K1
      with_reducible repeat (first | apply zsa | apply zsd)
      exact Stays.refl _ _⟩
  · rw [if_neg c2] at e
    replace e := GM.bind_eq e; obtain ⟨c, S3, e3, e⟩ := e
    obtain ⟨rfl, rfl⟩ := getS_eq e3
    by_cases c4 : b ≥ S.n
    · rw [if_pos c4] at e
      obtain ⟨hv, rfl⟩ := GM.pure_eq e
      obtain rfl := hv
      go_enter Tryz.func189, Tryz.ntmps189
      go_wp2_with fail
      with_reducible refine (chain_of_c (by repeat (first | exact H | with_reducible apply zha | with_reducible apply zhd | with_reducible apply zhn)) k hk0 hk1).mono ?_
      rintro _ w1 ⟨rfl, H1, K1⟩
      replace Bg := Blk.stays (by repeat (first | exact Bg | with_reducible apply zba | with_reducible apply zbd)) K1 (GA.foot_far hbg)
      have Bg0 : w1.cell? ⟨bg, 0, none⟩ = some (.pointer (some ⟨A.g, 0, none⟩)) := Bg.cell 0
      replace Bb := Blk.stays (by repeat (first | exact Bb | with_reducible apply zba | with_reducible apply zbd)) K1 (GA.foot_far hbb)
      have Bb0 : w1.cell? ⟨bb, 0, none⟩ = some (.int .i64 b) := Bb.cell 0
      have Be := Blk.new w1 175 #[.int .i64 (3 * k), .int .i64 (3 * k + 1), .int .i64 (3 * k + 2)]
      replace Bg := Bg.alloc (Obj.cells #[.int .i64 (3 * k), .int .i64 (3 * k + 1), .int .i64 (3 * k + 2)] 175)
      clear Bg0
      have Bg0 : (w1.alloc (Obj.cells #[.int .i64 (3 * k), .int .i64 (3 * k + 1), .int .i64 (3 * k + 2)] 175)).cell? ⟨bg, 0, none⟩ = some (.pointer (some ⟨A.g, 0, none⟩)) := Bg.cell 0
      replace Bb := Bb.alloc (Obj.cells #[.int .i64 (3 * k), .int .i64 (3 * k + 1), .int .i64 (3 * k + 2)] 175)
      clear Bb0
      have Bb0 : (w1.alloc (Obj.cells #[.int .i64 (3 * k), .int .i64 (3 * k + 1), .int .i64 (3 * k + 2)] 175)).cell? ⟨bb, 0, none⟩ = some (.int .i64 b) := Bb.cell 0
      go_wp2_with fail
      refine (conf_c (by repeat (first | exact H1 | with_reducible apply zha | with_reducible apply zhd | with_reducible apply zhn))).mono ?_
      rintro _ w3 ⟨rfl, H3, K3⟩
      replace Bg := Blk.stays (by repeat (first | exact Bg | with_reducible apply zba | with_reducible apply zbd)) K3 (GA.foot_far hbg)
      clear Bg0
      have Bg0 : w3.cell? ⟨bg, 0, none⟩ = some (.pointer (some ⟨A.g, 0, none⟩)) := Bg.cell 0
      replace Bb := Blk.stays (by repeat (first | exact Bb | with_reducible apply zba | with_reducible apply zbd)) K3 (GA.foot_far hbb)
      clear Bb0
      have Bb0 : w3.cell? ⟨bb, 0, none⟩ = some (.int .i64 b) := Bb.cell 0
      replace Be := Blk.stays (by repeat (first | exact Be | with_reducible apply zba | with_reducible apply zbd)) K3 (GA.foot_far H1.top)
      have Be0 : w3.cell? ⟨w1.heap.size, 0, none⟩ = some (.int .i64 (3 * k)) := Be.cell 0
      have Be1 : w3.cell? ⟨w1.heap.size, 1, none⟩ = some (.int .i64 (3 * k + 1)) := Be.cell 1
      have Be2 : w3.cell? ⟨w1.heap.size, 2, none⟩ = some (.int .i64 (3 * k + 2)) := Be.cell 2
      go_wp2_with fail
      go_ret
      exact ⟨by first | rfl | (simp; done) | (simp [*]; done), (by repeat (first | exact H3 | with_reducible apply zha | with_reducible apply zhd | with_reducible apply zhn)), by
        with_reducible repeat (first | apply zsa | apply zsd)
        refine Stays.trans ?_ K3
        with_reducible repeat (first | apply zsa | apply zsd)
        refine Stays.trans ?_ K1
        with_reducible repeat (first | apply zsa | apply zsd)
        exact Stays.refl _ _⟩
    · rw [if_neg c4] at e
      replace e := GM.bind_eq e; obtain ⟨n, S5, e5_, e⟩ := e; have e5 := Hd.mk e5_; clear e5_
      replace e := GM.bind_eq e; obtain ⟨u6, S6, e6_, e⟩ := e; have e6 := Hd.mk e6_; clear e6_
      replace e := GM.bind_eq e; obtain ⟨u7, S7, e7_, e⟩ := e; have e7 := Hd.mk e7_; clear e7_
      obtain ⟨hv, rfl⟩ := GM.pure_eq e
      obtain rfl := hv
      go_enter Tryz.func189, Tryz.ntmps189
      go_wp2_with fail
      with_reducible refine (chain_of_c (by repeat (first | exact H | with_reducible apply zha | with_reducible apply zhd | with_reducible apply zhn)) k hk0 hk1).mono ?_
      rintro _ w1 ⟨rfl, H1, K1⟩
      replace Bg := Blk.stays (by repeat (first | exact Bg | with_reducible apply zba | with_reducible apply zbd)) K1 (GA.foot_far hbg)
      have Bg0 : w1.cell? ⟨bg, 0, none⟩ = some (.pointer (some ⟨A.g, 0, none⟩)) := Bg.cell 0
      replace Bb := Blk.stays (by repeat (first | exact Bb | with_reducible apply zba | with_reducible apply zbd)) K1 (GA.foot_far hbb)
      have Bb0 : w1.cell? ⟨bb, 0, none⟩ = some (.int .i64 b) := Bb.cell 0
      have Be := Blk.new w1 175 #[.int .i64 (3 * k), .int .i64 (3 * k + 1), .int .i64 (3 * k + 2)]
      replace Bg := Bg.alloc (Obj.cells #[.int .i64 (3 * k), .int .i64 (3 * k + 1), .int .i64 (3 * k + 2)] 175)
      clear Bg0
      have Bg0 : (w1.alloc (Obj.cells #[.int .i64 (3 * k), .int .i64 (3 * k + 1), .int .i64 (3 * k + 2)] 175)).cell? ⟨bg, 0, none⟩ = some (.pointer (some ⟨A.g, 0, none⟩)) := Bg.cell 0
      replace Bb := Bb.alloc (Obj.cells #[.int .i64 (3 * k), .int .i64 (3 * k + 1), .int .i64 (3 * k + 2)] 175)
      clear Bb0
      have Bb0 : (w1.alloc (Obj.cells #[.int .i64 (3 * k), .int .i64 (3 * k + 1), .int .i64 (3 * k + 2)] 175)).cell? ⟨bb, 0, none⟩ = some (.int .i64 b) := Bb.cell 0
      go_wp2_with fail
      refine (conf_c (by repeat (first | exact H1 | with_reducible apply zha | with_reducible apply zhd | with_reducible apply zhn))).mono ?_
      rintro _ w3 ⟨rfl, H3, K3⟩
      replace Bg := Blk.stays (by repeat (first | exact Bg | with_reducible apply zba | with_reducible apply zbd)) K3 (GA.foot_far hbg)
      clear Bg0
      have Bg0 : w3.cell? ⟨bg, 0, none⟩ = some (.pointer (some ⟨A.g, 0, none⟩)) := Bg.cell 0
      replace Bb := Blk.stays (by repeat (first | exact Bb | with_reducible apply zba | with_reducible apply zbd)) K3 (GA.foot_far hbb)
      clear Bb0
      have Bb0 : w3.cell? ⟨bb, 0, none⟩ = some (.int .i64 b) := Bb.cell 0
      replace Be := Blk.stays (by repeat (first | exact Be | with_reducible apply zba | with_reducible apply zbd)) K3 (GA.foot_far H1.top)
      have Be0 : w3.cell? ⟨w1.heap.size, 0, none⟩ = some (.int .i64 (3 * k)) := Be.cell 0
      have Be1 : w3.cell? ⟨w1.heap.size, 1, none⟩ = some (.int .i64 (3 * k + 1)) := Be.cell 1
      have Be2 : w3.cell? ⟨w1.heap.size, 2, none⟩ = some (.int .i64 (3 * k + 2)) := Be.cell 2
      go_wp2_with fail
      with_reducible refine (Reg_c (by repeat (first | exact H3 | with_reducible apply zha | with_reducible apply zhd | with_reducible apply zhn)) e5.out).mono ?_
      rintro _ w5 ⟨rfl, H5, K5⟩
      obtain ⟨ra5, rb5⟩ := stGet_range (H3).ok e5.out
      replace Bg := Blk.stays (by repeat (first | exact Bg | with_reducible apply zba | with_reducible apply zbd)) K5 (GA.foot_far hbg)
      clear Bg0
      have Bg0 : w5.cell? ⟨bg, 0, none⟩ = some (.pointer (some ⟨A.g, 0, none⟩)) := Bg.cell 0
      replace Bb := Blk.stays (by repeat (first | exact Bb | with_reducible apply zba | with_reducible apply zbd)) K5 (GA.foot_far hbb)
      clear Bb0
      have Bb0 : w5.cell? ⟨bb, 0, none⟩ = some (.int .i64 b) := Bb.cell 0
      replace Be := Blk.stays (by repeat (first | exact Be | with_reducible apply zba | with_reducible apply zbd)) K5 (GA.foot_far H1.top)
      clear Be0 Be1 Be2
      have Be0 : w5.cell? ⟨w1.heap.size, 0, none⟩ = some (.int .i64 (3 * k)) := Be.cell 0
      have Be1 : w5.cell? ⟨w1.heap.size, 1, none⟩ = some (.int .i64 (3 * k + 1)) := Be.cell 1
      have Be2 : w5.cell? ⟨w1.heap.size, 2, none⟩ = some (.int .i64 (3 * k + 2)) := Be.cell 2
      go_wp2_with fail
      with_reducible refine (chAddL_c (by repeat (first | exact H5 | with_reducible apply zha | with_reducible apply zhd | with_reducible apply zhn)) hbg hbb (by repeat (first | exact Bg | with_reducible apply zba)) (by repeat (first | exact Bb | with_reducible apply zba)) (by omega) (by omega) hk0 hk1 e6.out).mono ?_
      rintro _ w6 ⟨rfl, H6, K6⟩
      replace Bg := Blk.stays (by repeat (first | exact Bg | with_reducible apply zba | with_reducible apply zbd)) K6 (GA.foot_far hbg)
      clear Bg0
      have Bg0 : w6.cell? ⟨bg, 0, none⟩ = some (.pointer (some ⟨A.g, 0, none⟩)) := Bg.cell 0
      replace Bb := Blk.stays (by repeat (first | exact Bb | with_reducible apply zba | with_reducible apply zbd)) K6 (GA.foot_far hbb)
      clear Bb0
      have Bb0 : w6.cell? ⟨bb, 0, none⟩ = some (.int .i64 b) := Bb.cell 0
      replace Be := Blk.stays (by repeat (first | exact Be | with_reducible apply zba | with_reducible apply zbd)) K6 (GA.foot_far H1.top)
      clear Be0 Be1 Be2
      have Be0 : w6.cell? ⟨w1.heap.size, 0, none⟩ = some (.int .i64 (3 * k)) := Be.cell 0
      have Be1 : w6.cell? ⟨w1.heap.size, 1, none⟩ = some (.int .i64 (3 * k + 1)) := Be.cell 1
      have Be2 : w6.cell? ⟨w1.heap.size, 2, none⟩ = some (.int .i64 (3 * k + 2)) := Be.cell 2
      go_wp2_with fail
      with_reducible refine (SetReg_c (by repeat (first | exact H6 | with_reducible apply zha | with_reducible apply zhd | with_reducible apply zhn)) e7.out).mono ?_
      rintro _ w7 ⟨rfl, H7, K7⟩
      replace Bg := Blk.stays (by repeat (first | exact Bg | with_reducible apply zba | with_reducible apply zbd)) K7 (GA.foot_far hbg)
      clear Bg0
      have Bg0 : w7.cell? ⟨bg, 0, none⟩ = some (.pointer (some ⟨A.g, 0, none⟩)) := Bg.cell 0
      replace Bb := Blk.stays (by repeat (first | exact Bb | with_reducible apply zba | with_reducible apply zbd)) K7 (GA.foot_far hbb)
      clear Bb0
      have Bb0 : w7.cell? ⟨bb, 0, none⟩ = some (.int .i64 b) := Bb.cell 0
      replace Be := Blk.stays (by repeat (first | exact Be | with_reducible apply zba | with_reducible apply zbd)) K7 (GA.foot_far H1.top)
      clear Be0 Be1 Be2
      have Be0 : w7.cell? ⟨w1.heap.size, 0, none⟩ = some (.int .i64 (3 * k)) := Be.cell 0
      have Be1 : w7.cell? ⟨w1.heap.size, 1, none⟩ = some (.int .i64 (3 * k + 1)) := Be.cell 1
      have Be2 : w7.cell? ⟨w1.heap.size, 2, none⟩ = some (.int .i64 (3 * k + 2)) := Be.cell 2
      go_wp2_with fail
      go_ret
      exact ⟨by first | rfl | (simp; done) | (simp [*]; done), (by repeat (first | exact H7 | with_reducible apply zha | with_reducible apply zhd | with_reducible apply zhn)), by
        with_reducible repeat (first | apply zsa | apply zsd)
        refine Stays.trans ?_ K7
        with_reducible repeat (first | apply zsa | apply zsd)
        refine Stays.trans ?_ K6
        with_reducible repeat (first | apply zsa | apply zsd)
        refine Stays.trans ?_ K5
        with_reducible repeat (first | apply zsa | apply zsd)
        refine Stays.trans ?_ K3
        with_reducible repeat (first | apply zsa | apply zsd)
        refine Stays.trans ?_ K1
        with_reducible repeat (first | apply zsa | apply zsd)
        exact Stays.refl _ _⟩

def chPush (k : Int) (b : Int) : GM Bool :=
  if b < 0 then
    pure false
  else
    getS >>= fun c =>
    if b ≥ c.n then
      pure false
    else
      Reg (3 * k + 2) >>= fun n =>
      chPushL k b n >>= fun _ =>
      SetReg (3 * k + 2) (n + 1) >>= fun _ =>
      pure true

theorem chPush_c {A : GA} {S : GS} {w : World} (H : Held A S w) {k : Int} {b : Int} {v0 : Bool} {bg bb : Nat} (hbg : A.top ≤ bg) (hbb : A.top ≤ bb) (Bg : Blk w bg 22 #[.pointer (some ⟨A.g, 0, none⟩)]) (Bb : Blk w bb 3 #[.int .i64 b]) (hk0 : 0 ≤ k) (hk1 : k ≤ 1) {T : GS} (e : chPush k b S = (v0, T)) :
    Calls Tryz.prog 189 #[.pointer (some ⟨A.g, 0, none⟩), .int .i64 k, .int .i64 b, .func (.func 256) #[] #[.pointer (some ⟨bg, 0, none⟩), .pointer (some ⟨bb, 0, none⟩)]] w (Did A w (.bool v0) T) := by
  unfold chPush at e
  have hn2 := H.ok.n2
  by_cases c2 : b < 0
  · rw [if_pos c2] at e
    obtain ⟨hv, rfl⟩ := GM.pure_eq e
    obtain rfl := hv
    go_enter Tryz.func189, Tryz.ntmps189
    go_wp2_with fail
    with_reducible refine (chain_of_c (by repeat (first | exact H | with_reducible apply zha | with_reducible apply zhd | with_reducible apply zhn)) k hk0 hk1).mono ?_
    rintro _ w1 ⟨rfl, H1, K1⟩
    replace Bg := Blk.stays (by repeat (first | exact Bg | with_reducible apply zba | with_reducible apply zbd)) K1 (GA.foot_far hbg)
    have Bg0 : w1.cell? ⟨bg, 0, none⟩ = some (.pointer (some ⟨A.g, 0, none⟩)) := Bg.cell 0
    replace Bb := Blk.stays (by repeat (first | exact Bb | with_reducible apply zba | with_reducible apply zbd)) K1 (GA.foot_far hbb)
    have Bb0 : w1.cell? ⟨bb, 0, none⟩ = some (.int .i64 b) := Bb.cell 0
    have Be := Blk.new w1 175 #[.int .i64 (3 * k), .int .i64 (3 * k + 1), .int .i64 (3 * k + 2)]
    replace Bg := Bg.alloc (Obj.cells #[.int .i64 (3 * k), .int .i64 (3 * k + 1), .int .i64 (3 * k + 2)] 175)
    clear Bg0
    have Bg0 : (w1.alloc (Obj.cells #[.int .i64 (3 * k), .int .i64 (3 * k + 1), .int .i64 (3 * k + 2)] 175)).cell? ⟨bg, 0, none⟩ = some (.pointer (some ⟨A.g, 0, none⟩)) := Bg.cell 0
    replace Bb := Bb.alloc (Obj.cells #[.int .i64 (3 * k), .int .i64 (3 * k + 1), .int .i64 (3 * k + 2)] 175)
    clear Bb0
    have Bb0 : (w1.alloc (Obj.cells #[.int .i64 (3 * k), .int .i64 (3 * k + 1), .int .i64 (3 * k + 2)] 175)).cell? ⟨bb, 0, none⟩ = some (.int .i64 b) := Bb.cell 0
    go_wp2_with fail
    go_ret
    exact ⟨by first | rfl | (simp; done) | (simp [*]; done), (by repeat (first | exact H1 | with_reducible apply zha | with_reducible apply zhd | with_reducible apply zhn)), by
      with_reducible repeat (first | apply zsa | apply zsd)
      refine Stays.trans ?_ K1
      with_reducible repeat (first | apply zsa | apply zsd)
      exact Stays.refl _ _⟩
  · rw [if_neg c2] at e
    replace e := GM.bind_eq e; obtain ⟨c, S3, e3, e⟩ := e
    obtain ⟨rfl, rfl⟩ := getS_eq e3
    by_cases c4 : b ≥ S.n
    · rw [if_pos c4] at e
      obtain ⟨hv, rfl⟩ := GM.pure_eq e
      obtain rfl := hv
      go_enter Tryz.func189, Tryz.ntmps189
      go_wp2_with fail
      with_reducible refine (chain_of_c (by repeat (first | exact H | with_reducible apply zha | with_reducible apply zhd | with_reducible apply zhn)) k hk0 hk1).mono ?_
      rintro _ w1 ⟨rfl, H1, K1⟩
      replace Bg := Blk.stays (by repeat (first | exact Bg | with_reducible apply zba | with_reducible apply zbd)) K1 (GA.foot_far hbg)
      have Bg0 : w1.cell? ⟨bg, 0, none⟩ = some (.pointer (some ⟨A.g, 0, none⟩)) := Bg.cell 0
      replace Bb := Blk.stays (by repeat (first | exact Bb | with_reducible apply zba | with_reducible apply zbd)) K1 (GA.foot_far hbb)
      have Bb0 : w1.cell? ⟨bb, 0, none⟩ = some (.int .i64 b) := Bb.cell 0
      have Be := Blk.new w1 175 #[.int .i64 (3 * k), .int .i64 (3 * k + 1), .int .i64 (3 * k + 2)]
      replace Bg := Bg.alloc (Obj.cells #[.int .i64 (3 * k), .int .i64 (3 * k + 1), .int .i64 (3 * k + 2)] 175)
      clear Bg0
      have Bg0 : (w1.alloc (Obj.cells #[.int .i64 (3 * k), .int .i64 (3 * k + 1), .int .i64 (3 * k + 2)] 175)).cell? ⟨bg, 0, none⟩ = some (.pointer (some ⟨A.g, 0, none⟩)) := Bg.cell 0
      replace Bb := Bb.alloc (Obj.cells #[.int .i64 (3 * k), .int .i64 (3 * k + 1), .int .i64 (3 * k + 2)] 175)
      clear Bb0
      have Bb0 : (w1.alloc (Obj.cells #[.int .i64 (3 * k), .int .i64 (3 * k + 1), .int .i64 (3 * k + 2)] 175)).cell? ⟨bb, 0, none⟩ = some (.int .i64 b) := Bb.cell 0
      go_wp2_with fail
      refine (conf_c (by repeat (first | exact H1 | with_reducible apply zha | with_reducible apply zhd | with_reducible apply zhn))).mono ?_
      rintro _ w3 ⟨rfl, H3, K3⟩
      replace Bg := Blk.stays (by repeat (first | exact Bg | with_reducible apply zba | with_reducible apply zbd)) K3 (GA.foot_far hbg)
      clear Bg0
      have Bg0 : w3.cell? ⟨bg, 0, none⟩ = some (.pointer (some ⟨A.g, 0, none⟩)) := Bg.cell 0
      replace Bb := Blk.stays (by repeat (first | exact Bb | with_reducible apply zba | with_reducible apply zbd)) K3 (GA.foot_far hbb)
      clear Bb0
      have Bb0 : w3.cell? ⟨bb, 0, none⟩ = some (.int .i64 b) := Bb.cell 0
      replace Be := Blk.stays (by repeat (first | exact Be | with_reducible apply zba | with_reducible apply zbd)) K3 (GA.foot_far H1.top)
      have Be0 : w3.cell? ⟨w1.heap.size, 0, none⟩ = some (.int .i64 (3 * k)) := Be.cell 0
      have Be1 : w3.cell? ⟨w1.heap.size, 1, none⟩ = some (.int .i64 (3 * k + 1)) := Be.cell 1
      have Be2 : w3.cell? ⟨w1.heap.size, 2, none⟩ = some (.int .i64 (3 * k + 2)) := Be.cell 2
      go_wp2_with fail
      go_ret
      exact ⟨by first | rfl | (simp; done) | (simp [*]; done), (by repeat (first | exact H3 | with_reducible apply zha | with_reducible apply zhd | with_reducible apply zhn)), by
        with_reducible repeat (first | apply zsa | apply zsd)
        refine Stays.trans ?_ K3
        with_reducible repeat (first | apply zsa | apply zsd)
        refine Stays.trans ?_ K1
        with_reducible repeat (first | apply zsa | apply zsd)
        exact Stays.refl _ _⟩
    · rw [if_neg c4] at e
      replace e := GM.bind_eq e; obtain ⟨n, S5, e5_, e⟩ := e; have e5 := Hd.mk e5_; clear e5_
      replace e := GM.bind_eq e; obtain ⟨u6, S6, e6_, e⟩ := e; have e6 := Hd.mk e6_; clear e6_
      replace e := GM.bind_eq e; obtain ⟨u7, S7, e7_, e⟩ := e; have e7 := Hd.mk e7_; clear e7_
      obtain ⟨hv, rfl⟩ := GM.pure_eq e
      obtain rfl := hv
      go_enter Tryz.func189, Tryz.ntmps189
      go_wp2_with fail
      with_reducible refine (chain_of_c (by repeat (first | exact H | with_reducible apply zha | with_reducible apply zhd | with_reducible apply zhn)) k hk0 hk1).mono ?_
      rintro _ w1 ⟨rfl, H1, K1⟩
      replace Bg := Blk.stays (by repeat (first | exact Bg | with_reducible apply zba | with_reducible apply zbd)) K1 (GA.foot_far hbg)
      have Bg0 : w1.cell? ⟨bg, 0, none⟩ = some (.pointer (some ⟨A.g, 0, none⟩)) := Bg.cell 0
      replace Bb := Blk.stays (by repeat (first | exact Bb | with_reducible apply zba | with_reducible apply zbd)) K1 (GA.foot_far hbb)
      have Bb0 : w1.cell? ⟨bb, 0, none⟩ = some (.int .i64 b) := Bb.cell 0
      have Be := Blk.new w1 175 #[.int .i64 (3 * k), .int .i64 (3 * k + 1), .int .i64 (3 * k + 2)]
      replace Bg := Bg.alloc (Obj.cells #[.int .i64 (3 * k), .int .i64 (3 * k + 1), .int .i64 (3 * k + 2)] 175)
      clear Bg0
      have Bg0 : (w1.alloc (Obj.cells #[.int .i64 (3 * k), .int .i64 (3 * k + 1), .int .i64 (3 * k + 2)] 175)).cell? ⟨bg, 0, none⟩ = some (.pointer (some ⟨A.g, 0, none⟩)) := Bg.cell 0
      replace Bb := Bb.alloc (Obj.cells #[.int .i64 (3 * k), .int .i64 (3 * k + 1), .int .i64 (3 * k + 2)] 175)
      clear Bb0
      have Bb0 : (w1.alloc (Obj.cells #[.int .i64 (3 * k), .int .i64 (3 * k + 1), .int .i64 (3 * k + 2)] 175)).cell? ⟨bb, 0, none⟩ = some (.int .i64 b) := Bb.cell 0
      go_wp2_with fail
      refine (conf_c (by repeat (first | exact H1 | with_reducible apply zha | with_reducible apply zhd | with_reducible apply zhn))).mono ?_
      rintro _ w3 ⟨rfl, H3, K3⟩
      replace Bg := Blk.stays (by repeat (first | exact Bg | with_reducible apply zba | with_reducible apply zbd)) K3 (GA.foot_far hbg)
      clear Bg0
      have Bg0 : w3.cell? ⟨bg, 0, none⟩ = some (.pointer (some ⟨A.g, 0, none⟩)) := Bg.cell 0
      replace Bb := Blk.stays (by repeat (first | exact Bb | with_reducible apply zba | with_reducible apply zbd)) K3 (GA.foot_far hbb)
      clear Bb0
      have Bb0 : w3.cell? ⟨bb, 0, none⟩ = some (.int .i64 b) := Bb.cell 0
      replace Be := Blk.stays (by repeat (first | exact Be | with_reducible apply zba | with_reducible apply zbd)) K3 (GA.foot_far H1.top)
      have Be0 : w3.cell? ⟨w1.heap.size, 0, none⟩ = some (.int .i64 (3 * k)) := Be.cell 0
      have Be1 : w3.cell? ⟨w1.heap.size, 1, none⟩ = some (.int .i64 (3 * k + 1)) := Be.cell 1
      have Be2 : w3.cell? ⟨w1.heap.size, 2, none⟩ = some (.int .i64 (3 * k + 2)) := Be.cell 2
      go_wp2_with fail
      with_reducible refine (Reg_c (by repeat (first | exact H3 | with_reducible apply zha | with_reducible apply zhd | with_reducible apply zhn)) e5.out).mono ?_
      rintro _ w5 ⟨rfl, H5, K5⟩
      obtain ⟨ra5, rb5⟩ := stGet_range (H3).ok e5.out
      replace Bg := Blk.stays (by repeat (first | exact Bg | with_reducible apply zba | with_reducible apply zbd)) K5 (GA.foot_far hbg)
      clear Bg0
      have Bg0 : w5.cell? ⟨bg, 0, none⟩ = some (.pointer (some ⟨A.g, 0, none⟩)) := Bg.cell 0
      replace Bb := Blk.stays (by repeat (first | exact Bb | with_reducible apply zba | with_reducible apply zbd)) K5 (GA.foot_far hbb)
      clear Bb0
      have Bb0 : w5.cell? ⟨bb, 0, none⟩ = some (.int .i64 b) := Bb.cell 0
      replace Be := Blk.stays (by repeat (first | exact Be | with_reducible apply zba | with_reducible apply zbd)) K5 (GA.foot_far H1.top)
      clear Be0 Be1 Be2
      have Be0 : w5.cell? ⟨w1.heap.size, 0, none⟩ = some (.int .i64 (3 * k)) := Be.cell 0
      have Be1 : w5.cell? ⟨w1.heap.size, 1, none⟩ = some (.int .i64 (3 * k + 1)) := Be.cell 1
      have Be2 : w5.cell? ⟨w1.heap.size, 2, none⟩ = some (.int .i64 (3 * k + 2)) := Be.cell 2
      go_wp2_with fail
      with_reducible refine (chPushL_c (by repeat (first | exact H5 | with_reducible apply zha | with_reducible apply zhd | with_reducible apply zhn)) hbg hbb (by repeat (first | exact Bg | with_reducible apply zba)) (by repeat (first | exact Bb | with_reducible apply zba)) (by omega) (by omega) hk0 hk1 e6.out).mono ?_
      rintro _ w6 ⟨rfl, H6, K6⟩
      replace Bg := Blk.stays (by repeat (first | exact Bg | with_reducible apply zba | with_reducible apply zbd)) K6 (GA.foot_far hbg)
      clear Bg0
      have Bg0 : w6.cell? ⟨bg, 0, none⟩ = some (.pointer (some ⟨A.g, 0, none⟩)) := Bg.cell 0
      replace Bb := Blk.stays (by repeat (first | exact Bb | with_reducible apply zba | with_reducible apply zbd)) K6 (GA.foot_far hbb)
      clear Bb0
      have Bb0 : w6.cell? ⟨bb, 0, none⟩ = some (.int .i64 b) := Bb.cell 0
      replace Be := Blk.stays (by repeat (first | exact Be | with_reducible apply zba | with_reducible apply zbd)) K6 (GA.foot_far H1.top)
      clear Be0 Be1 Be2
      have Be0 : w6.cell? ⟨w1.heap.size, 0, none⟩ = some (.int .i64 (3 * k)) := Be.cell 0
      have Be1 : w6.cell? ⟨w1.heap.size, 1, none⟩ = some (.int .i64 (3 * k + 1)) := Be.cell 1
      have Be2 : w6.cell? ⟨w1.heap.size, 2, none⟩ = some (.int .i64 (3 * k + 2)) := Be.cell 2
      go_wp2_with fail
      with_reducible refine (SetReg_c (by repeat (first | exact H6 | with_reducible apply zha | with_reducible apply zhd | with_reducible apply zhn)) e7.out).mono ?_
      rintro _ w7 ⟨rfl, H7, K7⟩
      replace Bg := Blk.stays (by repeat (first | exact Bg | with_reducible apply zba | with_reducible apply zbd)) K7 (GA.foot_far hbg)
      clear Bg0
      have Bg0 : w7.cell? ⟨bg, 0, none⟩ = some (.pointer (some ⟨A.g, 0, none⟩)) := Bg.cell 0
      replace Bb := Blk.stays (by repeat (first | exact Bb | with_reducible apply zba | with_reducible apply zbd)) K7 (GA.foot_far hbb)
      clear Bb0
      have Bb0 : w7.cell? ⟨bb, 0, none⟩ = some (.int .i64 b) := Bb.cell 0
      replace Be := Blk.stays (by repeat (first | exact Be | with_reducible apply zba | with_reducible apply zbd)) K7 (GA.foot_far H1.top)
      clear Be0 Be1 Be2
      have Be0 : w7.cell? ⟨w1.heap.size, 0, none⟩ = some (.int .i64 (3 * k)) := Be.cell 0
      have Be1 : w7.cell? ⟨w1.heap.size, 1, none⟩ = some (.int .i64 (3 * k + 1)) := Be.cell 1
      have Be2 : w7.cell? ⟨w1.heap.size, 2, none⟩ = some (.int .i64 (3 * k + 2)) := Be.cell 2
      go_wp2_with fail
      go_ret
      exact ⟨by first | rfl | (simp; done) | (simp [*]; done), (by repeat (first | exact H7 | with_reducible apply zha | with_reducible apply zhd | with_reducible apply zhn)), by
        with_reducible repeat (first | apply zsa | apply zsd)
        refine Stays.trans ?_ K7
        with_reducible repeat (first | apply zsa | apply zsd)
        refine Stays.trans ?_ K6
        with_reducible repeat (first | apply zsa | apply zsd)
        refine Stays.trans ?_ K5
        with_reducible repeat (first | apply zsa | apply zsd)
        refine Stays.trans ?_ K3
        with_reducible repeat (first | apply zsa | apply zsd)
        refine Stays.trans ?_ K1
        with_reducible repeat (first | apply zsa | apply zsd)
        exact Stays.refl _ _⟩

theorem chAdd_o {A : GA} {S : GS} {w : World} (H : Held A S w) {k : Int} {b : Int} {v0 : Bool} (hk0 : 0 ≤ k) (hk1 : k ≤ 1) {T : GS} (e : chAdd k b S = (v0, T)) :
    Calls Tryz.prog 112 #[.pointer (some ⟨A.g, 0, none⟩), .int .i64 k, .int .i64 b] w (Did A w (.bool v0) T) := by
  have hmf : ∀ (fn : Fn) (first cap : Array Value) (w : World), (Instr.makeFunc fn first cap).run Tryz.prog w = .ok (.func fn first cap) w := fun _ _ _ _ => rfl
  go_enter Tryz.func112, Tryz.ntmps112
  go_wp2_with fail
  refine (chAdd_c (bg := w.heap.size) (bb := w.heap.size + 1) ((H.alloc _).alloc _) H.top (Nat.le_trans H.top (Nat.le_add_right _ 1)) ((Blk.new w _ _).alloc _) (by simpa using Blk.new (w.alloc _) _ _) hk0 hk1 e).mono ?_
  rintro _ w1 ⟨rfl, H1, K1⟩
  go_wp2_with fail
  go_ret
  exact ⟨rfl, H1, (((Stays.refl _ _).alloc _).alloc _).trans K1⟩

theorem chPush_o {A : GA} {S : GS} {w : World} (H : Held A S w) {k : Int} {b : Int} {v0 : Bool} (hk0 : 0 ≤ k) (hk1 : k ≤ 1) {T : GS} (e : chPush k b S = (v0, T)) :
    Calls Tryz.prog 252 #[.pointer (some ⟨A.g, 0, none⟩), .int .i64 k, .int .i64 b] w (Did A w (.bool v0) T) := by
  have hmf : ∀ (fn : Fn) (first cap : Array Value) (w : World), (Instr.makeFunc fn first cap).run Tryz.prog w = .ok (.func fn first cap) w := fun _ _ _ _ => rfl
  go_enter Tryz.func252, Tryz.ntmps252
  go_wp2_with fail
  refine (chPush_c (bg := w.heap.size) (bb := w.heap.size + 1) ((H.alloc _).alloc _) H.top (Nat.le_trans H.top (Nat.le_add_right _ 1)) ((Blk.new w _ _).alloc _) (by simpa using Blk.new (w.alloc _) _ _) hk0 hk1 e).mono ?_
  rintro _ w1 ⟨rfl, H1, K1⟩
  go_wp2_with fail
  go_ret
  exact ⟨rfl, H1, (((Stays.refl _ _).alloc _).alloc _).trans K1⟩
end Go.Proofs.YtadhdjldcpkfiaaGreatDoor
