/- What the calls of obj, count and tint do. Nothing is asked but that the ground lies there. -/
import Derived.Test.YtadhdjldcpkfiaaGreatDoorT2
namespace Go.Proofs.YtadhdjldcpkfiaaGreatDoor
set_option linter.unusedVariables false
set_option linter.unusedSimpArgs false
open Go.RowKit
set_option maxRecDepth 100000
set_option maxHeartbeats 800000
theorem tiKillC_c {A : GA} {S : GS} {w : World} (H : Held A S w) {r : Int} {v0 : Bool} {T : GS} (e : tiKillC r S = (v0, T)) :
    Calls Tryz.prog 164 #[.pointer (some ⟨A.g, 0, none⟩), .int .i64 r, .func (.func 183) #[] #[]] w (Did A w (.bool v0) T) := tiKill_ch H e

theorem fits_c {A : GA} {S T : GS} {w : World} (H : Held A S w) {n : Int} {b : Bool} (e : (pure (decide (0 ≤ n) && decide (n ≤ 4294967295)) : GM Bool) S = (b, T)) :
    Calls Tryz.prog 178 #[.int .i64 n] w (Did A w (.bool b) T) := by
  obtain ⟨rfl, rfl⟩ := GM.pure_eq e
  clear e
  by_cases c1 : 0 ≤ n
  · by_cases c2 : n ≤ 4294967295
    · have E := Hd.mk (show (decide (0 ≤ n) && decide (n ≤ 4294967295)) = true by simp [c1, c2])
      rw [E.out]
      clear E
      go_enter Tryz.func178, Tryz.ntmps178
      go_wp2_with fail
      go_ret
      exact ⟨rfl, H, Stays.refl _ _⟩
    · have E := Hd.mk (show (decide (0 ≤ n) && decide (n ≤ 4294967295)) = false by simp [c2])
      rw [E.out]
      clear E
      go_enter Tryz.func178, Tryz.ntmps178
      go_wp2_with fail
      go_ret
      exact ⟨rfl, H, Stays.refl _ _⟩
  · have E := Hd.mk (show (decide (0 ≤ n) && decide (n ≤ 4294967295)) = false by simp [c1])
    rw [E.out]
    clear E
    go_enter Tryz.func178, Tryz.ntmps178
    go_wp2_with fail
    go_ret
    exact ⟨rfl, H, Stays.refl _ _⟩

def tiKill (r : Int) : GM Bool :=
  tiDead r >>= fun d =>
  if d then
    pure false
  else
    tiKillC r >>= fun k =>
    pure k

theorem tiKill_c {A : GA} {S : GS} {w : World} (H : Held A S w) {r : Int} {v0 : Bool} {T : GS} (e : tiKill r S = (v0, T)) :
    Calls Tryz.prog 108 #[.pointer (some ⟨A.g, 0, none⟩), .int .i64 r] w (Did A w (.bool v0) T) := by
  unfold tiKill at e
  replace e := GM.bind_eq e; obtain ⟨d, S1, e1_, e⟩ := e; have e1 := Hd.mk e1_; clear e1_
  by_cases c2 : d = true
  · rw [if_pos c2] at e; subst c2
    obtain ⟨hv, rfl⟩ := GM.pure_eq e
    obtain rfl := hv
    go_enter Tryz.func108, Tryz.ntmps108
    go_wp2_with fail
    with_reducible refine (tiDead_c (by with_reducible repeat (first | exact H | apply zha | apply zhd | apply zhn)) e1.out).mono ?_
    rintro _ w1 ⟨rfl, H1, K1⟩
    go_wp2_with fail
    go_ret
    exact ⟨by first | rfl | (simp; done) | (simp [*]; done), (by with_reducible repeat (first | exact H1 | apply zha | apply zhd | apply zhn)), by
      with_reducible repeat (first | apply zsa | apply zsd | apply zsn)
      refine Stays.trans ?_ K1
      with_reducible repeat (first | apply zsa | apply zsd | apply zsn)
      exact Stays.refl _ _⟩
  · rw [if_neg c2] at e; obtain rfl := eq_false_of_ne_true c2; clear c2
    replace e := GM.bind_eq e; obtain ⟨k, S3, e3_, e⟩ := e; have e3 := Hd.mk e3_; clear e3_
    obtain ⟨hv, rfl⟩ := GM.pure_eq e
    obtain rfl := hv
    go_enter Tryz.func108, Tryz.ntmps108
    go_wp2_with fail
    with_reducible refine (tiDead_c (by with_reducible repeat (first | exact H | apply zha | apply zhd | apply zhn)) e1.out).mono ?_
    rintro _ w1 ⟨rfl, H1, K1⟩
    go_wp2_with fail
    with_reducible refine (tiKillC_c (by with_reducible repeat (first | exact H1 | apply zha | apply zhd | apply zhn)) e3.out).mono ?_
    rintro _ w3 ⟨rfl, H3, K3⟩
    go_wp2_with fail
    go_ret
    exact ⟨by first | rfl | (simp; done) | (simp [*]; done), (by with_reducible repeat (first | exact H3 | apply zha | apply zhd | apply zhn)), by
      with_reducible repeat (first | apply zsa | apply zsd | apply zsn)
      refine Stays.trans ?_ K3
      with_reducible repeat (first | apply zsa | apply zsd | apply zsn)
      refine Stays.trans ?_ K1
      with_reducible repeat (first | apply zsa | apply zsd | apply zsn)
      exact Stays.refl _ _⟩

def tiTouch (r : Int) : GM Bool :=
  tiOf r >>= fun ⟨t, ok⟩ =>
  if ok then
    tiPhase >>= fun ph =>
    if ph = 0 then
      pure false
    else
      if t.dead = 1 then
        pure false
      else
        tiParity >>= fun now =>
        if t.color = now then
          pure false
        else
          tiPaint r >>= fun pt =>
          if pt then
            rgAdd (r - 1) >>= fun _ =>
            pure true
          else
            pure false
  else
    pure false

set_option maxHeartbeats 6400000 in
theorem tiTouch_c {A : GA} {S : GS} {w : World} (H : Held A S w) {r : Int} {v0 : Bool} {T : GS} (e : tiTouch r S = (v0, T)) :
    Calls Tryz.prog 93 #[.pointer (some ⟨A.g, 0, none⟩), .int .i64 r] w (Did A w (.bool v0) T) := by
  unfold tiTouch at e
  have hn2 := H.ok.n2
  replace e := GM.bind_eq e; obtain ⟨⟨t, ok⟩, S1, e1_, e⟩ := e; have e1 := Hd.mk e1_; clear e1_
  dsimp only at e
  by_cases c2 : ok = true
  · rw [if_pos c2] at e; subst c2
    obtain ⟨_, _, hr0, hr1⟩ := tiOf_used e1.out
    replace e := GM.bind_eq e; obtain ⟨ph, S3, e3_, e⟩ := e; have e3 := Hd.mk e3_; clear e3_
    by_cases c4 : ph = 0
    · rw [if_pos c4] at e; subst c4
      obtain ⟨hv, rfl⟩ := GM.pure_eq e
      obtain rfl := hv
      go_enter Tryz.func93, Tryz.ntmps93
      go_wp2_with fail
      with_reducible refine (tiOf_c (by with_reducible repeat (first | exact H | apply zha | apply zhd | apply zhn)) e1.out).mono ?_
      rintro _ w1 ⟨rfl, H1, K1⟩
      have Bt := Blk.new w1 149 #[.int .i64 t.kind, .int .i64 t.color, .int .i64 t.count, .int .i64 t.shade, .int .i64 t.dead, .int .i64 t.ring, .int .i64 t.owner]
      have Bt0 : (w1.alloc (Obj.cells #[.int .i64 t.kind, .int .i64 t.color, .int .i64 t.count, .int .i64 t.shade, .int .i64 t.dead, .int .i64 t.ring, .int .i64 t.owner] 149)).cell? ⟨w1.heap.size, 0, none⟩ = some (.int .i64 t.kind) := Bt.cell 0
      have Bt1 : (w1.alloc (Obj.cells #[.int .i64 t.kind, .int .i64 t.color, .int .i64 t.count, .int .i64 t.shade, .int .i64 t.dead, .int .i64 t.ring, .int .i64 t.owner] 149)).cell? ⟨w1.heap.size, 1, none⟩ = some (.int .i64 t.color) := Bt.cell 1
      have Bt2 : (w1.alloc (Obj.cells #[.int .i64 t.kind, .int .i64 t.color, .int .i64 t.count, .int .i64 t.shade, .int .i64 t.dead, .int .i64 t.ring, .int .i64 t.owner] 149)).cell? ⟨w1.heap.size, 2, none⟩ = some (.int .i64 t.count) := Bt.cell 2
      have Bt3 : (w1.alloc (Obj.cells #[.int .i64 t.kind, .int .i64 t.color, .int .i64 t.count, .int .i64 t.shade, .int .i64 t.dead, .int .i64 t.ring, .int .i64 t.owner] 149)).cell? ⟨w1.heap.size, 3, none⟩ = some (.int .i64 t.shade) := Bt.cell 3
      have Bt4 : (w1.alloc (Obj.cells #[.int .i64 t.kind, .int .i64 t.color, .int .i64 t.count, .int .i64 t.shade, .int .i64 t.dead, .int .i64 t.ring, .int .i64 t.owner] 149)).cell? ⟨w1.heap.size, 4, none⟩ = some (.int .i64 t.dead) := Bt.cell 4
      have Bt5 : (w1.alloc (Obj.cells #[.int .i64 t.kind, .int .i64 t.color, .int .i64 t.count, .int .i64 t.shade, .int .i64 t.dead, .int .i64 t.ring, .int .i64 t.owner] 149)).cell? ⟨w1.heap.size, 5, none⟩ = some (.int .i64 t.ring) := Bt.cell 5
      have Bt6 : (w1.alloc (Obj.cells #[.int .i64 t.kind, .int .i64 t.color, .int .i64 t.count, .int .i64 t.shade, .int .i64 t.dead, .int .i64 t.ring, .int .i64 t.owner] 149)).cell? ⟨w1.heap.size, 6, none⟩ = some (.int .i64 t.owner) := Bt.cell 6
      go_wp2_with fail
      first | go_region_with (first | (go_at_call 97; ((repeat (first | rw [IntWalk.i64_in _ (by omega)] | rw [IntWalk.u32_in _ (by omega)]))); (with_reducible refine (tiPhase_c (by with_reducible repeat (first | exact H1 | apply zha | apply zhd | apply zhn)) e3.out).mono ?_); (rintro _ w3 ⟨rfl, H3, K3⟩); (replace Bt := Blk.stays (by with_reducible repeat (first | exact Bt | apply zba | apply zbd | apply zbn)) K3 (GA.foot_far H1.top)); (clear Bt0 Bt1 Bt2 Bt3 Bt4 Bt5 Bt6); (have Bt0 : w3.cell? ⟨w1.heap.size, 0, none⟩ = some (.int .i64 t.kind) := Bt.cell 0); (have Bt1 : w3.cell? ⟨w1.heap.size, 1, none⟩ = some (.int .i64 t.color) := Bt.cell 1); (have Bt2 : w3.cell? ⟨w1.heap.size, 2, none⟩ = some (.int .i64 t.count) := Bt.cell 2); (have Bt3 : w3.cell? ⟨w1.heap.size, 3, none⟩ = some (.int .i64 t.shade) := Bt.cell 3); (have Bt4 : w3.cell? ⟨w1.heap.size, 4, none⟩ = some (.int .i64 t.dead) := Bt.cell 4); (have Bt5 : w3.cell? ⟨w1.heap.size, 5, none⟩ = some (.int .i64 t.ring) := Bt.cell 5); (have Bt6 : w3.cell? ⟨w1.heap.size, 6, none⟩ = some (.int .i64 t.owner) := Bt.cell 6))) | fail
      all_goals
        go_wp2_with fail
        go_ret
        exact ⟨by first | rfl | (simp; done) | (simp [*]; done), (by with_reducible repeat (first | exact H3 | apply zha | apply zhd | apply zhn)), by
          with_reducible repeat (first | apply zsa | apply zsd | apply zsn)
          refine Stays.trans ?_ K3
          with_reducible repeat (first | apply zsa | apply zsd | apply zsn)
          refine Stays.trans ?_ K1
          with_reducible repeat (first | apply zsa | apply zsd | apply zsn)
          exact Stays.refl _ _⟩
    · rw [if_neg c4] at e; have c4b : (ph == 0) = false := beq_eq_false_iff_ne.2 c4; have c4n : (ph != 0) = true := bne_iff_ne.2 c4
      by_cases c5 : t.dead = 1
      · rw [if_pos c5] at e; have c5b : (t.dead == 1) = true := beq_iff_eq.2 c5; have c5n : (t.dead != 1) = false := by rw [bne_eq_false_iff_eq]; exact c5
        clear c5
        obtain ⟨hv, rfl⟩ := GM.pure_eq e
        obtain rfl := hv
        go_enter Tryz.func93, Tryz.ntmps93
        go_wp2_with fail
        with_reducible refine (tiOf_c (by with_reducible repeat (first | exact H | apply zha | apply zhd | apply zhn)) e1.out).mono ?_
        rintro _ w1 ⟨rfl, H1, K1⟩
        have Bt := Blk.new w1 149 #[.int .i64 t.kind, .int .i64 t.color, .int .i64 t.count, .int .i64 t.shade, .int .i64 t.dead, .int .i64 t.ring, .int .i64 t.owner]
        have Bt0 : (w1.alloc (Obj.cells #[.int .i64 t.kind, .int .i64 t.color, .int .i64 t.count, .int .i64 t.shade, .int .i64 t.dead, .int .i64 t.ring, .int .i64 t.owner] 149)).cell? ⟨w1.heap.size, 0, none⟩ = some (.int .i64 t.kind) := Bt.cell 0
        have Bt1 : (w1.alloc (Obj.cells #[.int .i64 t.kind, .int .i64 t.color, .int .i64 t.count, .int .i64 t.shade, .int .i64 t.dead, .int .i64 t.ring, .int .i64 t.owner] 149)).cell? ⟨w1.heap.size, 1, none⟩ = some (.int .i64 t.color) := Bt.cell 1
        have Bt2 : (w1.alloc (Obj.cells #[.int .i64 t.kind, .int .i64 t.color, .int .i64 t.count, .int .i64 t.shade, .int .i64 t.dead, .int .i64 t.ring, .int .i64 t.owner] 149)).cell? ⟨w1.heap.size, 2, none⟩ = some (.int .i64 t.count) := Bt.cell 2
        have Bt3 : (w1.alloc (Obj.cells #[.int .i64 t.kind, .int .i64 t.color, .int .i64 t.count, .int .i64 t.shade, .int .i64 t.dead, .int .i64 t.ring, .int .i64 t.owner] 149)).cell? ⟨w1.heap.size, 3, none⟩ = some (.int .i64 t.shade) := Bt.cell 3
        have Bt4 : (w1.alloc (Obj.cells #[.int .i64 t.kind, .int .i64 t.color, .int .i64 t.count, .int .i64 t.shade, .int .i64 t.dead, .int .i64 t.ring, .int .i64 t.owner] 149)).cell? ⟨w1.heap.size, 4, none⟩ = some (.int .i64 t.dead) := Bt.cell 4
        have Bt5 : (w1.alloc (Obj.cells #[.int .i64 t.kind, .int .i64 t.color, .int .i64 t.count, .int .i64 t.shade, .int .i64 t.dead, .int .i64 t.ring, .int .i64 t.owner] 149)).cell? ⟨w1.heap.size, 5, none⟩ = some (.int .i64 t.ring) := Bt.cell 5
        have Bt6 : (w1.alloc (Obj.cells #[.int .i64 t.kind, .int .i64 t.color, .int .i64 t.count, .int .i64 t.shade, .int .i64 t.dead, .int .i64 t.ring, .int .i64 t.owner] 149)).cell? ⟨w1.heap.size, 6, none⟩ = some (.int .i64 t.owner) := Bt.cell 6
        go_wp2_with fail
        first | go_region_with (first | (go_at_call 97; ((repeat (first | rw [IntWalk.i64_in _ (by omega)] | rw [IntWalk.u32_in _ (by omega)]))); (with_reducible refine (tiPhase_c (by with_reducible repeat (first | exact H1 | apply zha | apply zhd | apply zhn)) e3.out).mono ?_); (rintro _ w3 ⟨rfl, H3, K3⟩); (replace Bt := Blk.stays (by with_reducible repeat (first | exact Bt | apply zba | apply zbd | apply zbn)) K3 (GA.foot_far H1.top)); (clear Bt0 Bt1 Bt2 Bt3 Bt4 Bt5 Bt6); (have Bt0 : w3.cell? ⟨w1.heap.size, 0, none⟩ = some (.int .i64 t.kind) := Bt.cell 0); (have Bt1 : w3.cell? ⟨w1.heap.size, 1, none⟩ = some (.int .i64 t.color) := Bt.cell 1); (have Bt2 : w3.cell? ⟨w1.heap.size, 2, none⟩ = some (.int .i64 t.count) := Bt.cell 2); (have Bt3 : w3.cell? ⟨w1.heap.size, 3, none⟩ = some (.int .i64 t.shade) := Bt.cell 3); (have Bt4 : w3.cell? ⟨w1.heap.size, 4, none⟩ = some (.int .i64 t.dead) := Bt.cell 4); (have Bt5 : w3.cell? ⟨w1.heap.size, 5, none⟩ = some (.int .i64 t.ring) := Bt.cell 5); (have Bt6 : w3.cell? ⟨w1.heap.size, 6, none⟩ = some (.int .i64 t.owner) := Bt.cell 6))) | fail
        all_goals
          go_wp2_with fail
          go_ret
          exact ⟨by first | rfl | (simp; done) | (simp [*]; done), (by with_reducible repeat (first | exact H3 | apply zha | apply zhd | apply zhn)), by
            with_reducible repeat (first | apply zsa | apply zsd | apply zsn)
            refine Stays.trans ?_ K3
            with_reducible repeat (first | apply zsa | apply zsd | apply zsn)
            refine Stays.trans ?_ K1
            with_reducible repeat (first | apply zsa | apply zsd | apply zsn)
            exact Stays.refl _ _⟩
      · rw [if_neg c5] at e; have c5b : (t.dead == 1) = false := beq_eq_false_iff_ne.2 c5; have c5n : (t.dead != 1) = true := bne_iff_ne.2 c5
        replace e := GM.bind_eq e; obtain ⟨now, S6, e6_, e⟩ := e; have e6 := Hd.mk e6_; clear e6_
        by_cases c7 : t.color = now
        · rw [if_pos c7] at e; have c7b : (t.color == now) = true := beq_iff_eq.2 c7; have c7n : (t.color != now) = false := by rw [bne_eq_false_iff_eq]; exact c7
          clear c7
          obtain ⟨hv, rfl⟩ := GM.pure_eq e
          obtain rfl := hv
          go_enter Tryz.func93, Tryz.ntmps93
          go_wp2_with fail
          with_reducible refine (tiOf_c (by with_reducible repeat (first | exact H | apply zha | apply zhd | apply zhn)) e1.out).mono ?_
          rintro _ w1 ⟨rfl, H1, K1⟩
          have Bt := Blk.new w1 149 #[.int .i64 t.kind, .int .i64 t.color, .int .i64 t.count, .int .i64 t.shade, .int .i64 t.dead, .int .i64 t.ring, .int .i64 t.owner]
          have Bt0 : (w1.alloc (Obj.cells #[.int .i64 t.kind, .int .i64 t.color, .int .i64 t.count, .int .i64 t.shade, .int .i64 t.dead, .int .i64 t.ring, .int .i64 t.owner] 149)).cell? ⟨w1.heap.size, 0, none⟩ = some (.int .i64 t.kind) := Bt.cell 0
          have Bt1 : (w1.alloc (Obj.cells #[.int .i64 t.kind, .int .i64 t.color, .int .i64 t.count, .int .i64 t.shade, .int .i64 t.dead, .int .i64 t.ring, .int .i64 t.owner] 149)).cell? ⟨w1.heap.size, 1, none⟩ = some (.int .i64 t.color) := Bt.cell 1
          have Bt2 : (w1.alloc (Obj.cells #[.int .i64 t.kind, .int .i64 t.color, .int .i64 t.count, .int .i64 t.shade, .int .i64 t.dead, .int .i64 t.ring, .int .i64 t.owner] 149)).cell? ⟨w1.heap.size, 2, none⟩ = some (.int .i64 t.count) := Bt.cell 2
          have Bt3 : (w1.alloc (Obj.cells #[.int .i64 t.kind, .int .i64 t.color, .int .i64 t.count, .int .i64 t.shade, .int .i64 t.dead, .int .i64 t.ring, .int .i64 t.owner] 149)).cell? ⟨w1.heap.size, 3, none⟩ = some (.int .i64 t.shade) := Bt.cell 3
          have Bt4 : (w1.alloc (Obj.cells #[.int .i64 t.kind, .int .i64 t.color, .int .i64 t.count, .int .i64 t.shade, .int .i64 t.dead, .int .i64 t.ring, .int .i64 t.owner] 149)).cell? ⟨w1.heap.size, 4, none⟩ = some (.int .i64 t.dead) := Bt.cell 4
          have Bt5 : (w1.alloc (Obj.cells #[.int .i64 t.kind, .int .i64 t.color, .int .i64 t.count, .int .i64 t.shade, .int .i64 t.dead, .int .i64 t.ring, .int .i64 t.owner] 149)).cell? ⟨w1.heap.size, 5, none⟩ = some (.int .i64 t.ring) := Bt.cell 5
          have Bt6 : (w1.alloc (Obj.cells #[.int .i64 t.kind, .int .i64 t.color, .int .i64 t.count, .int .i64 t.shade, .int .i64 t.dead, .int .i64 t.ring, .int .i64 t.owner] 149)).cell? ⟨w1.heap.size, 6, none⟩ = some (.int .i64 t.owner) := Bt.cell 6
          go_wp2_with fail
          first | go_region_with (first | (go_at_call 97; ((repeat (first | rw [IntWalk.i64_in _ (by omega)] | rw [IntWalk.u32_in _ (by omega)]))); (with_reducible refine (tiPhase_c (by with_reducible repeat (first | exact H1 | apply zha | apply zhd | apply zhn)) e3.out).mono ?_); (rintro _ w3 ⟨rfl, H3, K3⟩); (replace Bt := Blk.stays (by with_reducible repeat (first | exact Bt | apply zba | apply zbd | apply zbn)) K3 (GA.foot_far H1.top)); (clear Bt0 Bt1 Bt2 Bt3 Bt4 Bt5 Bt6); (have Bt0 : w3.cell? ⟨w1.heap.size, 0, none⟩ = some (.int .i64 t.kind) := Bt.cell 0); (have Bt1 : w3.cell? ⟨w1.heap.size, 1, none⟩ = some (.int .i64 t.color) := Bt.cell 1); (have Bt2 : w3.cell? ⟨w1.heap.size, 2, none⟩ = some (.int .i64 t.count) := Bt.cell 2); (have Bt3 : w3.cell? ⟨w1.heap.size, 3, none⟩ = some (.int .i64 t.shade) := Bt.cell 3); (have Bt4 : w3.cell? ⟨w1.heap.size, 4, none⟩ = some (.int .i64 t.dead) := Bt.cell 4); (have Bt5 : w3.cell? ⟨w1.heap.size, 5, none⟩ = some (.int .i64 t.ring) := Bt.cell 5); (have Bt6 : w3.cell? ⟨w1.heap.size, 6, none⟩ = some (.int .i64 t.owner) := Bt.cell 6)) | (go_at_call 170; ((repeat (first | rw [IntWalk.i64_in _ (by omega)] | rw [IntWalk.u32_in _ (by omega)]))); (with_reducible refine (tiParity_c (by with_reducible repeat (first | exact H3 | apply zha | apply zhd | apply zhn)) e6.out).mono ?_); (rintro _ w6 ⟨rfl, H6, K6⟩); (replace Bt := Blk.stays (by with_reducible repeat (first | exact Bt | apply zba | apply zbd | apply zbn)) K6 (GA.foot_far H1.top)); (clear Bt0 Bt1 Bt2 Bt3 Bt4 Bt5 Bt6); (have Bt0 : w6.cell? ⟨w1.heap.size, 0, none⟩ = some (.int .i64 t.kind) := Bt.cell 0); (have Bt1 : w6.cell? ⟨w1.heap.size, 1, none⟩ = some (.int .i64 t.color) := Bt.cell 1); (have Bt2 : w6.cell? ⟨w1.heap.size, 2, none⟩ = some (.int .i64 t.count) := Bt.cell 2); (have Bt3 : w6.cell? ⟨w1.heap.size, 3, none⟩ = some (.int .i64 t.shade) := Bt.cell 3); (have Bt4 : w6.cell? ⟨w1.heap.size, 4, none⟩ = some (.int .i64 t.dead) := Bt.cell 4); (have Bt5 : w6.cell? ⟨w1.heap.size, 5, none⟩ = some (.int .i64 t.ring) := Bt.cell 5); (have Bt6 : w6.cell? ⟨w1.heap.size, 6, none⟩ = some (.int .i64 t.owner) := Bt.cell 6))) | fail
          all_goals
            go_wp2_with fail
            go_ret
            exact ⟨by first | rfl | (simp; done) | (simp [*]; done), (by with_reducible repeat (first | exact H6 | apply zha | apply zhd | apply zhn)), by
              with_reducible repeat (first | apply zsa | apply zsd | apply zsn)
              refine Stays.trans ?_ K6
              with_reducible repeat (first | apply zsa | apply zsd | apply zsn)
              refine Stays.trans ?_ K3
              with_reducible repeat (first | apply zsa | apply zsd | apply zsn)
              refine Stays.trans ?_ K1
              with_reducible repeat (first | apply zsa | apply zsd | apply zsn)
              exact Stays.refl _ _⟩
        · rw [if_neg c7] at e; have c7b : (t.color == now) = false := beq_eq_false_iff_ne.2 c7; have c7n : (t.color != now) = true := bne_iff_ne.2 c7
          replace e := GM.bind_eq e; obtain ⟨pt, S8, e8_, e⟩ := e; have e8 := Hd.mk e8_; clear e8_
          by_cases c9 : pt = true
          · rw [if_pos c9] at e; subst c9
            replace e := GM.bind_eq e; obtain ⟨u10, S10, e10_, e⟩ := e; have e10 := Hd.mk e10_; clear e10_
            obtain ⟨hv, rfl⟩ := GM.pure_eq e
            obtain rfl := hv
            go_enter Tryz.func93, Tryz.ntmps93
            go_wp2_with fail
            with_reducible refine (tiOf_c (by with_reducible repeat (first | exact H | apply zha | apply zhd | apply zhn)) e1.out).mono ?_
            rintro _ w1 ⟨rfl, H1, K1⟩
            have Bt := Blk.new w1 149 #[.int .i64 t.kind, .int .i64 t.color, .int .i64 t.count, .int .i64 t.shade, .int .i64 t.dead, .int .i64 t.ring, .int .i64 t.owner]
            have Bt0 : (w1.alloc (Obj.cells #[.int .i64 t.kind, .int .i64 t.color, .int .i64 t.count, .int .i64 t.shade, .int .i64 t.dead, .int .i64 t.ring, .int .i64 t.owner] 149)).cell? ⟨w1.heap.size, 0, none⟩ = some (.int .i64 t.kind) := Bt.cell 0
            have Bt1 : (w1.alloc (Obj.cells #[.int .i64 t.kind, .int .i64 t.color, .int .i64 t.count, .int .i64 t.shade, .int .i64 t.dead, .int .i64 t.ring, .int .i64 t.owner] 149)).cell? ⟨w1.heap.size, 1, none⟩ = some (.int .i64 t.color) := Bt.cell 1
            have Bt2 : (w1.alloc (Obj.cells #[.int .i64 t.kind, .int .i64 t.color, .int .i64 t.count, .int .i64 t.shade, .int .i64 t.dead, .int .i64 t.ring, .int .i64 t.owner] 149)).cell? ⟨w1.heap.size, 2, none⟩ = some (.int .i64 t.count) := Bt.cell 2
            have Bt3 : (w1.alloc (Obj.cells #[.int .i64 t.kind, .int .i64 t.color, .int .i64 t.count, .int .i64 t.shade, .int .i64 t.dead, .int .i64 t.ring, .int .i64 t.owner] 149)).cell? ⟨w1.heap.size, 3, none⟩ = some (.int .i64 t.shade) := Bt.cell 3
            have Bt4 : (w1.alloc (Obj.cells #[.int .i64 t.kind, .int .i64 t.color, .int .i64 t.count, .int .i64 t.shade, .int .i64 t.dead, .int .i64 t.ring, .int .i64 t.owner] 149)).cell? ⟨w1.heap.size, 4, none⟩ = some (.int .i64 t.dead) := Bt.cell 4
            have Bt5 : (w1.alloc (Obj.cells #[.int .i64 t.kind, .int .i64 t.color, .int .i64 t.count, .int .i64 t.shade, .int .i64 t.dead, .int .i64 t.ring, .int .i64 t.owner] 149)).cell? ⟨w1.heap.size, 5, none⟩ = some (.int .i64 t.ring) := Bt.cell 5
            have Bt6 : (w1.alloc (Obj.cells #[.int .i64 t.kind, .int .i64 t.color, .int .i64 t.count, .int .i64 t.shade, .int .i64 t.dead, .int .i64 t.ring, .int .i64 t.owner] 149)).cell? ⟨w1.heap.size, 6, none⟩ = some (.int .i64 t.owner) := Bt.cell 6
            go_wp2_with fail
            go_region_held3 (fun wx => wx.cell? ⟨w1.heap.size, 0, none⟩ = some (.int .i64 t.kind) ∧ wx.cell? ⟨w1.heap.size, 1, none⟩ = some (.int .i64 t.color) ∧ wx.cell? ⟨w1.heap.size, 2, none⟩ = some (.int .i64 t.count) ∧ wx.cell? ⟨w1.heap.size, 3, none⟩ = some (.int .i64 t.shade) ∧ wx.cell? ⟨w1.heap.size, 4, none⟩ = some (.int .i64 t.dead) ∧ wx.cell? ⟨w1.heap.size, 5, none⟩ = some (.int .i64 t.ring) ∧ wx.cell? ⟨w1.heap.size, 6, none⟩ = some (.int .i64 t.owner))
              (first | exact ⟨Bt0, Bt1, Bt2, Bt3, Bt4, Bt5, Bt6⟩ | go_keep)
              (first | (go_at_call 97; ((repeat (first | rw [IntWalk.i64_in _ (by omega)] | rw [IntWalk.u32_in _ (by omega)]))); (with_reducible refine (tiPhase_c (by with_reducible repeat (first | exact H1 | apply zha | apply zhd | apply zhn)) e3.out).mono ?_); (rintro _ w3 ⟨rfl, H3, K3⟩); (replace Bt := Blk.stays (by with_reducible repeat (first | exact Bt | apply zba | apply zbd | apply zbn)) K3 (GA.foot_far H1.top)); (clear Bt0 Bt1 Bt2 Bt3 Bt4 Bt5 Bt6); (have Bt0 : w3.cell? ⟨w1.heap.size, 0, none⟩ = some (.int .i64 t.kind) := Bt.cell 0); (have Bt1 : w3.cell? ⟨w1.heap.size, 1, none⟩ = some (.int .i64 t.color) := Bt.cell 1); (have Bt2 : w3.cell? ⟨w1.heap.size, 2, none⟩ = some (.int .i64 t.count) := Bt.cell 2); (have Bt3 : w3.cell? ⟨w1.heap.size, 3, none⟩ = some (.int .i64 t.shade) := Bt.cell 3); (have Bt4 : w3.cell? ⟨w1.heap.size, 4, none⟩ = some (.int .i64 t.dead) := Bt.cell 4); (have Bt5 : w3.cell? ⟨w1.heap.size, 5, none⟩ = some (.int .i64 t.ring) := Bt.cell 5); (have Bt6 : w3.cell? ⟨w1.heap.size, 6, none⟩ = some (.int .i64 t.owner) := Bt.cell 6)) | (go_at_call 170; ((repeat (first | rw [IntWalk.i64_in _ (by omega)] | rw [IntWalk.u32_in _ (by omega)]))); (with_reducible refine (tiParity_c (by with_reducible repeat (first | exact H3 | apply zha | apply zhd | apply zhn)) e6.out).mono ?_); (rintro _ w6 ⟨rfl, H6, K6⟩); (replace Bt := Blk.stays (by with_reducible repeat (first | exact Bt | apply zba | apply zbd | apply zbn)) K6 (GA.foot_far H1.top)); (clear Bt0 Bt1 Bt2 Bt3 Bt4 Bt5 Bt6); (have Bt0 : w6.cell? ⟨w1.heap.size, 0, none⟩ = some (.int .i64 t.kind) := Bt.cell 0); (have Bt1 : w6.cell? ⟨w1.heap.size, 1, none⟩ = some (.int .i64 t.color) := Bt.cell 1); (have Bt2 : w6.cell? ⟨w1.heap.size, 2, none⟩ = some (.int .i64 t.count) := Bt.cell 2); (have Bt3 : w6.cell? ⟨w1.heap.size, 3, none⟩ = some (.int .i64 t.shade) := Bt.cell 3); (have Bt4 : w6.cell? ⟨w1.heap.size, 4, none⟩ = some (.int .i64 t.dead) := Bt.cell 4); (have Bt5 : w6.cell? ⟨w1.heap.size, 5, none⟩ = some (.int .i64 t.ring) := Bt.cell 5); (have Bt6 : w6.cell? ⟨w1.heap.size, 6, none⟩ = some (.int .i64 t.owner) := Bt.cell 6)) | (go_at_call 123; ((repeat (first | rw [IntWalk.i64_in _ (by omega)] | rw [IntWalk.u32_in _ (by omega)]))); (with_reducible refine (tiPaint_c (by with_reducible repeat (first | exact H6 | apply zha | apply zhd | apply zhn)) e8.out).mono ?_); (rintro _ w8 ⟨rfl, H8, K8⟩); (replace Bt := Blk.stays (by with_reducible repeat (first | exact Bt | apply zba | apply zbd | apply zbn)) K8 (GA.foot_far H1.top)); (clear Bt0 Bt1 Bt2 Bt3 Bt4 Bt5 Bt6); (have Bt0 : w8.cell? ⟨w1.heap.size, 0, none⟩ = some (.int .i64 t.kind) := Bt.cell 0); (have Bt1 : w8.cell? ⟨w1.heap.size, 1, none⟩ = some (.int .i64 t.color) := Bt.cell 1); (have Bt2 : w8.cell? ⟨w1.heap.size, 2, none⟩ = some (.int .i64 t.count) := Bt.cell 2); (have Bt3 : w8.cell? ⟨w1.heap.size, 3, none⟩ = some (.int .i64 t.shade) := Bt.cell 3); (have Bt4 : w8.cell? ⟨w1.heap.size, 4, none⟩ = some (.int .i64 t.dead) := Bt.cell 4); (have Bt5 : w8.cell? ⟨w1.heap.size, 5, none⟩ = some (.int .i64 t.ring) := Bt.cell 5); (have Bt6 : w8.cell? ⟨w1.heap.size, 6, none⟩ = some (.int .i64 t.owner) := Bt.cell 6)))
            go_wp2_with fail
            with_reducible refine (rgAdd_c (by with_reducible repeat (first | exact H8 | apply zha | apply zhd | apply zhn)) e10.out).mono ?_
            rintro _ w10 ⟨rfl, H10, K10⟩
            replace Bt := Blk.stays (by with_reducible repeat (first | exact Bt | apply zba | apply zbd | apply zbn)) K10 (GA.foot_far H1.top)
            clear Bt0 Bt1 Bt2 Bt3 Bt4 Bt5 Bt6
            have Bt0 : w10.cell? ⟨w1.heap.size, 0, none⟩ = some (.int .i64 t.kind) := Bt.cell 0
            have Bt1 : w10.cell? ⟨w1.heap.size, 1, none⟩ = some (.int .i64 t.color) := Bt.cell 1
            have Bt2 : w10.cell? ⟨w1.heap.size, 2, none⟩ = some (.int .i64 t.count) := Bt.cell 2
            have Bt3 : w10.cell? ⟨w1.heap.size, 3, none⟩ = some (.int .i64 t.shade) := Bt.cell 3
            have Bt4 : w10.cell? ⟨w1.heap.size, 4, none⟩ = some (.int .i64 t.dead) := Bt.cell 4
            have Bt5 : w10.cell? ⟨w1.heap.size, 5, none⟩ = some (.int .i64 t.ring) := Bt.cell 5
            have Bt6 : w10.cell? ⟨w1.heap.size, 6, none⟩ = some (.int .i64 t.owner) := Bt.cell 6
            go_wp2_with fail
            go_ret
            exact ⟨by first | rfl | (simp; done) | (simp [*]; done), (by with_reducible repeat (first | exact H10 | apply zha | apply zhd | apply zhn)), by
              with_reducible repeat (first | apply zsa | apply zsd | apply zsn)
              refine Stays.trans ?_ K10
              with_reducible repeat (first | apply zsa | apply zsd | apply zsn)
              refine Stays.trans ?_ K8
              with_reducible repeat (first | apply zsa | apply zsd | apply zsn)
              refine Stays.trans ?_ K6
              with_reducible repeat (first | apply zsa | apply zsd | apply zsn)
              refine Stays.trans ?_ K3
              with_reducible repeat (first | apply zsa | apply zsd | apply zsn)
              refine Stays.trans ?_ K1
              with_reducible repeat (first | apply zsa | apply zsd | apply zsn)
              exact Stays.refl _ _⟩
          · rw [if_neg c9] at e; obtain rfl := eq_false_of_ne_true c9; clear c9
            obtain ⟨hv, rfl⟩ := GM.pure_eq e
            obtain rfl := hv
            go_enter Tryz.func93, Tryz.ntmps93
            go_wp2_with fail
            with_reducible refine (tiOf_c (by with_reducible repeat (first | exact H | apply zha | apply zhd | apply zhn)) e1.out).mono ?_
            rintro _ w1 ⟨rfl, H1, K1⟩
            have Bt := Blk.new w1 149 #[.int .i64 t.kind, .int .i64 t.color, .int .i64 t.count, .int .i64 t.shade, .int .i64 t.dead, .int .i64 t.ring, .int .i64 t.owner]
            have Bt0 : (w1.alloc (Obj.cells #[.int .i64 t.kind, .int .i64 t.color, .int .i64 t.count, .int .i64 t.shade, .int .i64 t.dead, .int .i64 t.ring, .int .i64 t.owner] 149)).cell? ⟨w1.heap.size, 0, none⟩ = some (.int .i64 t.kind) := Bt.cell 0
            have Bt1 : (w1.alloc (Obj.cells #[.int .i64 t.kind, .int .i64 t.color, .int .i64 t.count, .int .i64 t.shade, .int .i64 t.dead, .int .i64 t.ring, .int .i64 t.owner] 149)).cell? ⟨w1.heap.size, 1, none⟩ = some (.int .i64 t.color) := Bt.cell 1
            have Bt2 : (w1.alloc (Obj.cells #[.int .i64 t.kind, .int .i64 t.color, .int .i64 t.count, .int .i64 t.shade, .int .i64 t.dead, .int .i64 t.ring, .int .i64 t.owner] 149)).cell? ⟨w1.heap.size, 2, none⟩ = some (.int .i64 t.count) := Bt.cell 2
            have Bt3 : (w1.alloc (Obj.cells #[.int .i64 t.kind, .int .i64 t.color, .int .i64 t.count, .int .i64 t.shade, .int .i64 t.dead, .int .i64 t.ring, .int .i64 t.owner] 149)).cell? ⟨w1.heap.size, 3, none⟩ = some (.int .i64 t.shade) := Bt.cell 3
            have Bt4 : (w1.alloc (Obj.cells #[.int .i64 t.kind, .int .i64 t.color, .int .i64 t.count, .int .i64 t.shade, .int .i64 t.dead, .int .i64 t.ring, .int .i64 t.owner] 149)).cell? ⟨w1.heap.size, 4, none⟩ = some (.int .i64 t.dead) := Bt.cell 4
            have Bt5 : (w1.alloc (Obj.cells #[.int .i64 t.kind, .int .i64 t.color, .int .i64 t.count, .int .i64 t.shade, .int .i64 t.dead, .int .i64 t.ring, .int .i64 t.owner] 149)).cell? ⟨w1.heap.size, 5, none⟩ = some (.int .i64 t.ring) := Bt.cell 5
            have Bt6 : (w1.alloc (Obj.cells #[.int .i64 t.kind, .int .i64 t.color, .int .i64 t.count, .int .i64 t.shade, .int .i64 t.dead, .int .i64 t.ring, .int .i64 t.owner] 149)).cell? ⟨w1.heap.size, 6, none⟩ = some (.int .i64 t.owner) := Bt.cell 6
            go_wp2_with fail
            go_region_held3 (fun wx => wx.cell? ⟨w1.heap.size, 0, none⟩ = some (.int .i64 t.kind) ∧ wx.cell? ⟨w1.heap.size, 1, none⟩ = some (.int .i64 t.color) ∧ wx.cell? ⟨w1.heap.size, 2, none⟩ = some (.int .i64 t.count) ∧ wx.cell? ⟨w1.heap.size, 3, none⟩ = some (.int .i64 t.shade) ∧ wx.cell? ⟨w1.heap.size, 4, none⟩ = some (.int .i64 t.dead) ∧ wx.cell? ⟨w1.heap.size, 5, none⟩ = some (.int .i64 t.ring) ∧ wx.cell? ⟨w1.heap.size, 6, none⟩ = some (.int .i64 t.owner))
              (first | exact ⟨Bt0, Bt1, Bt2, Bt3, Bt4, Bt5, Bt6⟩ | go_keep)
              (first | (go_at_call 97; ((repeat (first | rw [IntWalk.i64_in _ (by omega)] | rw [IntWalk.u32_in _ (by omega)]))); (with_reducible refine (tiPhase_c (by with_reducible repeat (first | exact H1 | apply zha | apply zhd | apply zhn)) e3.out).mono ?_); (rintro _ w3 ⟨rfl, H3, K3⟩); (replace Bt := Blk.stays (by with_reducible repeat (first | exact Bt | apply zba | apply zbd | apply zbn)) K3 (GA.foot_far H1.top)); (clear Bt0 Bt1 Bt2 Bt3 Bt4 Bt5 Bt6); (have Bt0 : w3.cell? ⟨w1.heap.size, 0, none⟩ = some (.int .i64 t.kind) := Bt.cell 0); (have Bt1 : w3.cell? ⟨w1.heap.size, 1, none⟩ = some (.int .i64 t.color) := Bt.cell 1); (have Bt2 : w3.cell? ⟨w1.heap.size, 2, none⟩ = some (.int .i64 t.count) := Bt.cell 2); (have Bt3 : w3.cell? ⟨w1.heap.size, 3, none⟩ = some (.int .i64 t.shade) := Bt.cell 3); (have Bt4 : w3.cell? ⟨w1.heap.size, 4, none⟩ = some (.int .i64 t.dead) := Bt.cell 4); (have Bt5 : w3.cell? ⟨w1.heap.size, 5, none⟩ = some (.int .i64 t.ring) := Bt.cell 5); (have Bt6 : w3.cell? ⟨w1.heap.size, 6, none⟩ = some (.int .i64 t.owner) := Bt.cell 6)) | (go_at_call 170; ((repeat (first | rw [IntWalk.i64_in _ (by omega)] | rw [IntWalk.u32_in _ (by omega)]))); (with_reducible refine (tiParity_c (by with_reducible repeat (first | exact H3 | apply zha | apply zhd | apply zhn)) e6.out).mono ?_); (rintro _ w6 ⟨rfl, H6, K6⟩); (replace Bt := Blk.stays (by with_reducible repeat (first | exact Bt | apply zba | apply zbd | apply zbn)) K6 (GA.foot_far H1.top)); (clear Bt0 Bt1 Bt2 Bt3 Bt4 Bt5 Bt6); (have Bt0 : w6.cell? ⟨w1.heap.size, 0, none⟩ = some (.int .i64 t.kind) := Bt.cell 0); (have Bt1 : w6.cell? ⟨w1.heap.size, 1, none⟩ = some (.int .i64 t.color) := Bt.cell 1); (have Bt2 : w6.cell? ⟨w1.heap.size, 2, none⟩ = some (.int .i64 t.count) := Bt.cell 2); (have Bt3 : w6.cell? ⟨w1.heap.size, 3, none⟩ = some (.int .i64 t.shade) := Bt.cell 3); (have Bt4 : w6.cell? ⟨w1.heap.size, 4, none⟩ = some (.int .i64 t.dead) := Bt.cell 4); (have Bt5 : w6.cell? ⟨w1.heap.size, 5, none⟩ = some (.int .i64 t.ring) := Bt.cell 5); (have Bt6 : w6.cell? ⟨w1.heap.size, 6, none⟩ = some (.int .i64 t.owner) := Bt.cell 6)) | (go_at_call 123; ((repeat (first | rw [IntWalk.i64_in _ (by omega)] | rw [IntWalk.u32_in _ (by omega)]))); (with_reducible refine (tiPaint_c (by with_reducible repeat (first | exact H6 | apply zha | apply zhd | apply zhn)) e8.out).mono ?_); (rintro _ w8 ⟨rfl, H8, K8⟩); (replace Bt := Blk.stays (by with_reducible repeat (first | exact Bt | apply zba | apply zbd | apply zbn)) K8 (GA.foot_far H1.top)); (clear Bt0 Bt1 Bt2 Bt3 Bt4 Bt5 Bt6); (have Bt0 : w8.cell? ⟨w1.heap.size, 0, none⟩ = some (.int .i64 t.kind) := Bt.cell 0); (have Bt1 : w8.cell? ⟨w1.heap.size, 1, none⟩ = some (.int .i64 t.color) := Bt.cell 1); (have Bt2 : w8.cell? ⟨w1.heap.size, 2, none⟩ = some (.int .i64 t.count) := Bt.cell 2); (have Bt3 : w8.cell? ⟨w1.heap.size, 3, none⟩ = some (.int .i64 t.shade) := Bt.cell 3); (have Bt4 : w8.cell? ⟨w1.heap.size, 4, none⟩ = some (.int .i64 t.dead) := Bt.cell 4); (have Bt5 : w8.cell? ⟨w1.heap.size, 5, none⟩ = some (.int .i64 t.ring) := Bt.cell 5); (have Bt6 : w8.cell? ⟨w1.heap.size, 6, none⟩ = some (.int .i64 t.owner) := Bt.cell 6)))
            go_wp2_with fail
            go_ret
            exact ⟨by first | rfl | (simp; done) | (simp [*]; done), (by with_reducible repeat (first | exact H8 | apply zha | apply zhd | apply zhn)), by
              with_reducible repeat (first | apply zsa | apply zsd | apply zsn)
              refine Stays.trans ?_ K8
              with_reducible repeat (first | apply zsa | apply zsd | apply zsn)
              refine Stays.trans ?_ K6
              with_reducible repeat (first | apply zsa | apply zsd | apply zsn)
              refine Stays.trans ?_ K3
              with_reducible repeat (first | apply zsa | apply zsd | apply zsn)
              refine Stays.trans ?_ K1
              with_reducible repeat (first | apply zsa | apply zsd | apply zsn)
              exact Stays.refl _ _⟩
  · rw [if_neg c2] at e; obtain rfl := eq_false_of_ne_true c2; clear c2
    obtain ⟨hv, rfl⟩ := GM.pure_eq e
    obtain rfl := hv
    go_enter Tryz.func93, Tryz.ntmps93
    go_wp2_with fail
    with_reducible refine (tiOf_c (by with_reducible repeat (first | exact H | apply zha | apply zhd | apply zhn)) e1.out).mono ?_
    rintro _ w1 ⟨rfl, H1, K1⟩
    have Bt := Blk.new w1 149 #[.int .i64 t.kind, .int .i64 t.color, .int .i64 t.count, .int .i64 t.shade, .int .i64 t.dead, .int .i64 t.ring, .int .i64 t.owner]
    have Bt0 : (w1.alloc (Obj.cells #[.int .i64 t.kind, .int .i64 t.color, .int .i64 t.count, .int .i64 t.shade, .int .i64 t.dead, .int .i64 t.ring, .int .i64 t.owner] 149)).cell? ⟨w1.heap.size, 0, none⟩ = some (.int .i64 t.kind) := Bt.cell 0
    have Bt1 : (w1.alloc (Obj.cells #[.int .i64 t.kind, .int .i64 t.color, .int .i64 t.count, .int .i64 t.shade, .int .i64 t.dead, .int .i64 t.ring, .int .i64 t.owner] 149)).cell? ⟨w1.heap.size, 1, none⟩ = some (.int .i64 t.color) := Bt.cell 1
    have Bt2 : (w1.alloc (Obj.cells #[.int .i64 t.kind, .int .i64 t.color, .int .i64 t.count, .int .i64 t.shade, .int .i64 t.dead, .int .i64 t.ring, .int .i64 t.owner] 149)).cell? ⟨w1.heap.size, 2, none⟩ = some (.int .i64 t.count) := Bt.cell 2
    have Bt3 : (w1.alloc (Obj.cells #[.int .i64 t.kind, .int .i64 t.color, .int .i64 t.count, .int .i64 t.shade, .int .i64 t.dead, .int .i64 t.ring, .int .i64 t.owner] 149)).cell? ⟨w1.heap.size, 3, none⟩ = some (.int .i64 t.shade) := Bt.cell 3
    have Bt4 : (w1.alloc (Obj.cells #[.int .i64 t.kind, .int .i64 t.color, .int .i64 t.count, .int .i64 t.shade, .int .i64 t.dead, .int .i64 t.ring, .int .i64 t.owner] 149)).cell? ⟨w1.heap.size, 4, none⟩ = some (.int .i64 t.dead) := Bt.cell 4
    have Bt5 : (w1.alloc (Obj.cells #[.int .i64 t.kind, .int .i64 t.color, .int .i64 t.count, .int .i64 t.shade, .int .i64 t.dead, .int .i64 t.ring, .int .i64 t.owner] 149)).cell? ⟨w1.heap.size, 5, none⟩ = some (.int .i64 t.ring) := Bt.cell 5
    have Bt6 : (w1.alloc (Obj.cells #[.int .i64 t.kind, .int .i64 t.color, .int .i64 t.count, .int .i64 t.shade, .int .i64 t.dead, .int .i64 t.ring, .int .i64 t.owner] 149)).cell? ⟨w1.heap.size, 6, none⟩ = some (.int .i64 t.owner) := Bt.cell 6
    go_wp2_with fail
    go_quiet (fail)
    go_wp2_with fail
    go_ret
    exact ⟨by first | rfl | (simp; done) | (simp [*]; done), (by with_reducible repeat (first | exact H1 | apply zha | apply zhd | apply zhn)), by
      with_reducible repeat (first | apply zsa | apply zsd | apply zsn)
      refine Stays.trans ?_ K1
      with_reducible repeat (first | apply zsa | apply zsd | apply zsn)
      exact Stays.refl _ _⟩

def tiMove (c0 : Int) (f0 : Int) : GM Bool :=
  pure (decide (0 ≤ c0) && decide (c0 ≤ 4294967295)) >>= fun a =>
  if a then
    pure (decide (0 ≤ f0) && decide (f0 ≤ 4294967295)) >>= fun b =>
    if b then
      SetReg 12 c0 >>= fun x =>
      if x then
        SetReg 13 f0 >>= fun y =>
        pure y
      else
        pure false
    else
      pure false
  else
    pure false

theorem tiMove_c {A : GA} {S : GS} {w : World} (H : Held A S w) {c0 : Int} {f0 : Int} {v0 : Bool} {T : GS} (e : tiMove c0 f0 S = (v0, T)) :
    Calls Tryz.prog 104 #[.pointer (some ⟨A.g, 0, none⟩), .int .i64 c0, .int .i64 f0] w (Did A w (.bool v0) T) := by
  unfold tiMove at e
  replace e := GM.bind_eq e; obtain ⟨a, S1, e1_, e⟩ := e; have e1 := Hd.mk e1_; clear e1_
  by_cases c2 : a = true
  · rw [if_pos c2] at e; subst c2
    replace e := GM.bind_eq e; obtain ⟨b, S3, e3_, e⟩ := e; have e3 := Hd.mk e3_; clear e3_
    by_cases c4 : b = true
    · rw [if_pos c4] at e; subst c4
      replace e := GM.bind_eq e; obtain ⟨x, S5, e5_, e⟩ := e; have e5 := Hd.mk e5_; clear e5_
      by_cases c6 : x = true
      · rw [if_pos c6] at e; subst c6
        replace e := GM.bind_eq e; obtain ⟨y, S7, e7_, e⟩ := e; have e7 := Hd.mk e7_; clear e7_
        obtain ⟨hv, rfl⟩ := GM.pure_eq e
        obtain rfl := hv
        go_enter Tryz.func104, Tryz.ntmps104
        go_wp2_with fail
        with_reducible refine (fits_c (by with_reducible repeat (first | exact H | apply zha | apply zhd | apply zhn)) e1.out).mono ?_
        rintro _ w1 ⟨rfl, H1, K1⟩
        go_wp2_with fail
        with_reducible refine (fits_c (by with_reducible repeat (first | exact H1 | apply zha | apply zhd | apply zhn)) e3.out).mono ?_
        rintro _ w3 ⟨rfl, H3, K3⟩
        go_wp2_with fail
        with_reducible refine (SetReg_c (by with_reducible repeat (first | exact H3 | apply zha | apply zhd | apply zhn)) e5.out).mono ?_
        rintro _ w5 ⟨rfl, H5, K5⟩
        go_wp2_with fail
        with_reducible refine (SetReg_c (by with_reducible repeat (first | exact H5 | apply zha | apply zhd | apply zhn)) e7.out).mono ?_
        rintro _ w7 ⟨rfl, H7, K7⟩
        go_wp2_with fail
        go_ret
        exact ⟨by first | rfl | (simp; done) | (simp [*]; done), (by with_reducible repeat (first | exact H7 | apply zha | apply zhd | apply zhn)), by
          with_reducible repeat (first | apply zsa | apply zsd | apply zsn)
          refine Stays.trans ?_ K7
          with_reducible repeat (first | apply zsa | apply zsd | apply zsn)
          refine Stays.trans ?_ K5
          with_reducible repeat (first | apply zsa | apply zsd | apply zsn)
          refine Stays.trans ?_ K3
          with_reducible repeat (first | apply zsa | apply zsd | apply zsn)
          refine Stays.trans ?_ K1
          with_reducible repeat (first | apply zsa | apply zsd | apply zsn)
          exact Stays.refl _ _⟩
      · rw [if_neg c6] at e; obtain rfl := eq_false_of_ne_true c6; clear c6
        obtain ⟨hv, rfl⟩ := GM.pure_eq e
        obtain rfl := hv
        go_enter Tryz.func104, Tryz.ntmps104
        go_wp2_with fail
        with_reducible refine (fits_c (by with_reducible repeat (first | exact H | apply zha | apply zhd | apply zhn)) e1.out).mono ?_
        rintro _ w1 ⟨rfl, H1, K1⟩
        go_wp2_with fail
        with_reducible refine (fits_c (by with_reducible repeat (first | exact H1 | apply zha | apply zhd | apply zhn)) e3.out).mono ?_
        rintro _ w3 ⟨rfl, H3, K3⟩
        go_wp2_with fail
        with_reducible refine (SetReg_c (by with_reducible repeat (first | exact H3 | apply zha | apply zhd | apply zhn)) e5.out).mono ?_
        rintro _ w5 ⟨rfl, H5, K5⟩
        go_wp2_with fail
        go_ret
        exact ⟨by first | rfl | (simp; done) | (simp [*]; done), (by with_reducible repeat (first | exact H5 | apply zha | apply zhd | apply zhn)), by
          with_reducible repeat (first | apply zsa | apply zsd | apply zsn)
          refine Stays.trans ?_ K5
          with_reducible repeat (first | apply zsa | apply zsd | apply zsn)
          refine Stays.trans ?_ K3
          with_reducible repeat (first | apply zsa | apply zsd | apply zsn)
          refine Stays.trans ?_ K1
          with_reducible repeat (first | apply zsa | apply zsd | apply zsn)
          exact Stays.refl _ _⟩
    · rw [if_neg c4] at e; obtain rfl := eq_false_of_ne_true c4; clear c4
      obtain ⟨hv, rfl⟩ := GM.pure_eq e
      obtain rfl := hv
      go_enter Tryz.func104, Tryz.ntmps104
      go_wp2_with fail
      with_reducible refine (fits_c (by with_reducible repeat (first | exact H | apply zha | apply zhd | apply zhn)) e1.out).mono ?_
      rintro _ w1 ⟨rfl, H1, K1⟩
      go_wp2_with fail
      with_reducible refine (fits_c (by with_reducible repeat (first | exact H1 | apply zha | apply zhd | apply zhn)) e3.out).mono ?_
      rintro _ w3 ⟨rfl, H3, K3⟩
      go_wp2_with fail
      go_ret
      exact ⟨by first | rfl | (simp; done) | (simp [*]; done), (by with_reducible repeat (first | exact H3 | apply zha | apply zhd | apply zhn)), by
        with_reducible repeat (first | apply zsa | apply zsd | apply zsn)
        refine Stays.trans ?_ K3
        with_reducible repeat (first | apply zsa | apply zsd | apply zsn)
        refine Stays.trans ?_ K1
        with_reducible repeat (first | apply zsa | apply zsd | apply zsn)
        exact Stays.refl _ _⟩
  · rw [if_neg c2] at e; obtain rfl := eq_false_of_ne_true c2; clear c2
    obtain ⟨hv, rfl⟩ := GM.pure_eq e
    obtain rfl := hv
    go_enter Tryz.func104, Tryz.ntmps104
    go_wp2_with fail
    with_reducible refine (fits_c (by with_reducible repeat (first | exact H | apply zha | apply zhd | apply zhn)) e1.out).mono ?_
    rintro _ w1 ⟨rfl, H1, K1⟩
    go_wp2_with fail
    go_ret
    exact ⟨by first | rfl | (simp; done) | (simp [*]; done), (by with_reducible repeat (first | exact H1 | apply zha | apply zhd | apply zhn)), by
      with_reducible repeat (first | apply zsa | apply zsd | apply zsn)
      refine Stays.trans ?_ K1
      with_reducible repeat (first | apply zsa | apply zsd | apply zsn)
      exact Stays.refl _ _⟩

def tiCounted (r : Int) (i : Int) : GM Bool :=
  tiOf r >>= fun ⟨t, ok⟩ =>
  if ok then
    if i < 0 then
      pure false
    else
      tiParity >>= fun now =>
      if t.count = now then
        pure true
      else
        tiAt >>= fun ⟨c0, f0⟩ =>
        tiPhase >>= fun ph =>
        if ph = 1 then
          if c0 = r - 1 then
            if i < f0 then
              pure true
            else
              pure false
          else
            pure false
        else
          pure false
  else
    pure false

theorem tiCounted_c {A : GA} {S : GS} {w : World} (H : Held A S w) {r : Int} {i : Int} {v0 : Bool} {T : GS} (e : tiCounted r i S = (v0, T)) :
    Calls Tryz.prog 100 #[.pointer (some ⟨A.g, 0, none⟩), .int .i64 r, .int .i64 i] w (Did A w (.bool v0) T) := by
  unfold tiCounted at e
  have hn2 := H.ok.n2
  replace e := GM.bind_eq e; obtain ⟨⟨t, ok⟩, S1, e1_, e⟩ := e; have e1 := Hd.mk e1_; clear e1_
  dsimp only at e
  by_cases c2 : ok = true
  · rw [if_pos c2] at e; subst c2
    obtain ⟨_, _, hr0, hr1⟩ := tiOf_used e1.out
    by_cases c3 : i < 0
    · rw [if_pos c3] at e
      obtain ⟨hv, rfl⟩ := GM.pure_eq e
      obtain rfl := hv
      go_enter Tryz.func100, Tryz.ntmps100
      go_wp2_with fail
      with_reducible refine (tiOf_c (by with_reducible repeat (first | exact H | apply zha | apply zhd | apply zhn)) e1.out).mono ?_
      rintro _ w1 ⟨rfl, H1, K1⟩
      have Bt := Blk.new w1 149 #[.int .i64 t.kind, .int .i64 t.color, .int .i64 t.count, .int .i64 t.shade, .int .i64 t.dead, .int .i64 t.ring, .int .i64 t.owner]
      go_wp2_with fail
      go_ret
      exact ⟨by first | rfl | (simp; done) | (simp [*]; done), (by with_reducible repeat (first | exact H1 | apply zha | apply zhd | apply zhn)), by
        with_reducible repeat (first | apply zsa | apply zsd | apply zsn)
        refine Stays.trans ?_ K1
        with_reducible repeat (first | apply zsa | apply zsd | apply zsn)
        exact Stays.refl _ _⟩
    · rw [if_neg c3] at e
      replace e := GM.bind_eq e; obtain ⟨now, S4, e4_, e⟩ := e; have e4 := Hd.mk e4_; clear e4_
      by_cases c5 : t.count = now
      · rw [if_pos c5] at e; have c5b : (t.count == now) = true := beq_iff_eq.2 c5; have c5n : (t.count != now) = false := by rw [bne_eq_false_iff_eq]; exact c5
        clear c5
        obtain ⟨hv, rfl⟩ := GM.pure_eq e
        obtain rfl := hv
        go_enter Tryz.func100, Tryz.ntmps100
        go_wp2_with fail
        with_reducible refine (tiOf_c (by with_reducible repeat (first | exact H | apply zha | apply zhd | apply zhn)) e1.out).mono ?_
        rintro _ w1 ⟨rfl, H1, K1⟩
        have Bt := Blk.new w1 149 #[.int .i64 t.kind, .int .i64 t.color, .int .i64 t.count, .int .i64 t.shade, .int .i64 t.dead, .int .i64 t.ring, .int .i64 t.owner]
        have Bt0 : (w1.alloc (Obj.cells #[.int .i64 t.kind, .int .i64 t.color, .int .i64 t.count, .int .i64 t.shade, .int .i64 t.dead, .int .i64 t.ring, .int .i64 t.owner] 149)).cell? ⟨w1.heap.size, 0, none⟩ = some (.int .i64 t.kind) := Bt.cell 0
        have Bt1 : (w1.alloc (Obj.cells #[.int .i64 t.kind, .int .i64 t.color, .int .i64 t.count, .int .i64 t.shade, .int .i64 t.dead, .int .i64 t.ring, .int .i64 t.owner] 149)).cell? ⟨w1.heap.size, 1, none⟩ = some (.int .i64 t.color) := Bt.cell 1
        have Bt2 : (w1.alloc (Obj.cells #[.int .i64 t.kind, .int .i64 t.color, .int .i64 t.count, .int .i64 t.shade, .int .i64 t.dead, .int .i64 t.ring, .int .i64 t.owner] 149)).cell? ⟨w1.heap.size, 2, none⟩ = some (.int .i64 t.count) := Bt.cell 2
        have Bt3 : (w1.alloc (Obj.cells #[.int .i64 t.kind, .int .i64 t.color, .int .i64 t.count, .int .i64 t.shade, .int .i64 t.dead, .int .i64 t.ring, .int .i64 t.owner] 149)).cell? ⟨w1.heap.size, 3, none⟩ = some (.int .i64 t.shade) := Bt.cell 3
        have Bt4 : (w1.alloc (Obj.cells #[.int .i64 t.kind, .int .i64 t.color, .int .i64 t.count, .int .i64 t.shade, .int .i64 t.dead, .int .i64 t.ring, .int .i64 t.owner] 149)).cell? ⟨w1.heap.size, 4, none⟩ = some (.int .i64 t.dead) := Bt.cell 4
        have Bt5 : (w1.alloc (Obj.cells #[.int .i64 t.kind, .int .i64 t.color, .int .i64 t.count, .int .i64 t.shade, .int .i64 t.dead, .int .i64 t.ring, .int .i64 t.owner] 149)).cell? ⟨w1.heap.size, 5, none⟩ = some (.int .i64 t.ring) := Bt.cell 5
        have Bt6 : (w1.alloc (Obj.cells #[.int .i64 t.kind, .int .i64 t.color, .int .i64 t.count, .int .i64 t.shade, .int .i64 t.dead, .int .i64 t.ring, .int .i64 t.owner] 149)).cell? ⟨w1.heap.size, 6, none⟩ = some (.int .i64 t.owner) := Bt.cell 6
        go_wp2_with fail
        go_region_held3 (fun wx => wx.cell? ⟨w1.heap.size, 0, none⟩ = some (.int .i64 t.kind) ∧ wx.cell? ⟨w1.heap.size, 1, none⟩ = some (.int .i64 t.color) ∧ wx.cell? ⟨w1.heap.size, 2, none⟩ = some (.int .i64 t.count) ∧ wx.cell? ⟨w1.heap.size, 3, none⟩ = some (.int .i64 t.shade) ∧ wx.cell? ⟨w1.heap.size, 4, none⟩ = some (.int .i64 t.dead) ∧ wx.cell? ⟨w1.heap.size, 5, none⟩ = some (.int .i64 t.ring) ∧ wx.cell? ⟨w1.heap.size, 6, none⟩ = some (.int .i64 t.owner))
          (first | exact ⟨Bt0, Bt1, Bt2, Bt3, Bt4, Bt5, Bt6⟩ | go_keep)
          (first | (go_at_call 170; ((repeat (first | rw [IntWalk.i64_in _ (by omega)] | rw [IntWalk.u32_in _ (by omega)]))); (with_reducible refine (tiParity_c (by with_reducible repeat (first | exact H1 | apply zha | apply zhd | apply zhn)) e4.out).mono ?_); (rintro _ w4 ⟨rfl, H4, K4⟩); (replace Bt := Blk.stays (by with_reducible repeat (first | exact Bt | apply zba | apply zbd | apply zbn)) K4 (GA.foot_far H1.top)); (clear Bt0 Bt1 Bt2 Bt3 Bt4 Bt5 Bt6); (have Bt0 : w4.cell? ⟨w1.heap.size, 0, none⟩ = some (.int .i64 t.kind) := Bt.cell 0); (have Bt1 : w4.cell? ⟨w1.heap.size, 1, none⟩ = some (.int .i64 t.color) := Bt.cell 1); (have Bt2 : w4.cell? ⟨w1.heap.size, 2, none⟩ = some (.int .i64 t.count) := Bt.cell 2); (have Bt3 : w4.cell? ⟨w1.heap.size, 3, none⟩ = some (.int .i64 t.shade) := Bt.cell 3); (have Bt4 : w4.cell? ⟨w1.heap.size, 4, none⟩ = some (.int .i64 t.dead) := Bt.cell 4); (have Bt5 : w4.cell? ⟨w1.heap.size, 5, none⟩ = some (.int .i64 t.ring) := Bt.cell 5); (have Bt6 : w4.cell? ⟨w1.heap.size, 6, none⟩ = some (.int .i64 t.owner) := Bt.cell 6)))
        go_wp2_with fail
        go_ret
        exact ⟨by first | rfl | (simp; done) | (simp [*]; done), (by with_reducible repeat (first | exact H4 | apply zha | apply zhd | apply zhn)), by
          with_reducible repeat (first | apply zsa | apply zsd | apply zsn)
          refine Stays.trans ?_ K4
          with_reducible repeat (first | apply zsa | apply zsd | apply zsn)
          refine Stays.trans ?_ K1
          with_reducible repeat (first | apply zsa | apply zsd | apply zsn)
          exact Stays.refl _ _⟩
      · rw [if_neg c5] at e; have c5b : (t.count == now) = false := beq_eq_false_iff_ne.2 c5; have c5n : (t.count != now) = true := bne_iff_ne.2 c5
        replace e := GM.bind_eq e; obtain ⟨⟨c0, f0⟩, S6, e6_, e⟩ := e; have e6 := Hd.mk e6_; clear e6_
        dsimp only at e
        replace e := GM.bind_eq e; obtain ⟨ph, S7, e7_, e⟩ := e; have e7 := Hd.mk e7_; clear e7_
        by_cases c8 : ph = 1
        · rw [if_pos c8] at e; subst c8
          by_cases c9 : c0 = r - 1
          · rw [if_pos c9] at e; have c9b : (c0 == r - 1) = true := beq_iff_eq.2 c9; have c9n : (c0 != r - 1) = false := by rw [bne_eq_false_iff_eq]; exact c9
            clear c9
            by_cases c10 : i < f0
            · rw [if_pos c10] at e
              obtain ⟨hv, rfl⟩ := GM.pure_eq e
              obtain rfl := hv
              go_enter Tryz.func100, Tryz.ntmps100
              go_wp2_with fail
              with_reducible refine (tiOf_c (by with_reducible repeat (first | exact H | apply zha | apply zhd | apply zhn)) e1.out).mono ?_
              rintro _ w1 ⟨rfl, H1, K1⟩
              have Bt := Blk.new w1 149 #[.int .i64 t.kind, .int .i64 t.color, .int .i64 t.count, .int .i64 t.shade, .int .i64 t.dead, .int .i64 t.ring, .int .i64 t.owner]
              have Bt0 : (w1.alloc (Obj.cells #[.int .i64 t.kind, .int .i64 t.color, .int .i64 t.count, .int .i64 t.shade, .int .i64 t.dead, .int .i64 t.ring, .int .i64 t.owner] 149)).cell? ⟨w1.heap.size, 0, none⟩ = some (.int .i64 t.kind) := Bt.cell 0
              have Bt1 : (w1.alloc (Obj.cells #[.int .i64 t.kind, .int .i64 t.color, .int .i64 t.count, .int .i64 t.shade, .int .i64 t.dead, .int .i64 t.ring, .int .i64 t.owner] 149)).cell? ⟨w1.heap.size, 1, none⟩ = some (.int .i64 t.color) := Bt.cell 1
              have Bt2 : (w1.alloc (Obj.cells #[.int .i64 t.kind, .int .i64 t.color, .int .i64 t.count, .int .i64 t.shade, .int .i64 t.dead, .int .i64 t.ring, .int .i64 t.owner] 149)).cell? ⟨w1.heap.size, 2, none⟩ = some (.int .i64 t.count) := Bt.cell 2
              have Bt3 : (w1.alloc (Obj.cells #[.int .i64 t.kind, .int .i64 t.color, .int .i64 t.count, .int .i64 t.shade, .int .i64 t.dead, .int .i64 t.ring, .int .i64 t.owner] 149)).cell? ⟨w1.heap.size, 3, none⟩ = some (.int .i64 t.shade) := Bt.cell 3
              have Bt4 : (w1.alloc (Obj.cells #[.int .i64 t.kind, .int .i64 t.color, .int .i64 t.count, .int .i64 t.shade, .int .i64 t.dead, .int .i64 t.ring, .int .i64 t.owner] 149)).cell? ⟨w1.heap.size, 4, none⟩ = some (.int .i64 t.dead) := Bt.cell 4
              have Bt5 : (w1.alloc (Obj.cells #[.int .i64 t.kind, .int .i64 t.color, .int .i64 t.count, .int .i64 t.shade, .int .i64 t.dead, .int .i64 t.ring, .int .i64 t.owner] 149)).cell? ⟨w1.heap.size, 5, none⟩ = some (.int .i64 t.ring) := Bt.cell 5
              have Bt6 : (w1.alloc (Obj.cells #[.int .i64 t.kind, .int .i64 t.color, .int .i64 t.count, .int .i64 t.shade, .int .i64 t.dead, .int .i64 t.ring, .int .i64 t.owner] 149)).cell? ⟨w1.heap.size, 6, none⟩ = some (.int .i64 t.owner) := Bt.cell 6
              go_wp2_with fail
              go_region_held3 (fun wx => wx.cell? ⟨w1.heap.size, 0, none⟩ = some (.int .i64 t.kind) ∧ wx.cell? ⟨w1.heap.size, 1, none⟩ = some (.int .i64 t.color) ∧ wx.cell? ⟨w1.heap.size, 2, none⟩ = some (.int .i64 t.count) ∧ wx.cell? ⟨w1.heap.size, 3, none⟩ = some (.int .i64 t.shade) ∧ wx.cell? ⟨w1.heap.size, 4, none⟩ = some (.int .i64 t.dead) ∧ wx.cell? ⟨w1.heap.size, 5, none⟩ = some (.int .i64 t.ring) ∧ wx.cell? ⟨w1.heap.size, 6, none⟩ = some (.int .i64 t.owner))
                (first | exact ⟨Bt0, Bt1, Bt2, Bt3, Bt4, Bt5, Bt6⟩ | go_keep)
                (first | (go_at_call 170; ((repeat (first | rw [IntWalk.i64_in _ (by omega)] | rw [IntWalk.u32_in _ (by omega)]))); (with_reducible refine (tiParity_c (by with_reducible repeat (first | exact H1 | apply zha | apply zhd | apply zhn)) e4.out).mono ?_); (rintro _ w4 ⟨rfl, H4, K4⟩); (replace Bt := Blk.stays (by with_reducible repeat (first | exact Bt | apply zba | apply zbd | apply zbn)) K4 (GA.foot_far H1.top)); (clear Bt0 Bt1 Bt2 Bt3 Bt4 Bt5 Bt6); (have Bt0 : w4.cell? ⟨w1.heap.size, 0, none⟩ = some (.int .i64 t.kind) := Bt.cell 0); (have Bt1 : w4.cell? ⟨w1.heap.size, 1, none⟩ = some (.int .i64 t.color) := Bt.cell 1); (have Bt2 : w4.cell? ⟨w1.heap.size, 2, none⟩ = some (.int .i64 t.count) := Bt.cell 2); (have Bt3 : w4.cell? ⟨w1.heap.size, 3, none⟩ = some (.int .i64 t.shade) := Bt.cell 3); (have Bt4 : w4.cell? ⟨w1.heap.size, 4, none⟩ = some (.int .i64 t.dead) := Bt.cell 4); (have Bt5 : w4.cell? ⟨w1.heap.size, 5, none⟩ = some (.int .i64 t.ring) := Bt.cell 5); (have Bt6 : w4.cell? ⟨w1.heap.size, 6, none⟩ = some (.int .i64 t.owner) := Bt.cell 6)))
              go_wp2_with fail
              with_reducible refine (tiAt_c (by with_reducible repeat (first | exact H4 | apply zha | apply zhd | apply zhn)) e6.out).mono ?_
              rintro _ w6 ⟨rfl, H6, K6⟩
              replace Bt := Blk.stays (by with_reducible repeat (first | exact Bt | apply zba | apply zbd | apply zbn)) K6 (GA.foot_far H1.top)
              clear Bt0 Bt1 Bt2 Bt3 Bt4 Bt5 Bt6
              have Bt0 : w6.cell? ⟨w1.heap.size, 0, none⟩ = some (.int .i64 t.kind) := Bt.cell 0
              have Bt1 : w6.cell? ⟨w1.heap.size, 1, none⟩ = some (.int .i64 t.color) := Bt.cell 1
              have Bt2 : w6.cell? ⟨w1.heap.size, 2, none⟩ = some (.int .i64 t.count) := Bt.cell 2
              have Bt3 : w6.cell? ⟨w1.heap.size, 3, none⟩ = some (.int .i64 t.shade) := Bt.cell 3
              have Bt4 : w6.cell? ⟨w1.heap.size, 4, none⟩ = some (.int .i64 t.dead) := Bt.cell 4
              have Bt5 : w6.cell? ⟨w1.heap.size, 5, none⟩ = some (.int .i64 t.ring) := Bt.cell 5
              have Bt6 : w6.cell? ⟨w1.heap.size, 6, none⟩ = some (.int .i64 t.owner) := Bt.cell 6
              go_wp2_with fail
              with_reducible refine (tiPhase_c (by with_reducible repeat (first | exact H6 | apply zha | apply zhd | apply zhn)) e7.out).mono ?_
              rintro _ w7 ⟨rfl, H7, K7⟩
              replace Bt := Blk.stays (by with_reducible repeat (first | exact Bt | apply zba | apply zbd | apply zbn)) K7 (GA.foot_far H1.top)
              clear Bt0 Bt1 Bt2 Bt3 Bt4 Bt5 Bt6
              have Bt0 : w7.cell? ⟨w1.heap.size, 0, none⟩ = some (.int .i64 t.kind) := Bt.cell 0
              have Bt1 : w7.cell? ⟨w1.heap.size, 1, none⟩ = some (.int .i64 t.color) := Bt.cell 1
              have Bt2 : w7.cell? ⟨w1.heap.size, 2, none⟩ = some (.int .i64 t.count) := Bt.cell 2
              have Bt3 : w7.cell? ⟨w1.heap.size, 3, none⟩ = some (.int .i64 t.shade) := Bt.cell 3
              have Bt4 : w7.cell? ⟨w1.heap.size, 4, none⟩ = some (.int .i64 t.dead) := Bt.cell 4
              have Bt5 : w7.cell? ⟨w1.heap.size, 5, none⟩ = some (.int .i64 t.ring) := Bt.cell 5
              have Bt6 : w7.cell? ⟨w1.heap.size, 6, none⟩ = some (.int .i64 t.owner) := Bt.cell 6
              go_wp2_with fail
              go_ret
              exact ⟨by first | rfl | (simp; done) | (simp [*]; done), (by with_reducible repeat (first | exact H7 | apply zha | apply zhd | apply zhn)), by
                with_reducible repeat (first | apply zsa | apply zsd | apply zsn)
                refine Stays.trans ?_ K7
                with_reducible repeat (first | apply zsa | apply zsd | apply zsn)
                refine Stays.trans ?_ K6
                with_reducible repeat (first | apply zsa | apply zsd | apply zsn)
                refine Stays.trans ?_ K4
                with_reducible repeat (first | apply zsa | apply zsd | apply zsn)
                refine Stays.trans ?_ K1
                with_reducible repeat (first | apply zsa | apply zsd | apply zsn)
                exact Stays.refl _ _⟩
            · rw [if_neg c10] at e
              obtain ⟨hv, rfl⟩ := GM.pure_eq e
              obtain rfl := hv
              go_enter Tryz.func100, Tryz.ntmps100
              go_wp2_with fail
              with_reducible refine (tiOf_c (by with_reducible repeat (first | exact H | apply zha | apply zhd | apply zhn)) e1.out).mono ?_
              rintro _ w1 ⟨rfl, H1, K1⟩
              have Bt := Blk.new w1 149 #[.int .i64 t.kind, .int .i64 t.color, .int .i64 t.count, .int .i64 t.shade, .int .i64 t.dead, .int .i64 t.ring, .int .i64 t.owner]
              have Bt0 : (w1.alloc (Obj.cells #[.int .i64 t.kind, .int .i64 t.color, .int .i64 t.count, .int .i64 t.shade, .int .i64 t.dead, .int .i64 t.ring, .int .i64 t.owner] 149)).cell? ⟨w1.heap.size, 0, none⟩ = some (.int .i64 t.kind) := Bt.cell 0
              have Bt1 : (w1.alloc (Obj.cells #[.int .i64 t.kind, .int .i64 t.color, .int .i64 t.count, .int .i64 t.shade, .int .i64 t.dead, .int .i64 t.ring, .int .i64 t.owner] 149)).cell? ⟨w1.heap.size, 1, none⟩ = some (.int .i64 t.color) := Bt.cell 1
              have Bt2 : (w1.alloc (Obj.cells #[.int .i64 t.kind, .int .i64 t.color, .int .i64 t.count, .int .i64 t.shade, .int .i64 t.dead, .int .i64 t.ring, .int .i64 t.owner] 149)).cell? ⟨w1.heap.size, 2, none⟩ = some (.int .i64 t.count) := Bt.cell 2
              have Bt3 : (w1.alloc (Obj.cells #[.int .i64 t.kind, .int .i64 t.color, .int .i64 t.count, .int .i64 t.shade, .int .i64 t.dead, .int .i64 t.ring, .int .i64 t.owner] 149)).cell? ⟨w1.heap.size, 3, none⟩ = some (.int .i64 t.shade) := Bt.cell 3
              have Bt4 : (w1.alloc (Obj.cells #[.int .i64 t.kind, .int .i64 t.color, .int .i64 t.count, .int .i64 t.shade, .int .i64 t.dead, .int .i64 t.ring, .int .i64 t.owner] 149)).cell? ⟨w1.heap.size, 4, none⟩ = some (.int .i64 t.dead) := Bt.cell 4
              have Bt5 : (w1.alloc (Obj.cells #[.int .i64 t.kind, .int .i64 t.color, .int .i64 t.count, .int .i64 t.shade, .int .i64 t.dead, .int .i64 t.ring, .int .i64 t.owner] 149)).cell? ⟨w1.heap.size, 5, none⟩ = some (.int .i64 t.ring) := Bt.cell 5
              have Bt6 : (w1.alloc (Obj.cells #[.int .i64 t.kind, .int .i64 t.color, .int .i64 t.count, .int .i64 t.shade, .int .i64 t.dead, .int .i64 t.ring, .int .i64 t.owner] 149)).cell? ⟨w1.heap.size, 6, none⟩ = some (.int .i64 t.owner) := Bt.cell 6
              go_wp2_with fail
              go_region_held3 (fun wx => wx.cell? ⟨w1.heap.size, 0, none⟩ = some (.int .i64 t.kind) ∧ wx.cell? ⟨w1.heap.size, 1, none⟩ = some (.int .i64 t.color) ∧ wx.cell? ⟨w1.heap.size, 2, none⟩ = some (.int .i64 t.count) ∧ wx.cell? ⟨w1.heap.size, 3, none⟩ = some (.int .i64 t.shade) ∧ wx.cell? ⟨w1.heap.size, 4, none⟩ = some (.int .i64 t.dead) ∧ wx.cell? ⟨w1.heap.size, 5, none⟩ = some (.int .i64 t.ring) ∧ wx.cell? ⟨w1.heap.size, 6, none⟩ = some (.int .i64 t.owner))
                (first | exact ⟨Bt0, Bt1, Bt2, Bt3, Bt4, Bt5, Bt6⟩ | go_keep)
                (first | (go_at_call 170; ((repeat (first | rw [IntWalk.i64_in _ (by omega)] | rw [IntWalk.u32_in _ (by omega)]))); (with_reducible refine (tiParity_c (by with_reducible repeat (first | exact H1 | apply zha | apply zhd | apply zhn)) e4.out).mono ?_); (rintro _ w4 ⟨rfl, H4, K4⟩); (replace Bt := Blk.stays (by with_reducible repeat (first | exact Bt | apply zba | apply zbd | apply zbn)) K4 (GA.foot_far H1.top)); (clear Bt0 Bt1 Bt2 Bt3 Bt4 Bt5 Bt6); (have Bt0 : w4.cell? ⟨w1.heap.size, 0, none⟩ = some (.int .i64 t.kind) := Bt.cell 0); (have Bt1 : w4.cell? ⟨w1.heap.size, 1, none⟩ = some (.int .i64 t.color) := Bt.cell 1); (have Bt2 : w4.cell? ⟨w1.heap.size, 2, none⟩ = some (.int .i64 t.count) := Bt.cell 2); (have Bt3 : w4.cell? ⟨w1.heap.size, 3, none⟩ = some (.int .i64 t.shade) := Bt.cell 3); (have Bt4 : w4.cell? ⟨w1.heap.size, 4, none⟩ = some (.int .i64 t.dead) := Bt.cell 4); (have Bt5 : w4.cell? ⟨w1.heap.size, 5, none⟩ = some (.int .i64 t.ring) := Bt.cell 5); (have Bt6 : w4.cell? ⟨w1.heap.size, 6, none⟩ = some (.int .i64 t.owner) := Bt.cell 6)))
              go_wp2_with fail
              with_reducible refine (tiAt_c (by with_reducible repeat (first | exact H4 | apply zha | apply zhd | apply zhn)) e6.out).mono ?_
              rintro _ w6 ⟨rfl, H6, K6⟩
              replace Bt := Blk.stays (by with_reducible repeat (first | exact Bt | apply zba | apply zbd | apply zbn)) K6 (GA.foot_far H1.top)
              clear Bt0 Bt1 Bt2 Bt3 Bt4 Bt5 Bt6
              have Bt0 : w6.cell? ⟨w1.heap.size, 0, none⟩ = some (.int .i64 t.kind) := Bt.cell 0
              have Bt1 : w6.cell? ⟨w1.heap.size, 1, none⟩ = some (.int .i64 t.color) := Bt.cell 1
              have Bt2 : w6.cell? ⟨w1.heap.size, 2, none⟩ = some (.int .i64 t.count) := Bt.cell 2
              have Bt3 : w6.cell? ⟨w1.heap.size, 3, none⟩ = some (.int .i64 t.shade) := Bt.cell 3
              have Bt4 : w6.cell? ⟨w1.heap.size, 4, none⟩ = some (.int .i64 t.dead) := Bt.cell 4
              have Bt5 : w6.cell? ⟨w1.heap.size, 5, none⟩ = some (.int .i64 t.ring) := Bt.cell 5
              have Bt6 : w6.cell? ⟨w1.heap.size, 6, none⟩ = some (.int .i64 t.owner) := Bt.cell 6
              go_wp2_with fail
              with_reducible refine (tiPhase_c (by with_reducible repeat (first | exact H6 | apply zha | apply zhd | apply zhn)) e7.out).mono ?_
              rintro _ w7 ⟨rfl, H7, K7⟩
              replace Bt := Blk.stays (by with_reducible repeat (first | exact Bt | apply zba | apply zbd | apply zbn)) K7 (GA.foot_far H1.top)
              clear Bt0 Bt1 Bt2 Bt3 Bt4 Bt5 Bt6
              have Bt0 : w7.cell? ⟨w1.heap.size, 0, none⟩ = some (.int .i64 t.kind) := Bt.cell 0
              have Bt1 : w7.cell? ⟨w1.heap.size, 1, none⟩ = some (.int .i64 t.color) := Bt.cell 1
              have Bt2 : w7.cell? ⟨w1.heap.size, 2, none⟩ = some (.int .i64 t.count) := Bt.cell 2
              have Bt3 : w7.cell? ⟨w1.heap.size, 3, none⟩ = some (.int .i64 t.shade) := Bt.cell 3
              have Bt4 : w7.cell? ⟨w1.heap.size, 4, none⟩ = some (.int .i64 t.dead) := Bt.cell 4
              have Bt5 : w7.cell? ⟨w1.heap.size, 5, none⟩ = some (.int .i64 t.ring) := Bt.cell 5
              have Bt6 : w7.cell? ⟨w1.heap.size, 6, none⟩ = some (.int .i64 t.owner) := Bt.cell 6
              go_wp2_with fail
              go_ret
              exact ⟨by first | rfl | (simp; done) | (simp [*]; done), (by with_reducible repeat (first | exact H7 | apply zha | apply zhd | apply zhn)), by
                with_reducible repeat (first | apply zsa | apply zsd | apply zsn)
                refine Stays.trans ?_ K7
                with_reducible repeat (first | apply zsa | apply zsd | apply zsn)
                refine Stays.trans ?_ K6
                with_reducible repeat (first | apply zsa | apply zsd | apply zsn)
                refine Stays.trans ?_ K4
                with_reducible repeat (first | apply zsa | apply zsd | apply zsn)
                refine Stays.trans ?_ K1
                with_reducible repeat (first | apply zsa | apply zsd | apply zsn)
                exact Stays.refl _ _⟩
          · rw [if_neg c9] at e; have c9b : (c0 == r - 1) = false := beq_eq_false_iff_ne.2 c9; have c9n : (c0 != r - 1) = true := bne_iff_ne.2 c9
            obtain ⟨hv, rfl⟩ := GM.pure_eq e
            obtain rfl := hv
            go_enter Tryz.func100, Tryz.ntmps100
            go_wp2_with fail
            with_reducible refine (tiOf_c (by with_reducible repeat (first | exact H | apply zha | apply zhd | apply zhn)) e1.out).mono ?_
            rintro _ w1 ⟨rfl, H1, K1⟩
            have Bt := Blk.new w1 149 #[.int .i64 t.kind, .int .i64 t.color, .int .i64 t.count, .int .i64 t.shade, .int .i64 t.dead, .int .i64 t.ring, .int .i64 t.owner]
            have Bt0 : (w1.alloc (Obj.cells #[.int .i64 t.kind, .int .i64 t.color, .int .i64 t.count, .int .i64 t.shade, .int .i64 t.dead, .int .i64 t.ring, .int .i64 t.owner] 149)).cell? ⟨w1.heap.size, 0, none⟩ = some (.int .i64 t.kind) := Bt.cell 0
            have Bt1 : (w1.alloc (Obj.cells #[.int .i64 t.kind, .int .i64 t.color, .int .i64 t.count, .int .i64 t.shade, .int .i64 t.dead, .int .i64 t.ring, .int .i64 t.owner] 149)).cell? ⟨w1.heap.size, 1, none⟩ = some (.int .i64 t.color) := Bt.cell 1
            have Bt2 : (w1.alloc (Obj.cells #[.int .i64 t.kind, .int .i64 t.color, .int .i64 t.count, .int .i64 t.shade, .int .i64 t.dead, .int .i64 t.ring, .int .i64 t.owner] 149)).cell? ⟨w1.heap.size, 2, none⟩ = some (.int .i64 t.count) := Bt.cell 2
            have Bt3 : (w1.alloc (Obj.cells #[.int .i64 t.kind, .int .i64 t.color, .int .i64 t.count, .int .i64 t.shade, .int .i64 t.dead, .int .i64 t.ring, .int .i64 t.owner] 149)).cell? ⟨w1.heap.size, 3, none⟩ = some (.int .i64 t.shade) := Bt.cell 3
            have Bt4 : (w1.alloc (Obj.cells #[.int .i64 t.kind, .int .i64 t.color, .int .i64 t.count, .int .i64 t.shade, .int .i64 t.dead, .int .i64 t.ring, .int .i64 t.owner] 149)).cell? ⟨w1.heap.size, 4, none⟩ = some (.int .i64 t.dead) := Bt.cell 4
            have Bt5 : (w1.alloc (Obj.cells #[.int .i64 t.kind, .int .i64 t.color, .int .i64 t.count, .int .i64 t.shade, .int .i64 t.dead, .int .i64 t.ring, .int .i64 t.owner] 149)).cell? ⟨w1.heap.size, 5, none⟩ = some (.int .i64 t.ring) := Bt.cell 5
            have Bt6 : (w1.alloc (Obj.cells #[.int .i64 t.kind, .int .i64 t.color, .int .i64 t.count, .int .i64 t.shade, .int .i64 t.dead, .int .i64 t.ring, .int .i64 t.owner] 149)).cell? ⟨w1.heap.size, 6, none⟩ = some (.int .i64 t.owner) := Bt.cell 6
            go_wp2_with fail
            go_region_held3 (fun wx => wx.cell? ⟨w1.heap.size, 0, none⟩ = some (.int .i64 t.kind) ∧ wx.cell? ⟨w1.heap.size, 1, none⟩ = some (.int .i64 t.color) ∧ wx.cell? ⟨w1.heap.size, 2, none⟩ = some (.int .i64 t.count) ∧ wx.cell? ⟨w1.heap.size, 3, none⟩ = some (.int .i64 t.shade) ∧ wx.cell? ⟨w1.heap.size, 4, none⟩ = some (.int .i64 t.dead) ∧ wx.cell? ⟨w1.heap.size, 5, none⟩ = some (.int .i64 t.ring) ∧ wx.cell? ⟨w1.heap.size, 6, none⟩ = some (.int .i64 t.owner))
              (first | exact ⟨Bt0, Bt1, Bt2, Bt3, Bt4, Bt5, Bt6⟩ | go_keep)
              (first | (go_at_call 170; ((repeat (first | rw [IntWalk.i64_in _ (by omega)] | rw [IntWalk.u32_in _ (by omega)]))); (with_reducible refine (tiParity_c (by with_reducible repeat (first | exact H1 | apply zha | apply zhd | apply zhn)) e4.out).mono ?_); (rintro _ w4 ⟨rfl, H4, K4⟩); (replace Bt := Blk.stays (by with_reducible repeat (first | exact Bt | apply zba | apply zbd | apply zbn)) K4 (GA.foot_far H1.top)); (clear Bt0 Bt1 Bt2 Bt3 Bt4 Bt5 Bt6); (have Bt0 : w4.cell? ⟨w1.heap.size, 0, none⟩ = some (.int .i64 t.kind) := Bt.cell 0); (have Bt1 : w4.cell? ⟨w1.heap.size, 1, none⟩ = some (.int .i64 t.color) := Bt.cell 1); (have Bt2 : w4.cell? ⟨w1.heap.size, 2, none⟩ = some (.int .i64 t.count) := Bt.cell 2); (have Bt3 : w4.cell? ⟨w1.heap.size, 3, none⟩ = some (.int .i64 t.shade) := Bt.cell 3); (have Bt4 : w4.cell? ⟨w1.heap.size, 4, none⟩ = some (.int .i64 t.dead) := Bt.cell 4); (have Bt5 : w4.cell? ⟨w1.heap.size, 5, none⟩ = some (.int .i64 t.ring) := Bt.cell 5); (have Bt6 : w4.cell? ⟨w1.heap.size, 6, none⟩ = some (.int .i64 t.owner) := Bt.cell 6)))
            go_wp2_with fail
            with_reducible refine (tiAt_c (by with_reducible repeat (first | exact H4 | apply zha | apply zhd | apply zhn)) e6.out).mono ?_
            rintro _ w6 ⟨rfl, H6, K6⟩
            replace Bt := Blk.stays (by with_reducible repeat (first | exact Bt | apply zba | apply zbd | apply zbn)) K6 (GA.foot_far H1.top)
            clear Bt0 Bt1 Bt2 Bt3 Bt4 Bt5 Bt6
            have Bt0 : w6.cell? ⟨w1.heap.size, 0, none⟩ = some (.int .i64 t.kind) := Bt.cell 0
            have Bt1 : w6.cell? ⟨w1.heap.size, 1, none⟩ = some (.int .i64 t.color) := Bt.cell 1
            have Bt2 : w6.cell? ⟨w1.heap.size, 2, none⟩ = some (.int .i64 t.count) := Bt.cell 2
            have Bt3 : w6.cell? ⟨w1.heap.size, 3, none⟩ = some (.int .i64 t.shade) := Bt.cell 3
            have Bt4 : w6.cell? ⟨w1.heap.size, 4, none⟩ = some (.int .i64 t.dead) := Bt.cell 4
            have Bt5 : w6.cell? ⟨w1.heap.size, 5, none⟩ = some (.int .i64 t.ring) := Bt.cell 5
            have Bt6 : w6.cell? ⟨w1.heap.size, 6, none⟩ = some (.int .i64 t.owner) := Bt.cell 6
            go_wp2_with fail
            with_reducible refine (tiPhase_c (by with_reducible repeat (first | exact H6 | apply zha | apply zhd | apply zhn)) e7.out).mono ?_
            rintro _ w7 ⟨rfl, H7, K7⟩
            replace Bt := Blk.stays (by with_reducible repeat (first | exact Bt | apply zba | apply zbd | apply zbn)) K7 (GA.foot_far H1.top)
            clear Bt0 Bt1 Bt2 Bt3 Bt4 Bt5 Bt6
            have Bt0 : w7.cell? ⟨w1.heap.size, 0, none⟩ = some (.int .i64 t.kind) := Bt.cell 0
            have Bt1 : w7.cell? ⟨w1.heap.size, 1, none⟩ = some (.int .i64 t.color) := Bt.cell 1
            have Bt2 : w7.cell? ⟨w1.heap.size, 2, none⟩ = some (.int .i64 t.count) := Bt.cell 2
            have Bt3 : w7.cell? ⟨w1.heap.size, 3, none⟩ = some (.int .i64 t.shade) := Bt.cell 3
            have Bt4 : w7.cell? ⟨w1.heap.size, 4, none⟩ = some (.int .i64 t.dead) := Bt.cell 4
            have Bt5 : w7.cell? ⟨w1.heap.size, 5, none⟩ = some (.int .i64 t.ring) := Bt.cell 5
            have Bt6 : w7.cell? ⟨w1.heap.size, 6, none⟩ = some (.int .i64 t.owner) := Bt.cell 6
            go_wp2_with fail
            go_ret
            exact ⟨by first | rfl | (simp; done) | (simp [*]; done), (by with_reducible repeat (first | exact H7 | apply zha | apply zhd | apply zhn)), by
              with_reducible repeat (first | apply zsa | apply zsd | apply zsn)
              refine Stays.trans ?_ K7
              with_reducible repeat (first | apply zsa | apply zsd | apply zsn)
              refine Stays.trans ?_ K6
              with_reducible repeat (first | apply zsa | apply zsd | apply zsn)
              refine Stays.trans ?_ K4
              with_reducible repeat (first | apply zsa | apply zsd | apply zsn)
              refine Stays.trans ?_ K1
              with_reducible repeat (first | apply zsa | apply zsd | apply zsn)
              exact Stays.refl _ _⟩
        · rw [if_neg c8] at e; have c8b : (ph == 1) = false := beq_eq_false_iff_ne.2 c8; have c8n : (ph != 1) = true := bne_iff_ne.2 c8
          obtain ⟨hv, rfl⟩ := GM.pure_eq e
          obtain rfl := hv
          go_enter Tryz.func100, Tryz.ntmps100
          go_wp2_with fail
          with_reducible refine (tiOf_c (by with_reducible repeat (first | exact H | apply zha | apply zhd | apply zhn)) e1.out).mono ?_
          rintro _ w1 ⟨rfl, H1, K1⟩
          have Bt := Blk.new w1 149 #[.int .i64 t.kind, .int .i64 t.color, .int .i64 t.count, .int .i64 t.shade, .int .i64 t.dead, .int .i64 t.ring, .int .i64 t.owner]
          have Bt0 : (w1.alloc (Obj.cells #[.int .i64 t.kind, .int .i64 t.color, .int .i64 t.count, .int .i64 t.shade, .int .i64 t.dead, .int .i64 t.ring, .int .i64 t.owner] 149)).cell? ⟨w1.heap.size, 0, none⟩ = some (.int .i64 t.kind) := Bt.cell 0
          have Bt1 : (w1.alloc (Obj.cells #[.int .i64 t.kind, .int .i64 t.color, .int .i64 t.count, .int .i64 t.shade, .int .i64 t.dead, .int .i64 t.ring, .int .i64 t.owner] 149)).cell? ⟨w1.heap.size, 1, none⟩ = some (.int .i64 t.color) := Bt.cell 1
          have Bt2 : (w1.alloc (Obj.cells #[.int .i64 t.kind, .int .i64 t.color, .int .i64 t.count, .int .i64 t.shade, .int .i64 t.dead, .int .i64 t.ring, .int .i64 t.owner] 149)).cell? ⟨w1.heap.size, 2, none⟩ = some (.int .i64 t.count) := Bt.cell 2
          have Bt3 : (w1.alloc (Obj.cells #[.int .i64 t.kind, .int .i64 t.color, .int .i64 t.count, .int .i64 t.shade, .int .i64 t.dead, .int .i64 t.ring, .int .i64 t.owner] 149)).cell? ⟨w1.heap.size, 3, none⟩ = some (.int .i64 t.shade) := Bt.cell 3
          have Bt4 : (w1.alloc (Obj.cells #[.int .i64 t.kind, .int .i64 t.color, .int .i64 t.count, .int .i64 t.shade, .int .i64 t.dead, .int .i64 t.ring, .int .i64 t.owner] 149)).cell? ⟨w1.heap.size, 4, none⟩ = some (.int .i64 t.dead) := Bt.cell 4
          have Bt5 : (w1.alloc (Obj.cells #[.int .i64 t.kind, .int .i64 t.color, .int .i64 t.count, .int .i64 t.shade, .int .i64 t.dead, .int .i64 t.ring, .int .i64 t.owner] 149)).cell? ⟨w1.heap.size, 5, none⟩ = some (.int .i64 t.ring) := Bt.cell 5
          have Bt6 : (w1.alloc (Obj.cells #[.int .i64 t.kind, .int .i64 t.color, .int .i64 t.count, .int .i64 t.shade, .int .i64 t.dead, .int .i64 t.ring, .int .i64 t.owner] 149)).cell? ⟨w1.heap.size, 6, none⟩ = some (.int .i64 t.owner) := Bt.cell 6
          go_wp2_with fail
          go_region_held3 (fun wx => wx.cell? ⟨w1.heap.size, 0, none⟩ = some (.int .i64 t.kind) ∧ wx.cell? ⟨w1.heap.size, 1, none⟩ = some (.int .i64 t.color) ∧ wx.cell? ⟨w1.heap.size, 2, none⟩ = some (.int .i64 t.count) ∧ wx.cell? ⟨w1.heap.size, 3, none⟩ = some (.int .i64 t.shade) ∧ wx.cell? ⟨w1.heap.size, 4, none⟩ = some (.int .i64 t.dead) ∧ wx.cell? ⟨w1.heap.size, 5, none⟩ = some (.int .i64 t.ring) ∧ wx.cell? ⟨w1.heap.size, 6, none⟩ = some (.int .i64 t.owner))
            (first | exact ⟨Bt0, Bt1, Bt2, Bt3, Bt4, Bt5, Bt6⟩ | go_keep)
            (first | (go_at_call 170; ((repeat (first | rw [IntWalk.i64_in _ (by omega)] | rw [IntWalk.u32_in _ (by omega)]))); (with_reducible refine (tiParity_c (by with_reducible repeat (first | exact H1 | apply zha | apply zhd | apply zhn)) e4.out).mono ?_); (rintro _ w4 ⟨rfl, H4, K4⟩); (replace Bt := Blk.stays (by with_reducible repeat (first | exact Bt | apply zba | apply zbd | apply zbn)) K4 (GA.foot_far H1.top)); (clear Bt0 Bt1 Bt2 Bt3 Bt4 Bt5 Bt6); (have Bt0 : w4.cell? ⟨w1.heap.size, 0, none⟩ = some (.int .i64 t.kind) := Bt.cell 0); (have Bt1 : w4.cell? ⟨w1.heap.size, 1, none⟩ = some (.int .i64 t.color) := Bt.cell 1); (have Bt2 : w4.cell? ⟨w1.heap.size, 2, none⟩ = some (.int .i64 t.count) := Bt.cell 2); (have Bt3 : w4.cell? ⟨w1.heap.size, 3, none⟩ = some (.int .i64 t.shade) := Bt.cell 3); (have Bt4 : w4.cell? ⟨w1.heap.size, 4, none⟩ = some (.int .i64 t.dead) := Bt.cell 4); (have Bt5 : w4.cell? ⟨w1.heap.size, 5, none⟩ = some (.int .i64 t.ring) := Bt.cell 5); (have Bt6 : w4.cell? ⟨w1.heap.size, 6, none⟩ = some (.int .i64 t.owner) := Bt.cell 6)))
          go_wp2_with fail
          with_reducible refine (tiAt_c (by with_reducible repeat (first | exact H4 | apply zha | apply zhd | apply zhn)) e6.out).mono ?_
          rintro _ w6 ⟨rfl, H6, K6⟩
          replace Bt := Blk.stays (by with_reducible repeat (first | exact Bt | apply zba | apply zbd | apply zbn)) K6 (GA.foot_far H1.top)
          clear Bt0 Bt1 Bt2 Bt3 Bt4 Bt5 Bt6
          have Bt0 : w6.cell? ⟨w1.heap.size, 0, none⟩ = some (.int .i64 t.kind) := Bt.cell 0
          have Bt1 : w6.cell? ⟨w1.heap.size, 1, none⟩ = some (.int .i64 t.color) := Bt.cell 1
          have Bt2 : w6.cell? ⟨w1.heap.size, 2, none⟩ = some (.int .i64 t.count) := Bt.cell 2
          have Bt3 : w6.cell? ⟨w1.heap.size, 3, none⟩ = some (.int .i64 t.shade) := Bt.cell 3
          have Bt4 : w6.cell? ⟨w1.heap.size, 4, none⟩ = some (.int .i64 t.dead) := Bt.cell 4
          have Bt5 : w6.cell? ⟨w1.heap.size, 5, none⟩ = some (.int .i64 t.ring) := Bt.cell 5
          have Bt6 : w6.cell? ⟨w1.heap.size, 6, none⟩ = some (.int .i64 t.owner) := Bt.cell 6
          go_wp2_with fail
          with_reducible refine (tiPhase_c (by with_reducible repeat (first | exact H6 | apply zha | apply zhd | apply zhn)) e7.out).mono ?_
          rintro _ w7 ⟨rfl, H7, K7⟩
          replace Bt := Blk.stays (by with_reducible repeat (first | exact Bt | apply zba | apply zbd | apply zbn)) K7 (GA.foot_far H1.top)
          clear Bt0 Bt1 Bt2 Bt3 Bt4 Bt5 Bt6
          have Bt0 : w7.cell? ⟨w1.heap.size, 0, none⟩ = some (.int .i64 t.kind) := Bt.cell 0
          have Bt1 : w7.cell? ⟨w1.heap.size, 1, none⟩ = some (.int .i64 t.color) := Bt.cell 1
          have Bt2 : w7.cell? ⟨w1.heap.size, 2, none⟩ = some (.int .i64 t.count) := Bt.cell 2
          have Bt3 : w7.cell? ⟨w1.heap.size, 3, none⟩ = some (.int .i64 t.shade) := Bt.cell 3
          have Bt4 : w7.cell? ⟨w1.heap.size, 4, none⟩ = some (.int .i64 t.dead) := Bt.cell 4
          have Bt5 : w7.cell? ⟨w1.heap.size, 5, none⟩ = some (.int .i64 t.ring) := Bt.cell 5
          have Bt6 : w7.cell? ⟨w1.heap.size, 6, none⟩ = some (.int .i64 t.owner) := Bt.cell 6
          go_wp2_with fail
          go_ret
          exact ⟨by first | rfl | (simp; done) | (simp [*]; done), (by with_reducible repeat (first | exact H7 | apply zha | apply zhd | apply zhn)), by
            with_reducible repeat (first | apply zsa | apply zsd | apply zsn)
            refine Stays.trans ?_ K7
            with_reducible repeat (first | apply zsa | apply zsd | apply zsn)
            refine Stays.trans ?_ K6
            with_reducible repeat (first | apply zsa | apply zsd | apply zsn)
            refine Stays.trans ?_ K4
            with_reducible repeat (first | apply zsa | apply zsd | apply zsn)
            refine Stays.trans ?_ K1
            with_reducible repeat (first | apply zsa | apply zsd | apply zsn)
            exact Stays.refl _ _⟩
  · rw [if_neg c2] at e; obtain rfl := eq_false_of_ne_true c2; clear c2
    obtain ⟨hv, rfl⟩ := GM.pure_eq e
    obtain rfl := hv
    go_enter Tryz.func100, Tryz.ntmps100
    go_wp2_with fail
    with_reducible refine (tiOf_c (by with_reducible repeat (first | exact H | apply zha | apply zhd | apply zhn)) e1.out).mono ?_
    rintro _ w1 ⟨rfl, H1, K1⟩
    have Bt := Blk.new w1 149 #[.int .i64 t.kind, .int .i64 t.color, .int .i64 t.count, .int .i64 t.shade, .int .i64 t.dead, .int .i64 t.ring, .int .i64 t.owner]
    go_wp2_with fail
    go_ret
    exact ⟨by first | rfl | (simp; done) | (simp [*]; done), (by with_reducible repeat (first | exact H1 | apply zha | apply zhd | apply zhn)), by
      with_reducible repeat (first | apply zsa | apply zsd | apply zsn)
      refine Stays.trans ?_ K1
      with_reducible repeat (first | apply zsa | apply zsd | apply zsn)
      exact Stays.refl _ _⟩

def tiLighten (r : Int) : GM Bool :=
  tiPhase >>= fun p =>
  if p = 1 then
    tiBlack r >>= fun bk =>
    if bk then
      pure false
    else
      obIs r >>= fun i =>
      if i then
        tiShadow r >>= fun n =>
        if n > 0 then
          SetWord (r - 1) 4 (n - 1) >>= fun z =>
          pure z
        else
          pure false
      else
        pure false
  else
    if p = 2 then
      tiBlack r >>= fun bk =>
      if bk then
        pure false
      else
        obIs r >>= fun i =>
        if i then
          tiShadow r >>= fun n =>
          if n > 0 then
            SetWord (r - 1) 4 (n - 1) >>= fun z =>
            pure z
          else
            pure false
        else
          pure false
    else
      pure false

theorem tiLighten_c {A : GA} {S : GS} {w : World} (H : Held A S w) {r : Int} {v0 : Bool} {T : GS} (e : tiLighten r S = (v0, T)) :
    Calls Tryz.prog 233 #[.pointer (some ⟨A.g, 0, none⟩), .int .i64 r] w (Did A w (.bool v0) T) := by
  unfold tiLighten at e
  have hn2 := H.ok.n2
  replace e := GM.bind_eq e; obtain ⟨p, S1, e1_, e⟩ := e; have e1 := Hd.mk e1_; clear e1_
  by_cases c2 : p = 1
  · rw [if_pos c2] at e; subst c2
    replace e := GM.bind_eq e; obtain ⟨bk, S3, e3_, e⟩ := e; have e3 := Hd.mk e3_; clear e3_
    by_cases c4 : bk = true
    · rw [if_pos c4] at e; subst c4
      obtain ⟨hv, rfl⟩ := GM.pure_eq e
      obtain rfl := hv
      go_enter Tryz.func233, Tryz.ntmps233
      go_wp2_with fail
      with_reducible refine (tiPhase_c (by with_reducible repeat (first | exact H | apply zha | apply zhd | apply zhn)) e1.out).mono ?_
      rintro _ w1 ⟨rfl, H1, K1⟩
      go_wp2_with fail
      with_reducible refine (tiBlack_c (by with_reducible repeat (first | exact H1 | apply zha | apply zhd | apply zhn)) e3.out).mono ?_
      rintro _ w3 ⟨rfl, H3, K3⟩
      go_wp2_with fail
      go_ret
      exact ⟨by first | rfl | (simp; done) | (simp [*]; done), (by with_reducible repeat (first | exact H3 | apply zha | apply zhd | apply zhn)), by
        with_reducible repeat (first | apply zsa | apply zsd | apply zsn)
        refine Stays.trans ?_ K3
        with_reducible repeat (first | apply zsa | apply zsd | apply zsn)
        refine Stays.trans ?_ K1
        with_reducible repeat (first | apply zsa | apply zsd | apply zsn)
        exact Stays.refl _ _⟩
    · rw [if_neg c4] at e; obtain rfl := eq_false_of_ne_true c4; clear c4
      replace e := GM.bind_eq e; obtain ⟨i, S5, e5_, e⟩ := e; have e5 := Hd.mk e5_; clear e5_
      by_cases c6 : i = true
      · rw [if_pos c6] at e; subst c6
        obtain ⟨hr0, hr1⟩ := obIs_true e5.out
        replace e := GM.bind_eq e; obtain ⟨n, S7, e7_, e⟩ := e; have e7 := Hd.mk e7_; clear e7_
        by_cases c8 : n > 0
        · rw [if_pos c8] at e
          replace e := GM.bind_eq e; obtain ⟨z, S9, e9_, e⟩ := e; have e9 := Hd.mk e9_; clear e9_
          obtain ⟨hv, rfl⟩ := GM.pure_eq e
          obtain rfl := hv
          go_enter Tryz.func233, Tryz.ntmps233
          go_wp2_with fail
          with_reducible refine (tiPhase_c (by with_reducible repeat (first | exact H | apply zha | apply zhd | apply zhn)) e1.out).mono ?_
          rintro _ w1 ⟨rfl, H1, K1⟩
          go_wp2_with fail
          with_reducible refine (tiBlack_c (by with_reducible repeat (first | exact H1 | apply zha | apply zhd | apply zhn)) e3.out).mono ?_
          rintro _ w3 ⟨rfl, H3, K3⟩
          go_wp2_with fail
          with_reducible refine (obIs_c (by with_reducible repeat (first | exact H3 | apply zha | apply zhd | apply zhn)) e5.out).mono ?_
          rintro _ w5 ⟨rfl, H5, K5⟩
          have hn4 := H3.ok.n2
          go_wp2_with fail
          with_reducible refine (tiShadow_c (by with_reducible repeat (first | exact H5 | apply zha | apply zhd | apply zhn)) e7.out).mono ?_
          rintro _ w7 ⟨⟨rfl, H7, K7⟩, rn0, rn1⟩
          go_wp2_with fail
          with_reducible refine (SetWord_c (by with_reducible repeat (first | exact H7 | apply zha | apply zhd | apply zhn)) (by omega) (by omega) e9.out).mono ?_
          rintro _ w9 ⟨rfl, H9, K9⟩
          go_wp2_with fail
          go_ret
          exact ⟨by first | rfl | (simp; done) | (simp [*]; done), (by with_reducible repeat (first | exact H9 | apply zha | apply zhd | apply zhn)), by
            with_reducible repeat (first | apply zsa | apply zsd | apply zsn)
            refine Stays.trans ?_ K9
            with_reducible repeat (first | apply zsa | apply zsd | apply zsn)
            refine Stays.trans ?_ K7
            with_reducible repeat (first | apply zsa | apply zsd | apply zsn)
            refine Stays.trans ?_ K5
            with_reducible repeat (first | apply zsa | apply zsd | apply zsn)
            refine Stays.trans ?_ K3
            with_reducible repeat (first | apply zsa | apply zsd | apply zsn)
            refine Stays.trans ?_ K1
            with_reducible repeat (first | apply zsa | apply zsd | apply zsn)
            exact Stays.refl _ _⟩
        · rw [if_neg c8] at e
          obtain ⟨hv, rfl⟩ := GM.pure_eq e
          obtain rfl := hv
          go_enter Tryz.func233, Tryz.ntmps233
          go_wp2_with fail
          with_reducible refine (tiPhase_c (by with_reducible repeat (first | exact H | apply zha | apply zhd | apply zhn)) e1.out).mono ?_
          rintro _ w1 ⟨rfl, H1, K1⟩
          go_wp2_with fail
          with_reducible refine (tiBlack_c (by with_reducible repeat (first | exact H1 | apply zha | apply zhd | apply zhn)) e3.out).mono ?_
          rintro _ w3 ⟨rfl, H3, K3⟩
          go_wp2_with fail
          with_reducible refine (obIs_c (by with_reducible repeat (first | exact H3 | apply zha | apply zhd | apply zhn)) e5.out).mono ?_
          rintro _ w5 ⟨rfl, H5, K5⟩
          have hn4 := H3.ok.n2
          go_wp2_with fail
          with_reducible refine (tiShadow_c (by with_reducible repeat (first | exact H5 | apply zha | apply zhd | apply zhn)) e7.out).mono ?_
          rintro _ w7 ⟨⟨rfl, H7, K7⟩, rn0, rn1⟩
          go_wp2_with fail
          go_ret
          exact ⟨by first | rfl | (simp; done) | (simp [*]; done), (by with_reducible repeat (first | exact H7 | apply zha | apply zhd | apply zhn)), by
            with_reducible repeat (first | apply zsa | apply zsd | apply zsn)
            refine Stays.trans ?_ K7
            with_reducible repeat (first | apply zsa | apply zsd | apply zsn)
            refine Stays.trans ?_ K5
            with_reducible repeat (first | apply zsa | apply zsd | apply zsn)
            refine Stays.trans ?_ K3
            with_reducible repeat (first | apply zsa | apply zsd | apply zsn)
            refine Stays.trans ?_ K1
            with_reducible repeat (first | apply zsa | apply zsd | apply zsn)
            exact Stays.refl _ _⟩
      · rw [if_neg c6] at e; obtain rfl := eq_false_of_ne_true c6; clear c6
        obtain ⟨hv, rfl⟩ := GM.pure_eq e
        obtain rfl := hv
        go_enter Tryz.func233, Tryz.ntmps233
        go_wp2_with fail
        with_reducible refine (tiPhase_c (by with_reducible repeat (first | exact H | apply zha | apply zhd | apply zhn)) e1.out).mono ?_
        rintro _ w1 ⟨rfl, H1, K1⟩
        go_wp2_with fail
        with_reducible refine (tiBlack_c (by with_reducible repeat (first | exact H1 | apply zha | apply zhd | apply zhn)) e3.out).mono ?_
        rintro _ w3 ⟨rfl, H3, K3⟩
        go_wp2_with fail
        with_reducible refine (obIs_c (by with_reducible repeat (first | exact H3 | apply zha | apply zhd | apply zhn)) e5.out).mono ?_
        rintro _ w5 ⟨rfl, H5, K5⟩
        have hn4 := H3.ok.n2
        go_wp2_with fail
        go_ret
        exact ⟨by first | rfl | (simp; done) | (simp [*]; done), (by with_reducible repeat (first | exact H5 | apply zha | apply zhd | apply zhn)), by
          with_reducible repeat (first | apply zsa | apply zsd | apply zsn)
          refine Stays.trans ?_ K5
          with_reducible repeat (first | apply zsa | apply zsd | apply zsn)
          refine Stays.trans ?_ K3
          with_reducible repeat (first | apply zsa | apply zsd | apply zsn)
          refine Stays.trans ?_ K1
          with_reducible repeat (first | apply zsa | apply zsd | apply zsn)
          exact Stays.refl _ _⟩
  · rw [if_neg c2] at e; have c2b : (p == 1) = false := beq_eq_false_iff_ne.2 c2; have c2n : (p != 1) = true := bne_iff_ne.2 c2
    by_cases c3 : p = 2
    · rw [if_pos c3] at e; subst c3
      replace e := GM.bind_eq e; obtain ⟨bk, S4, e4_, e⟩ := e; have e4 := Hd.mk e4_; clear e4_
      by_cases c5 : bk = true
      · rw [if_pos c5] at e; subst c5
        obtain ⟨hv, rfl⟩ := GM.pure_eq e
        obtain rfl := hv
        go_enter Tryz.func233, Tryz.ntmps233
        go_wp2_with fail
        with_reducible refine (tiPhase_c (by with_reducible repeat (first | exact H | apply zha | apply zhd | apply zhn)) e1.out).mono ?_
        rintro _ w1 ⟨rfl, H1, K1⟩
        go_wp2_with fail
        with_reducible refine (tiBlack_c (by with_reducible repeat (first | exact H1 | apply zha | apply zhd | apply zhn)) e4.out).mono ?_
        rintro _ w4 ⟨rfl, H4, K4⟩
        go_wp2_with fail
        go_ret
        exact ⟨by first | rfl | (simp; done) | (simp [*]; done), (by with_reducible repeat (first | exact H4 | apply zha | apply zhd | apply zhn)), by
          with_reducible repeat (first | apply zsa | apply zsd | apply zsn)
          refine Stays.trans ?_ K4
          with_reducible repeat (first | apply zsa | apply zsd | apply zsn)
          refine Stays.trans ?_ K1
          with_reducible repeat (first | apply zsa | apply zsd | apply zsn)
          exact Stays.refl _ _⟩
      · rw [if_neg c5] at e; obtain rfl := eq_false_of_ne_true c5; clear c5
        replace e := GM.bind_eq e; obtain ⟨i, S6, e6_, e⟩ := e; have e6 := Hd.mk e6_; clear e6_
        by_cases c7 : i = true
        · rw [if_pos c7] at e; subst c7
          obtain ⟨hr0, hr1⟩ := obIs_true e6.out
          replace e := GM.bind_eq e; obtain ⟨n, S8, e8_, e⟩ := e; have e8 := Hd.mk e8_; clear e8_
          by_cases c9 : n > 0
          · rw [if_pos c9] at e
            replace e := GM.bind_eq e; obtain ⟨z, S10, e10_, e⟩ := e; have e10 := Hd.mk e10_; clear e10_
            obtain ⟨hv, rfl⟩ := GM.pure_eq e
            obtain rfl := hv
            go_enter Tryz.func233, Tryz.ntmps233
            go_wp2_with fail
            with_reducible refine (tiPhase_c (by with_reducible repeat (first | exact H | apply zha | apply zhd | apply zhn)) e1.out).mono ?_
            rintro _ w1 ⟨rfl, H1, K1⟩
            go_wp2_with fail
            with_reducible refine (tiBlack_c (by with_reducible repeat (first | exact H1 | apply zha | apply zhd | apply zhn)) e4.out).mono ?_
            rintro _ w4 ⟨rfl, H4, K4⟩
            go_wp2_with fail
            with_reducible refine (obIs_c (by with_reducible repeat (first | exact H4 | apply zha | apply zhd | apply zhn)) e6.out).mono ?_
            rintro _ w6 ⟨rfl, H6, K6⟩
            have hn4 := H4.ok.n2
            go_wp2_with fail
            with_reducible refine (tiShadow_c (by with_reducible repeat (first | exact H6 | apply zha | apply zhd | apply zhn)) e8.out).mono ?_
            rintro _ w8 ⟨⟨rfl, H8, K8⟩, rn0, rn1⟩
            go_wp2_with fail
            with_reducible refine (SetWord_c (by with_reducible repeat (first | exact H8 | apply zha | apply zhd | apply zhn)) (by omega) (by omega) e10.out).mono ?_
            rintro _ w10 ⟨rfl, H10, K10⟩
            go_wp2_with fail
            go_ret
            exact ⟨by first | rfl | (simp; done) | (simp [*]; done), (by with_reducible repeat (first | exact H10 | apply zha | apply zhd | apply zhn)), by
              with_reducible repeat (first | apply zsa | apply zsd | apply zsn)
              refine Stays.trans ?_ K10
              with_reducible repeat (first | apply zsa | apply zsd | apply zsn)
              refine Stays.trans ?_ K8
              with_reducible repeat (first | apply zsa | apply zsd | apply zsn)
              refine Stays.trans ?_ K6
              with_reducible repeat (first | apply zsa | apply zsd | apply zsn)
              refine Stays.trans ?_ K4
              with_reducible repeat (first | apply zsa | apply zsd | apply zsn)
              refine Stays.trans ?_ K1
              with_reducible repeat (first | apply zsa | apply zsd | apply zsn)
              exact Stays.refl _ _⟩
          · rw [if_neg c9] at e
            obtain ⟨hv, rfl⟩ := GM.pure_eq e
            obtain rfl := hv
            go_enter Tryz.func233, Tryz.ntmps233
            go_wp2_with fail
            with_reducible refine (tiPhase_c (by with_reducible repeat (first | exact H | apply zha | apply zhd | apply zhn)) e1.out).mono ?_
            rintro _ w1 ⟨rfl, H1, K1⟩
            go_wp2_with fail
            with_reducible refine (tiBlack_c (by with_reducible repeat (first | exact H1 | apply zha | apply zhd | apply zhn)) e4.out).mono ?_
            rintro _ w4 ⟨rfl, H4, K4⟩
            go_wp2_with fail
            with_reducible refine (obIs_c (by with_reducible repeat (first | exact H4 | apply zha | apply zhd | apply zhn)) e6.out).mono ?_
            rintro _ w6 ⟨rfl, H6, K6⟩
            have hn4 := H4.ok.n2
            go_wp2_with fail
            with_reducible refine (tiShadow_c (by with_reducible repeat (first | exact H6 | apply zha | apply zhd | apply zhn)) e8.out).mono ?_
            rintro _ w8 ⟨⟨rfl, H8, K8⟩, rn0, rn1⟩
            go_wp2_with fail
            go_ret
            exact ⟨by first | rfl | (simp; done) | (simp [*]; done), (by with_reducible repeat (first | exact H8 | apply zha | apply zhd | apply zhn)), by
              with_reducible repeat (first | apply zsa | apply zsd | apply zsn)
              refine Stays.trans ?_ K8
              with_reducible repeat (first | apply zsa | apply zsd | apply zsn)
              refine Stays.trans ?_ K6
              with_reducible repeat (first | apply zsa | apply zsd | apply zsn)
              refine Stays.trans ?_ K4
              with_reducible repeat (first | apply zsa | apply zsd | apply zsn)
              refine Stays.trans ?_ K1
              with_reducible repeat (first | apply zsa | apply zsd | apply zsn)
              exact Stays.refl _ _⟩
        · rw [if_neg c7] at e; obtain rfl := eq_false_of_ne_true c7; clear c7
          obtain ⟨hv, rfl⟩ := GM.pure_eq e
          obtain rfl := hv
          go_enter Tryz.func233, Tryz.ntmps233
          go_wp2_with fail
          with_reducible refine (tiPhase_c (by with_reducible repeat (first | exact H | apply zha | apply zhd | apply zhn)) e1.out).mono ?_
          rintro _ w1 ⟨rfl, H1, K1⟩
          go_wp2_with fail
          with_reducible refine (tiBlack_c (by with_reducible repeat (first | exact H1 | apply zha | apply zhd | apply zhn)) e4.out).mono ?_
          rintro _ w4 ⟨rfl, H4, K4⟩
          go_wp2_with fail
          with_reducible refine (obIs_c (by with_reducible repeat (first | exact H4 | apply zha | apply zhd | apply zhn)) e6.out).mono ?_
          rintro _ w6 ⟨rfl, H6, K6⟩
          have hn4 := H4.ok.n2
          go_wp2_with fail
          go_ret
          exact ⟨by first | rfl | (simp; done) | (simp [*]; done), (by with_reducible repeat (first | exact H6 | apply zha | apply zhd | apply zhn)), by
            with_reducible repeat (first | apply zsa | apply zsd | apply zsn)
            refine Stays.trans ?_ K6
            with_reducible repeat (first | apply zsa | apply zsd | apply zsn)
            refine Stays.trans ?_ K4
            with_reducible repeat (first | apply zsa | apply zsd | apply zsn)
            refine Stays.trans ?_ K1
            with_reducible repeat (first | apply zsa | apply zsd | apply zsn)
            exact Stays.refl _ _⟩
    · rw [if_neg c3] at e; have c3b : (p == 2) = false := beq_eq_false_iff_ne.2 c3; have c3n : (p != 2) = true := bne_iff_ne.2 c3
      obtain ⟨hv, rfl⟩ := GM.pure_eq e
      obtain rfl := hv
      go_enter Tryz.func233, Tryz.ntmps233
      go_wp2_with fail
      with_reducible refine (tiPhase_c (by with_reducible repeat (first | exact H | apply zha | apply zhd | apply zhn)) e1.out).mono ?_
      rintro _ w1 ⟨rfl, H1, K1⟩
      go_wp2_with fail
      go_ret
      exact ⟨by first | rfl | (simp; done) | (simp [*]; done), (by with_reducible repeat (first | exact H1 | apply zha | apply zhd | apply zhn)), by
        with_reducible repeat (first | apply zsa | apply zsd | apply zsn)
        refine Stays.trans ?_ K1
        with_reducible repeat (first | apply zsa | apply zsd | apply zsn)
        exact Stays.refl _ _⟩
end Go.Proofs.YtadhdjldcpkfiaaGreatDoor
