/- What the operations on a heap do. Nothing is asked but that the ground lies there, and the heap's own block. -/
import Derived.Test.YtadhdjldcpkfiaaGreatDoorHa
namespace Go.Proofs.YtadhdjldcpkfiaaGreatDoor
set_option linter.unusedVariables false
set_option linter.unusedSimpArgs false
open Go.RowKit
set_option maxRecDepth 100000
set_option maxHeartbeats 1600000
def hAlloc (s : Int) (p : Int) (d : Int) : GM Int :=
  hSl1 s >>= fun es =>
  if es = 0 then
    getS >>= fun c =>
    pure (shBlocks c.w p d) >>= fun ⟨n, e2⟩ =>
    if e2 = 0 then
      poLen >>= fun a =>
      gvPending >>= fun p2 =>
      if a + p2 < n then
        pure 4
      else
        paFree n >>= fun _ =>
        lkBorn p d >>= fun ⟨q, e3⟩ =>
        if e3 = 0 then
          hSet s q >>= fun _ =>
          hPay 1 n >>= fun pe =>
          pure pe
        else
          pure e3
    else
      pure e2
  else
    pure es

theorem hAlloc_c {A : GA} {S : GS} {w : World} (H : Held A S w) {s : Int} {p : Int} {d : Int} {v0 : Int} {hb : Nat} (hf : ¬ A.foot hb) (Bh : Blk w hb 128 #[.pointer (some ⟨A.g, 0, none⟩)]) {T : GS} (e : hAlloc s p d S = (v0, T)) :
    Calls Tryz.prog 131 #[.pointer (some ⟨hb, 0, none⟩), .int .i64 s, .int .i64 p, .int .i64 d] w (Did A w (.int .i64 v0) T) := by
  unfold hAlloc at e
  replace e := GM.bind_eq e; obtain ⟨es, S1, e1_, e⟩ := e; have e1 := Hd.mk e1_; clear e1_
  by_cases c2 : es = 0
  · rw [if_pos c2] at e; subst c2
    replace e := GM.bind_eq e; obtain ⟨c, S3, e3, e⟩ := e
    obtain ⟨rfl, rfl⟩ := getS_eq e3
    replace e := GM.bind_eq e; obtain ⟨⟨n, e2⟩, S4, e4_, e⟩ := e; have e4 := Hd.mk e4_; clear e4_
    try dsimp only at e
    by_cases c5 : e2 = 0
    · rw [if_pos c5] at e; subst c5
      replace e := GM.bind_eq e; obtain ⟨a, S6, e6_, e⟩ := e; have e6 := Hd.mk e6_; clear e6_
      replace e := GM.bind_eq e; obtain ⟨p2, S7, e7_, e⟩ := e; have e7 := Hd.mk e7_; clear e7_
      by_cases c8 : a + p2 < n
      · rw [if_pos c8] at e
        obtain ⟨hv, rfl⟩ := GM.pure_eq e
        obtain rfl := hv
        go_enter Tryz.func131, Tryz.ntmps131
        have Bh0 : w.cell? ⟨hb, 0, none⟩ = some (.pointer (some ⟨A.g, 0, none⟩)) := Bh.cell 0
        have Bl := Blk.new w 3 #[.int .i64 s]
        replace Bh := Bh.alloc (Obj.cells #[.int .i64 s] 3)
        have Bh0 : (w.alloc (Obj.cells #[.int .i64 s] 3)).cell? ⟨hb, 0, none⟩ = some (.pointer (some ⟨A.g, 0, none⟩)) := Bh.cell 0
        go_wp2_with fail
        with_reducible refine (hSl1_c (by with_reducible repeat (first | exact H | apply zha | apply zhd | apply zhn)) hf (by with_reducible repeat (first | exact Bh | apply zba | apply zbd | apply zbn)) (GA.foot_far H.top) (by with_reducible repeat (first | exact Bl | apply zba | apply zbd | apply zbn)) e1.out).mono ?_
        rintro _ w1 ⟨rfl, H1, K1⟩
        replace Bh := Blk.stays (by with_reducible repeat (first | exact Bh | apply zba | apply zbd | apply zbn)) K1 hf
        clear Bh0
        have Bh0 : w1.cell? ⟨hb, 0, none⟩ = some (.pointer (some ⟨A.g, 0, none⟩)) := Bh.cell 0
        replace Bl := Blk.stays (by with_reducible repeat (first | exact Bl | apply zba | apply zbd | apply zbn)) K1 (GA.foot_far H.top)
        have Bl0 : w1.cell? ⟨w.heap.size, 0, none⟩ = some (.int .i64 s) := Bl.cell 0
        go_wp2_with fail
        refine (conf_c (by with_reducible repeat (first | exact H1 | apply zha | apply zhd | apply zhn))).mono ?_
        rintro _ w3 ⟨rfl, H3, K3⟩
        replace Bh := Blk.stays (by with_reducible repeat (first | exact Bh | apply zba | apply zbd | apply zbn)) K3 hf
        clear Bh0
        have Bh0 : w3.cell? ⟨hb, 0, none⟩ = some (.pointer (some ⟨A.g, 0, none⟩)) := Bh.cell 0
        replace Bl := Blk.stays (by with_reducible repeat (first | exact Bl | apply zba | apply zbd | apply zbn)) K3 (GA.foot_far H.top)
        clear Bl0
        have Bl0 : w3.cell? ⟨w.heap.size, 0, none⟩ = some (.int .i64 s) := Bl.cell 0
        go_wp2_with fail
        with_reducible refine (Blocks_p (by with_reducible repeat (first | exact H3 | apply zha | apply zhd | apply zhn)) e4.out).mono ?_
        rintro _ w4 ⟨rfl, H4, K4⟩
        obtain ⟨rn0, rn1⟩ := shBlocks_range H3.ok.w1 H3.ok.w2 (GM.pure_eq e4.out).1
        replace Bh := Blk.stays (by with_reducible repeat (first | exact Bh | apply zba | apply zbd | apply zbn)) K4 hf
        clear Bh0
        have Bh0 : w4.cell? ⟨hb, 0, none⟩ = some (.pointer (some ⟨A.g, 0, none⟩)) := Bh.cell 0
        replace Bl := Blk.stays (by with_reducible repeat (first | exact Bl | apply zba | apply zbd | apply zbn)) K4 (GA.foot_far H.top)
        clear Bl0
        have Bl0 : w4.cell? ⟨w.heap.size, 0, none⟩ = some (.int .i64 s) := Bl.cell 0
        go_wp2_with fail
        go_region_held3 (fun wx => wx.cell? ⟨hb, 0, none⟩ = some (.pointer (some ⟨A.g, 0, none⟩)) ∧ wx.cell? ⟨w.heap.size, 0, none⟩ = some (.int .i64 s))
          (first | exact ⟨Bh0, Bl0⟩ | go_keep)
          (first | (go_at_call 116; (repeat (first | rw [IntWalk.i64_in _ (by omega)] | rw [IntWalk.u32_in _ (by omega)])); (with_reducible refine (poLen_c (by with_reducible repeat (first | exact H4 | apply zha | apply zhd | apply zhn)) e6.out).mono ?_); (rintro _ w6 ⟨rfl, H6, K6⟩); obtain ⟨ra0, ra1⟩ := poLen_range (H4).ok e6.out; replace Bh := Blk.stays (by with_reducible repeat (first | exact Bh | apply zba | apply zbd | apply zbn)) K6 hf; clear Bh0; have Bh0 : w6.cell? ⟨hb, 0, none⟩ = some (.pointer (some ⟨A.g, 0, none⟩)) := Bh.cell 0; replace Bl := Blk.stays (by with_reducible repeat (first | exact Bl | apply zba | apply zbd | apply zbn)) K6 (GA.foot_far H.top); clear Bl0; have Bl0 : w6.cell? ⟨w.heap.size, 0, none⟩ = some (.int .i64 s) := Bl.cell 0) | (go_at_call 35; (repeat (first | rw [IntWalk.i64_in _ (by omega)] | rw [IntWalk.u32_in _ (by omega)])); (with_reducible refine (gvPendingD_c (by with_reducible repeat (first | exact H6 | apply zha | apply zhd | apply zhn)) e7.out).mono ?_); (rintro _ w7 ⟨rfl, H7, K7⟩); obtain ⟨rp0, rp1⟩ := gvPending_range (H6).ok e7.out; have hwr : IntKind.i64.wrap (a + p2) = a + p2 := IntWalk.i64_in _ (by omega); replace Bh := Blk.stays (by with_reducible repeat (first | exact Bh | apply zba | apply zbd | apply zbn)) K7 hf; clear Bh0; have Bh0 : w7.cell? ⟨hb, 0, none⟩ = some (.pointer (some ⟨A.g, 0, none⟩)) := Bh.cell 0; replace Bl := Blk.stays (by with_reducible repeat (first | exact Bl | apply zba | apply zbd | apply zbn)) K7 (GA.foot_far H.top); clear Bl0; have Bl0 : w7.cell? ⟨w.heap.size, 0, none⟩ = some (.int .i64 s) := Bl.cell 0))
        go_wp2_with fail
        go_ret
        exact ⟨by first | rfl | (simp; done) | (simp [*]; done), (by with_reducible repeat (first | exact H7 | apply zha | apply zhd | apply zhn)), by
          with_reducible repeat (first | apply zsa | apply zsd | apply zsn)
          refine Stays.trans ?_ K7
          with_reducible repeat (first | apply zsa | apply zsd | apply zsn)
          refine Stays.trans ?_ K6
          with_reducible repeat (first | apply zsa | apply zsd | apply zsn)
          refine Stays.trans ?_ K4
          with_reducible repeat (first | apply zsa | apply zsd | apply zsn)
          refine Stays.trans ?_ K3
          with_reducible repeat (first | apply zsa | apply zsd | apply zsn)
          refine Stays.trans ?_ K1
          with_reducible repeat (first | apply zsa | apply zsd | apply zsn)
          exact Stays.refl _ _⟩
      · rw [if_neg c8] at e
        replace e := GM.bind_eq e; obtain ⟨u9, S9, e9_, e⟩ := e; have e9 := Hd.mk e9_; clear e9_
        replace e := GM.bind_eq e; obtain ⟨⟨q, e3⟩, S10, e10_, e⟩ := e; have e10 := Hd.mk e10_; clear e10_
        try dsimp only at e
        by_cases c11 : e3 = 0
        · rw [if_pos c11] at e; subst c11
          replace e := GM.bind_eq e; obtain ⟨u12, S12, e12_, e⟩ := e; have e12 := Hd.mk e12_; clear e12_
          replace e := GM.bind_eq e; obtain ⟨pe, S13, e13_, e⟩ := e; have e13 := Hd.mk e13_; clear e13_
          obtain ⟨hv, rfl⟩ := GM.pure_eq e
          obtain rfl := hv
          go_enter Tryz.func131, Tryz.ntmps131
          have Bh0 : w.cell? ⟨hb, 0, none⟩ = some (.pointer (some ⟨A.g, 0, none⟩)) := Bh.cell 0
          have Bl := Blk.new w 3 #[.int .i64 s]
          replace Bh := Bh.alloc (Obj.cells #[.int .i64 s] 3)
          have Bh0 : (w.alloc (Obj.cells #[.int .i64 s] 3)).cell? ⟨hb, 0, none⟩ = some (.pointer (some ⟨A.g, 0, none⟩)) := Bh.cell 0
          go_wp2_with fail
          with_reducible refine (hSl1_c (by with_reducible repeat (first | exact H | apply zha | apply zhd | apply zhn)) hf (by with_reducible repeat (first | exact Bh | apply zba | apply zbd | apply zbn)) (GA.foot_far H.top) (by with_reducible repeat (first | exact Bl | apply zba | apply zbd | apply zbn)) e1.out).mono ?_
          rintro _ w1 ⟨rfl, H1, K1⟩
          replace Bh := Blk.stays (by with_reducible repeat (first | exact Bh | apply zba | apply zbd | apply zbn)) K1 hf
          clear Bh0
          have Bh0 : w1.cell? ⟨hb, 0, none⟩ = some (.pointer (some ⟨A.g, 0, none⟩)) := Bh.cell 0
          replace Bl := Blk.stays (by with_reducible repeat (first | exact Bl | apply zba | apply zbd | apply zbn)) K1 (GA.foot_far H.top)
          have Bl0 : w1.cell? ⟨w.heap.size, 0, none⟩ = some (.int .i64 s) := Bl.cell 0
          go_wp2_with fail
          refine (conf_c (by with_reducible repeat (first | exact H1 | apply zha | apply zhd | apply zhn))).mono ?_
          rintro _ w3 ⟨rfl, H3, K3⟩
          replace Bh := Blk.stays (by with_reducible repeat (first | exact Bh | apply zba | apply zbd | apply zbn)) K3 hf
          clear Bh0
          have Bh0 : w3.cell? ⟨hb, 0, none⟩ = some (.pointer (some ⟨A.g, 0, none⟩)) := Bh.cell 0
          replace Bl := Blk.stays (by with_reducible repeat (first | exact Bl | apply zba | apply zbd | apply zbn)) K3 (GA.foot_far H.top)
          clear Bl0
          have Bl0 : w3.cell? ⟨w.heap.size, 0, none⟩ = some (.int .i64 s) := Bl.cell 0
          go_wp2_with fail
          with_reducible refine (Blocks_p (by with_reducible repeat (first | exact H3 | apply zha | apply zhd | apply zhn)) e4.out).mono ?_
          rintro _ w4 ⟨rfl, H4, K4⟩
          obtain ⟨rn0, rn1⟩ := shBlocks_range H3.ok.w1 H3.ok.w2 (GM.pure_eq e4.out).1
          replace Bh := Blk.stays (by with_reducible repeat (first | exact Bh | apply zba | apply zbd | apply zbn)) K4 hf
          clear Bh0
          have Bh0 : w4.cell? ⟨hb, 0, none⟩ = some (.pointer (some ⟨A.g, 0, none⟩)) := Bh.cell 0
          replace Bl := Blk.stays (by with_reducible repeat (first | exact Bl | apply zba | apply zbd | apply zbn)) K4 (GA.foot_far H.top)
          clear Bl0
          have Bl0 : w4.cell? ⟨w.heap.size, 0, none⟩ = some (.int .i64 s) := Bl.cell 0
          go_wp2_with fail
          go_region_held3 (fun wx => wx.cell? ⟨hb, 0, none⟩ = some (.pointer (some ⟨A.g, 0, none⟩)) ∧ wx.cell? ⟨w.heap.size, 0, none⟩ = some (.int .i64 s))
            (first | exact ⟨Bh0, Bl0⟩ | go_keep)
            (first | (go_at_call 116; (repeat (first | rw [IntWalk.i64_in _ (by omega)] | rw [IntWalk.u32_in _ (by omega)])); (with_reducible refine (poLen_c (by with_reducible repeat (first | exact H4 | apply zha | apply zhd | apply zhn)) e6.out).mono ?_); (rintro _ w6 ⟨rfl, H6, K6⟩); obtain ⟨ra0, ra1⟩ := poLen_range (H4).ok e6.out; replace Bh := Blk.stays (by with_reducible repeat (first | exact Bh | apply zba | apply zbd | apply zbn)) K6 hf; clear Bh0; have Bh0 : w6.cell? ⟨hb, 0, none⟩ = some (.pointer (some ⟨A.g, 0, none⟩)) := Bh.cell 0; replace Bl := Blk.stays (by with_reducible repeat (first | exact Bl | apply zba | apply zbd | apply zbn)) K6 (GA.foot_far H.top); clear Bl0; have Bl0 : w6.cell? ⟨w.heap.size, 0, none⟩ = some (.int .i64 s) := Bl.cell 0) | (go_at_call 35; (repeat (first | rw [IntWalk.i64_in _ (by omega)] | rw [IntWalk.u32_in _ (by omega)])); (with_reducible refine (gvPendingD_c (by with_reducible repeat (first | exact H6 | apply zha | apply zhd | apply zhn)) e7.out).mono ?_); (rintro _ w7 ⟨rfl, H7, K7⟩); obtain ⟨rp0, rp1⟩ := gvPending_range (H6).ok e7.out; have hwr : IntKind.i64.wrap (a + p2) = a + p2 := IntWalk.i64_in _ (by omega); replace Bh := Blk.stays (by with_reducible repeat (first | exact Bh | apply zba | apply zbd | apply zbn)) K7 hf; clear Bh0; have Bh0 : w7.cell? ⟨hb, 0, none⟩ = some (.pointer (some ⟨A.g, 0, none⟩)) := Bh.cell 0; replace Bl := Blk.stays (by with_reducible repeat (first | exact Bl | apply zba | apply zbd | apply zbn)) K7 (GA.foot_far H.top); clear Bl0; have Bl0 : w7.cell? ⟨w.heap.size, 0, none⟩ = some (.int .i64 s) := Bl.cell 0))
          go_wp2_with fail
          with_reducible refine (paFree_c (by with_reducible repeat (first | exact H7 | apply zha | apply zhd | apply zhn)) (by omega) e9.out).mono ?_
          rintro _ w9 ⟨rfl, H9, K9⟩
          replace Bh := Blk.stays (by with_reducible repeat (first | exact Bh | apply zba | apply zbd | apply zbn)) K9 hf
          clear Bh0
          have Bh0 : w9.cell? ⟨hb, 0, none⟩ = some (.pointer (some ⟨A.g, 0, none⟩)) := Bh.cell 0
          replace Bl := Blk.stays (by with_reducible repeat (first | exact Bl | apply zba | apply zbd | apply zbn)) K9 (GA.foot_far H.top)
          clear Bl0
          have Bl0 : w9.cell? ⟨w.heap.size, 0, none⟩ = some (.int .i64 s) := Bl.cell 0
          go_wp2_with fail
          with_reducible refine (lkBorn_c (by with_reducible repeat (first | exact H9 | apply zha | apply zhd | apply zhn)) e10.out).mono ?_
          rintro _ w10 ⟨rfl, H10, K10⟩
          replace Bh := Blk.stays (by with_reducible repeat (first | exact Bh | apply zba | apply zbd | apply zbn)) K10 hf
          clear Bh0
          have Bh0 : w10.cell? ⟨hb, 0, none⟩ = some (.pointer (some ⟨A.g, 0, none⟩)) := Bh.cell 0
          replace Bl := Blk.stays (by with_reducible repeat (first | exact Bl | apply zba | apply zbd | apply zbn)) K10 (GA.foot_far H.top)
          clear Bl0
          have Bl0 : w10.cell? ⟨w.heap.size, 0, none⟩ = some (.int .i64 s) := Bl.cell 0
          go_wp2_with fail
          with_reducible refine (hSet_c (by with_reducible repeat (first | exact H10 | apply zha | apply zhd | apply zhn)) hf (by with_reducible repeat (first | exact Bh | apply zba | apply zbd | apply zbn)) e12.out).mono ?_
          rintro _ w12 ⟨rfl, H12, K12⟩
          replace Bh := Blk.stays (by with_reducible repeat (first | exact Bh | apply zba | apply zbd | apply zbn)) K12 hf
          clear Bh0
          have Bh0 : w12.cell? ⟨hb, 0, none⟩ = some (.pointer (some ⟨A.g, 0, none⟩)) := Bh.cell 0
          replace Bl := Blk.stays (by with_reducible repeat (first | exact Bl | apply zba | apply zbd | apply zbn)) K12 (GA.foot_far H.top)
          clear Bl0
          have Bl0 : w12.cell? ⟨w.heap.size, 0, none⟩ = some (.int .i64 s) := Bl.cell 0
          go_wp2_with fail
          with_reducible refine (hPay_c (by with_reducible repeat (first | exact H12 | apply zha | apply zhd | apply zhn)) hf (by with_reducible repeat (first | exact Bh | apply zba | apply zbd | apply zbn)) e13.out).mono ?_
          rintro _ w13 ⟨rfl, H13, K13⟩
          replace Bh := Blk.stays (by with_reducible repeat (first | exact Bh | apply zba | apply zbd | apply zbn)) K13 hf
          clear Bh0
          have Bh0 : w13.cell? ⟨hb, 0, none⟩ = some (.pointer (some ⟨A.g, 0, none⟩)) := Bh.cell 0
          replace Bl := Blk.stays (by with_reducible repeat (first | exact Bl | apply zba | apply zbd | apply zbn)) K13 (GA.foot_far H.top)
          clear Bl0
          have Bl0 : w13.cell? ⟨w.heap.size, 0, none⟩ = some (.int .i64 s) := Bl.cell 0
          go_wp2_with fail
          go_ret
          exact ⟨by first | rfl | (simp; done) | (simp [*]; done), (by with_reducible repeat (first | exact H13 | apply zha | apply zhd | apply zhn)), by
            with_reducible repeat (first | apply zsa | apply zsd | apply zsn)
            refine Stays.trans ?_ K13
            with_reducible repeat (first | apply zsa | apply zsd | apply zsn)
            refine Stays.trans ?_ K12
            with_reducible repeat (first | apply zsa | apply zsd | apply zsn)
            refine Stays.trans ?_ K10
            with_reducible repeat (first | apply zsa | apply zsd | apply zsn)
            refine Stays.trans ?_ K9
            with_reducible repeat (first | apply zsa | apply zsd | apply zsn)
            refine Stays.trans ?_ K7
            with_reducible repeat (first | apply zsa | apply zsd | apply zsn)
            refine Stays.trans ?_ K6
            with_reducible repeat (first | apply zsa | apply zsd | apply zsn)
            refine Stays.trans ?_ K4
            with_reducible repeat (first | apply zsa | apply zsd | apply zsn)
            refine Stays.trans ?_ K3
            with_reducible repeat (first | apply zsa | apply zsd | apply zsn)
            refine Stays.trans ?_ K1
            with_reducible repeat (first | apply zsa | apply zsd | apply zsn)
            exact Stays.refl _ _⟩
        · rw [if_neg c11] at e; have c11b : (e3 == 0) = false := beq_eq_false_iff_ne.2 c11; have c11n : (e3 != 0) = true := bne_iff_ne.2 c11
          obtain ⟨hv, rfl⟩ := GM.pure_eq e
          obtain rfl := hv
          go_enter Tryz.func131, Tryz.ntmps131
          have Bh0 : w.cell? ⟨hb, 0, none⟩ = some (.pointer (some ⟨A.g, 0, none⟩)) := Bh.cell 0
          have Bl := Blk.new w 3 #[.int .i64 s]
          replace Bh := Bh.alloc (Obj.cells #[.int .i64 s] 3)
          have Bh0 : (w.alloc (Obj.cells #[.int .i64 s] 3)).cell? ⟨hb, 0, none⟩ = some (.pointer (some ⟨A.g, 0, none⟩)) := Bh.cell 0
          go_wp2_with fail
          with_reducible refine (hSl1_c (by with_reducible repeat (first | exact H | apply zha | apply zhd | apply zhn)) hf (by with_reducible repeat (first | exact Bh | apply zba | apply zbd | apply zbn)) (GA.foot_far H.top) (by with_reducible repeat (first | exact Bl | apply zba | apply zbd | apply zbn)) e1.out).mono ?_
          rintro _ w1 ⟨rfl, H1, K1⟩
          replace Bh := Blk.stays (by with_reducible repeat (first | exact Bh | apply zba | apply zbd | apply zbn)) K1 hf
          clear Bh0
          have Bh0 : w1.cell? ⟨hb, 0, none⟩ = some (.pointer (some ⟨A.g, 0, none⟩)) := Bh.cell 0
          replace Bl := Blk.stays (by with_reducible repeat (first | exact Bl | apply zba | apply zbd | apply zbn)) K1 (GA.foot_far H.top)
          have Bl0 : w1.cell? ⟨w.heap.size, 0, none⟩ = some (.int .i64 s) := Bl.cell 0
          go_wp2_with fail
          refine (conf_c (by with_reducible repeat (first | exact H1 | apply zha | apply zhd | apply zhn))).mono ?_
          rintro _ w3 ⟨rfl, H3, K3⟩
          replace Bh := Blk.stays (by with_reducible repeat (first | exact Bh | apply zba | apply zbd | apply zbn)) K3 hf
          clear Bh0
          have Bh0 : w3.cell? ⟨hb, 0, none⟩ = some (.pointer (some ⟨A.g, 0, none⟩)) := Bh.cell 0
          replace Bl := Blk.stays (by with_reducible repeat (first | exact Bl | apply zba | apply zbd | apply zbn)) K3 (GA.foot_far H.top)
          clear Bl0
          have Bl0 : w3.cell? ⟨w.heap.size, 0, none⟩ = some (.int .i64 s) := Bl.cell 0
          go_wp2_with fail
          with_reducible refine (Blocks_p (by with_reducible repeat (first | exact H3 | apply zha | apply zhd | apply zhn)) e4.out).mono ?_
          rintro _ w4 ⟨rfl, H4, K4⟩
          obtain ⟨rn0, rn1⟩ := shBlocks_range H3.ok.w1 H3.ok.w2 (GM.pure_eq e4.out).1
          replace Bh := Blk.stays (by with_reducible repeat (first | exact Bh | apply zba | apply zbd | apply zbn)) K4 hf
          clear Bh0
          have Bh0 : w4.cell? ⟨hb, 0, none⟩ = some (.pointer (some ⟨A.g, 0, none⟩)) := Bh.cell 0
          replace Bl := Blk.stays (by with_reducible repeat (first | exact Bl | apply zba | apply zbd | apply zbn)) K4 (GA.foot_far H.top)
          clear Bl0
          have Bl0 : w4.cell? ⟨w.heap.size, 0, none⟩ = some (.int .i64 s) := Bl.cell 0
          go_wp2_with fail
          go_region_held3 (fun wx => wx.cell? ⟨hb, 0, none⟩ = some (.pointer (some ⟨A.g, 0, none⟩)) ∧ wx.cell? ⟨w.heap.size, 0, none⟩ = some (.int .i64 s))
            (first | exact ⟨Bh0, Bl0⟩ | go_keep)
            (first | (go_at_call 116; (repeat (first | rw [IntWalk.i64_in _ (by omega)] | rw [IntWalk.u32_in _ (by omega)])); (with_reducible refine (poLen_c (by with_reducible repeat (first | exact H4 | apply zha | apply zhd | apply zhn)) e6.out).mono ?_); (rintro _ w6 ⟨rfl, H6, K6⟩); obtain ⟨ra0, ra1⟩ := poLen_range (H4).ok e6.out; replace Bh := Blk.stays (by with_reducible repeat (first | exact Bh | apply zba | apply zbd | apply zbn)) K6 hf; clear Bh0; have Bh0 : w6.cell? ⟨hb, 0, none⟩ = some (.pointer (some ⟨A.g, 0, none⟩)) := Bh.cell 0; replace Bl := Blk.stays (by with_reducible repeat (first | exact Bl | apply zba | apply zbd | apply zbn)) K6 (GA.foot_far H.top); clear Bl0; have Bl0 : w6.cell? ⟨w.heap.size, 0, none⟩ = some (.int .i64 s) := Bl.cell 0) | (go_at_call 35; (repeat (first | rw [IntWalk.i64_in _ (by omega)] | rw [IntWalk.u32_in _ (by omega)])); (with_reducible refine (gvPendingD_c (by with_reducible repeat (first | exact H6 | apply zha | apply zhd | apply zhn)) e7.out).mono ?_); (rintro _ w7 ⟨rfl, H7, K7⟩); obtain ⟨rp0, rp1⟩ := gvPending_range (H6).ok e7.out; have hwr : IntKind.i64.wrap (a + p2) = a + p2 := IntWalk.i64_in _ (by omega); replace Bh := Blk.stays (by with_reducible repeat (first | exact Bh | apply zba | apply zbd | apply zbn)) K7 hf; clear Bh0; have Bh0 : w7.cell? ⟨hb, 0, none⟩ = some (.pointer (some ⟨A.g, 0, none⟩)) := Bh.cell 0; replace Bl := Blk.stays (by with_reducible repeat (first | exact Bl | apply zba | apply zbd | apply zbn)) K7 (GA.foot_far H.top); clear Bl0; have Bl0 : w7.cell? ⟨w.heap.size, 0, none⟩ = some (.int .i64 s) := Bl.cell 0))
          go_wp2_with fail
          with_reducible refine (paFree_c (by with_reducible repeat (first | exact H7 | apply zha | apply zhd | apply zhn)) (by omega) e9.out).mono ?_
          rintro _ w9 ⟨rfl, H9, K9⟩
          replace Bh := Blk.stays (by with_reducible repeat (first | exact Bh | apply zba | apply zbd | apply zbn)) K9 hf
          clear Bh0
          have Bh0 : w9.cell? ⟨hb, 0, none⟩ = some (.pointer (some ⟨A.g, 0, none⟩)) := Bh.cell 0
          replace Bl := Blk.stays (by with_reducible repeat (first | exact Bl | apply zba | apply zbd | apply zbn)) K9 (GA.foot_far H.top)
          clear Bl0
          have Bl0 : w9.cell? ⟨w.heap.size, 0, none⟩ = some (.int .i64 s) := Bl.cell 0
          go_wp2_with fail
          with_reducible refine (lkBorn_c (by with_reducible repeat (first | exact H9 | apply zha | apply zhd | apply zhn)) e10.out).mono ?_
          rintro _ w10 ⟨rfl, H10, K10⟩
          replace Bh := Blk.stays (by with_reducible repeat (first | exact Bh | apply zba | apply zbd | apply zbn)) K10 hf
          clear Bh0
          have Bh0 : w10.cell? ⟨hb, 0, none⟩ = some (.pointer (some ⟨A.g, 0, none⟩)) := Bh.cell 0
          replace Bl := Blk.stays (by with_reducible repeat (first | exact Bl | apply zba | apply zbd | apply zbn)) K10 (GA.foot_far H.top)
          clear Bl0
          have Bl0 : w10.cell? ⟨w.heap.size, 0, none⟩ = some (.int .i64 s) := Bl.cell 0
          go_wp2_with fail
          go_ret
          exact ⟨by first | rfl | (simp; done) | (simp [*]; done), (by with_reducible repeat (first | exact H10 | apply zha | apply zhd | apply zhn)), by
            with_reducible repeat (first | apply zsa | apply zsd | apply zsn)
            refine Stays.trans ?_ K10
            with_reducible repeat (first | apply zsa | apply zsd | apply zsn)
            refine Stays.trans ?_ K9
            with_reducible repeat (first | apply zsa | apply zsd | apply zsn)
            refine Stays.trans ?_ K7
            with_reducible repeat (first | apply zsa | apply zsd | apply zsn)
            refine Stays.trans ?_ K6
            with_reducible repeat (first | apply zsa | apply zsd | apply zsn)
            refine Stays.trans ?_ K4
            with_reducible repeat (first | apply zsa | apply zsd | apply zsn)
            refine Stays.trans ?_ K3
            with_reducible repeat (first | apply zsa | apply zsd | apply zsn)
            refine Stays.trans ?_ K1
            with_reducible repeat (first | apply zsa | apply zsd | apply zsn)
            exact Stays.refl _ _⟩
    · rw [if_neg c5] at e; have c5b : (e2 == 0) = false := beq_eq_false_iff_ne.2 c5; have c5n : (e2 != 0) = true := bne_iff_ne.2 c5
      obtain ⟨hv, rfl⟩ := GM.pure_eq e
      obtain rfl := hv
      go_enter Tryz.func131, Tryz.ntmps131
      have Bh0 : w.cell? ⟨hb, 0, none⟩ = some (.pointer (some ⟨A.g, 0, none⟩)) := Bh.cell 0
      have Bl := Blk.new w 3 #[.int .i64 s]
      replace Bh := Bh.alloc (Obj.cells #[.int .i64 s] 3)
      have Bh0 : (w.alloc (Obj.cells #[.int .i64 s] 3)).cell? ⟨hb, 0, none⟩ = some (.pointer (some ⟨A.g, 0, none⟩)) := Bh.cell 0
      go_wp2_with fail
      with_reducible refine (hSl1_c (by with_reducible repeat (first | exact H | apply zha | apply zhd | apply zhn)) hf (by with_reducible repeat (first | exact Bh | apply zba | apply zbd | apply zbn)) (GA.foot_far H.top) (by with_reducible repeat (first | exact Bl | apply zba | apply zbd | apply zbn)) e1.out).mono ?_
      rintro _ w1 ⟨rfl, H1, K1⟩
      replace Bh := Blk.stays (by with_reducible repeat (first | exact Bh | apply zba | apply zbd | apply zbn)) K1 hf
      clear Bh0
      have Bh0 : w1.cell? ⟨hb, 0, none⟩ = some (.pointer (some ⟨A.g, 0, none⟩)) := Bh.cell 0
      replace Bl := Blk.stays (by with_reducible repeat (first | exact Bl | apply zba | apply zbd | apply zbn)) K1 (GA.foot_far H.top)
      have Bl0 : w1.cell? ⟨w.heap.size, 0, none⟩ = some (.int .i64 s) := Bl.cell 0
      go_wp2_with fail
      refine (conf_c (by with_reducible repeat (first | exact H1 | apply zha | apply zhd | apply zhn))).mono ?_
      rintro _ w3 ⟨rfl, H3, K3⟩
      replace Bh := Blk.stays (by with_reducible repeat (first | exact Bh | apply zba | apply zbd | apply zbn)) K3 hf
      clear Bh0
      have Bh0 : w3.cell? ⟨hb, 0, none⟩ = some (.pointer (some ⟨A.g, 0, none⟩)) := Bh.cell 0
      replace Bl := Blk.stays (by with_reducible repeat (first | exact Bl | apply zba | apply zbd | apply zbn)) K3 (GA.foot_far H.top)
      clear Bl0
      have Bl0 : w3.cell? ⟨w.heap.size, 0, none⟩ = some (.int .i64 s) := Bl.cell 0
      go_wp2_with fail
      with_reducible refine (Blocks_p (by with_reducible repeat (first | exact H3 | apply zha | apply zhd | apply zhn)) e4.out).mono ?_
      rintro _ w4 ⟨rfl, H4, K4⟩
      obtain ⟨rn0, rn1⟩ := shBlocks_range H3.ok.w1 H3.ok.w2 (GM.pure_eq e4.out).1
      replace Bh := Blk.stays (by with_reducible repeat (first | exact Bh | apply zba | apply zbd | apply zbn)) K4 hf
      clear Bh0
      have Bh0 : w4.cell? ⟨hb, 0, none⟩ = some (.pointer (some ⟨A.g, 0, none⟩)) := Bh.cell 0
      replace Bl := Blk.stays (by with_reducible repeat (first | exact Bl | apply zba | apply zbd | apply zbn)) K4 (GA.foot_far H.top)
      clear Bl0
      have Bl0 : w4.cell? ⟨w.heap.size, 0, none⟩ = some (.int .i64 s) := Bl.cell 0
      go_wp2_with fail
      go_ret
      exact ⟨by first | rfl | (simp; done) | (simp [*]; done), (by with_reducible repeat (first | exact H4 | apply zha | apply zhd | apply zhn)), by
        with_reducible repeat (first | apply zsa | apply zsd | apply zsn)
        refine Stays.trans ?_ K4
        with_reducible repeat (first | apply zsa | apply zsd | apply zsn)
        refine Stays.trans ?_ K3
        with_reducible repeat (first | apply zsa | apply zsd | apply zsn)
        refine Stays.trans ?_ K1
        with_reducible repeat (first | apply zsa | apply zsd | apply zsn)
        exact Stays.refl _ _⟩
  · rw [if_neg c2] at e; have c2b : (es == 0) = false := beq_eq_false_iff_ne.2 c2; have c2n : (es != 0) = true := bne_iff_ne.2 c2
    obtain ⟨hv, rfl⟩ := GM.pure_eq e
    obtain rfl := hv
    go_enter Tryz.func131, Tryz.ntmps131
    have Bh0 : w.cell? ⟨hb, 0, none⟩ = some (.pointer (some ⟨A.g, 0, none⟩)) := Bh.cell 0
    have Bl := Blk.new w 3 #[.int .i64 s]
    replace Bh := Bh.alloc (Obj.cells #[.int .i64 s] 3)
    have Bh0 : (w.alloc (Obj.cells #[.int .i64 s] 3)).cell? ⟨hb, 0, none⟩ = some (.pointer (some ⟨A.g, 0, none⟩)) := Bh.cell 0
    go_wp2_with fail
    with_reducible refine (hSl1_c (by with_reducible repeat (first | exact H | apply zha | apply zhd | apply zhn)) hf (by with_reducible repeat (first | exact Bh | apply zba | apply zbd | apply zbn)) (GA.foot_far H.top) (by with_reducible repeat (first | exact Bl | apply zba | apply zbd | apply zbn)) e1.out).mono ?_
    rintro _ w1 ⟨rfl, H1, K1⟩
    replace Bh := Blk.stays (by with_reducible repeat (first | exact Bh | apply zba | apply zbd | apply zbn)) K1 hf
    clear Bh0
    have Bh0 : w1.cell? ⟨hb, 0, none⟩ = some (.pointer (some ⟨A.g, 0, none⟩)) := Bh.cell 0
    replace Bl := Blk.stays (by with_reducible repeat (first | exact Bl | apply zba | apply zbd | apply zbn)) K1 (GA.foot_far H.top)
    have Bl0 : w1.cell? ⟨w.heap.size, 0, none⟩ = some (.int .i64 s) := Bl.cell 0
    go_wp2_with fail
    go_ret
    exact ⟨by first | rfl | (simp; done) | (simp [*]; done), (by with_reducible repeat (first | exact H1 | apply zha | apply zhd | apply zhn)), by
      with_reducible repeat (first | apply zsa | apply zsd | apply zsn)
      refine Stays.trans ?_ K1
      with_reducible repeat (first | apply zsa | apply zsd | apply zsn)
      exact Stays.refl _ _⟩

def hLoad (s : Int) (f : Int) (i : Int) : GM Int :=
  hSl2 s f >>= fun es =>
  if es = 0 then
    hIn f >>= fun ⟨r, er⟩ =>
    if er = 0 then
      lkGet r i >>= fun ⟨x, e2⟩ =>
      if e2 = 0 then
        hTake s x >>= fun _ =>
        hPay 2 0 >>= fun pe =>
        pure pe
      else
        pure e2
    else
      pure er
  else
    pure es

theorem hLoad_c {A : GA} {S : GS} {w : World} (H : Held A S w) {s : Int} {f : Int} {i : Int} {v0 : Int} {hb : Nat} (hf : ¬ A.foot hb) (Bh : Blk w hb 128 #[.pointer (some ⟨A.g, 0, none⟩)]) {T : GS} (e : hLoad s f i S = (v0, T)) :
    Calls Tryz.prog 132 #[.pointer (some ⟨hb, 0, none⟩), .int .i64 s, .int .i64 f, .int .i64 i] w (Did A w (.int .i64 v0) T) := by
  unfold hLoad at e
  replace e := GM.bind_eq e; obtain ⟨es, S1, e1_, e⟩ := e; have e1 := Hd.mk e1_; clear e1_
  by_cases c2 : es = 0
  · rw [if_pos c2] at e; subst c2
    replace e := GM.bind_eq e; obtain ⟨⟨r, er⟩, S3, e3_, e⟩ := e; have e3 := Hd.mk e3_; clear e3_
    try dsimp only at e
    by_cases c4 : er = 0
    · rw [if_pos c4] at e; subst c4
      replace e := GM.bind_eq e; obtain ⟨⟨x, e2⟩, S5, e5_, e⟩ := e; have e5 := Hd.mk e5_; clear e5_
      try dsimp only at e
      by_cases c6 : e2 = 0
      · rw [if_pos c6] at e; subst c6
        replace e := GM.bind_eq e; obtain ⟨u7, S7, e7_, e⟩ := e; have e7 := Hd.mk e7_; clear e7_
        replace e := GM.bind_eq e; obtain ⟨pe, S8, e8_, e⟩ := e; have e8 := Hd.mk e8_; clear e8_
        obtain ⟨hv, rfl⟩ := GM.pure_eq e
        obtain rfl := hv
        go_enter Tryz.func132, Tryz.ntmps132
        have Bh0 : w.cell? ⟨hb, 0, none⟩ = some (.pointer (some ⟨A.g, 0, none⟩)) := Bh.cell 0
        have Bl := Blk.new w 3 #[.int .i64 s, .int .i64 f]
        replace Bh := Bh.alloc (Obj.cells #[.int .i64 s, .int .i64 f] 3)
        have Bh0 : (w.alloc (Obj.cells #[.int .i64 s, .int .i64 f] 3)).cell? ⟨hb, 0, none⟩ = some (.pointer (some ⟨A.g, 0, none⟩)) := Bh.cell 0
        go_wp2_with fail
        with_reducible refine (hSl2_c (by with_reducible repeat (first | exact H | apply zha | apply zhd | apply zhn)) hf (by with_reducible repeat (first | exact Bh | apply zba | apply zbd | apply zbn)) (GA.foot_far H.top) (by with_reducible repeat (first | exact Bl | apply zba | apply zbd | apply zbn)) e1.out).mono ?_
        rintro _ w1 ⟨rfl, H1, K1⟩
        replace Bh := Blk.stays (by with_reducible repeat (first | exact Bh | apply zba | apply zbd | apply zbn)) K1 hf
        clear Bh0
        have Bh0 : w1.cell? ⟨hb, 0, none⟩ = some (.pointer (some ⟨A.g, 0, none⟩)) := Bh.cell 0
        replace Bl := Blk.stays (by with_reducible repeat (first | exact Bl | apply zba | apply zbd | apply zbn)) K1 (GA.foot_far H.top)
        have Bl0 : w1.cell? ⟨w.heap.size, 0, none⟩ = some (.int .i64 s) := Bl.cell 0
        have Bl1 : w1.cell? ⟨w.heap.size, 1, none⟩ = some (.int .i64 f) := Bl.cell 1
        go_wp2_with fail
        with_reducible refine (hIn_c (by with_reducible repeat (first | exact H1 | apply zha | apply zhd | apply zhn)) hf (by with_reducible repeat (first | exact Bh | apply zba | apply zbd | apply zbn)) e3.out).mono ?_
        rintro _ w3 ⟨rfl, H3, K3⟩
        replace Bh := Blk.stays (by with_reducible repeat (first | exact Bh | apply zba | apply zbd | apply zbn)) K3 hf
        clear Bh0
        have Bh0 : w3.cell? ⟨hb, 0, none⟩ = some (.pointer (some ⟨A.g, 0, none⟩)) := Bh.cell 0
        replace Bl := Blk.stays (by with_reducible repeat (first | exact Bl | apply zba | apply zbd | apply zbn)) K3 (GA.foot_far H.top)
        clear Bl0 Bl1
        have Bl0 : w3.cell? ⟨w.heap.size, 0, none⟩ = some (.int .i64 s) := Bl.cell 0
        have Bl1 : w3.cell? ⟨w.heap.size, 1, none⟩ = some (.int .i64 f) := Bl.cell 1
        go_wp2_with fail
        with_reducible refine (lkGet_c (by with_reducible repeat (first | exact H3 | apply zha | apply zhd | apply zhn)) e5.out).mono ?_
        rintro _ w5 ⟨⟨rfl, H5, K5⟩, rx0, rx1⟩
        replace Bh := Blk.stays (by with_reducible repeat (first | exact Bh | apply zba | apply zbd | apply zbn)) K5 hf
        clear Bh0
        have Bh0 : w5.cell? ⟨hb, 0, none⟩ = some (.pointer (some ⟨A.g, 0, none⟩)) := Bh.cell 0
        replace Bl := Blk.stays (by with_reducible repeat (first | exact Bl | apply zba | apply zbd | apply zbn)) K5 (GA.foot_far H.top)
        clear Bl0 Bl1
        have Bl0 : w5.cell? ⟨w.heap.size, 0, none⟩ = some (.int .i64 s) := Bl.cell 0
        have Bl1 : w5.cell? ⟨w.heap.size, 1, none⟩ = some (.int .i64 f) := Bl.cell 1
        go_wp2_with fail
        with_reducible refine (hTake_c (by with_reducible repeat (first | exact H5 | apply zha | apply zhd | apply zhn)) hf (by with_reducible repeat (first | exact Bh | apply zba | apply zbd | apply zbn)) e7.out).mono ?_
        rintro _ w7 ⟨rfl, H7, K7⟩
        replace Bh := Blk.stays (by with_reducible repeat (first | exact Bh | apply zba | apply zbd | apply zbn)) K7 hf
        clear Bh0
        have Bh0 : w7.cell? ⟨hb, 0, none⟩ = some (.pointer (some ⟨A.g, 0, none⟩)) := Bh.cell 0
        replace Bl := Blk.stays (by with_reducible repeat (first | exact Bl | apply zba | apply zbd | apply zbn)) K7 (GA.foot_far H.top)
        clear Bl0 Bl1
        have Bl0 : w7.cell? ⟨w.heap.size, 0, none⟩ = some (.int .i64 s) := Bl.cell 0
        have Bl1 : w7.cell? ⟨w.heap.size, 1, none⟩ = some (.int .i64 f) := Bl.cell 1
        go_wp2_with fail
        with_reducible refine (hPay_c (by with_reducible repeat (first | exact H7 | apply zha | apply zhd | apply zhn)) hf (by with_reducible repeat (first | exact Bh | apply zba | apply zbd | apply zbn)) e8.out).mono ?_
        rintro _ w8 ⟨rfl, H8, K8⟩
        replace Bh := Blk.stays (by with_reducible repeat (first | exact Bh | apply zba | apply zbd | apply zbn)) K8 hf
        clear Bh0
        have Bh0 : w8.cell? ⟨hb, 0, none⟩ = some (.pointer (some ⟨A.g, 0, none⟩)) := Bh.cell 0
        replace Bl := Blk.stays (by with_reducible repeat (first | exact Bl | apply zba | apply zbd | apply zbn)) K8 (GA.foot_far H.top)
        clear Bl0 Bl1
        have Bl0 : w8.cell? ⟨w.heap.size, 0, none⟩ = some (.int .i64 s) := Bl.cell 0
        have Bl1 : w8.cell? ⟨w.heap.size, 1, none⟩ = some (.int .i64 f) := Bl.cell 1
        go_wp2_with fail
        go_ret
        exact ⟨by first | rfl | (simp; done) | (simp [*]; done), (by with_reducible repeat (first | exact H8 | apply zha | apply zhd | apply zhn)), by
          with_reducible repeat (first | apply zsa | apply zsd | apply zsn)
          refine Stays.trans ?_ K8
          with_reducible repeat (first | apply zsa | apply zsd | apply zsn)
          refine Stays.trans ?_ K7
          with_reducible repeat (first | apply zsa | apply zsd | apply zsn)
          refine Stays.trans ?_ K5
          with_reducible repeat (first | apply zsa | apply zsd | apply zsn)
          refine Stays.trans ?_ K3
          with_reducible repeat (first | apply zsa | apply zsd | apply zsn)
          refine Stays.trans ?_ K1
          with_reducible repeat (first | apply zsa | apply zsd | apply zsn)
          exact Stays.refl _ _⟩
      · rw [if_neg c6] at e; have c6b : (e2 == 0) = false := beq_eq_false_iff_ne.2 c6; have c6n : (e2 != 0) = true := bne_iff_ne.2 c6
        obtain ⟨hv, rfl⟩ := GM.pure_eq e
        obtain rfl := hv
        go_enter Tryz.func132, Tryz.ntmps132
        have Bh0 : w.cell? ⟨hb, 0, none⟩ = some (.pointer (some ⟨A.g, 0, none⟩)) := Bh.cell 0
        have Bl := Blk.new w 3 #[.int .i64 s, .int .i64 f]
        replace Bh := Bh.alloc (Obj.cells #[.int .i64 s, .int .i64 f] 3)
        have Bh0 : (w.alloc (Obj.cells #[.int .i64 s, .int .i64 f] 3)).cell? ⟨hb, 0, none⟩ = some (.pointer (some ⟨A.g, 0, none⟩)) := Bh.cell 0
        go_wp2_with fail
        with_reducible refine (hSl2_c (by with_reducible repeat (first | exact H | apply zha | apply zhd | apply zhn)) hf (by with_reducible repeat (first | exact Bh | apply zba | apply zbd | apply zbn)) (GA.foot_far H.top) (by with_reducible repeat (first | exact Bl | apply zba | apply zbd | apply zbn)) e1.out).mono ?_
        rintro _ w1 ⟨rfl, H1, K1⟩
        replace Bh := Blk.stays (by with_reducible repeat (first | exact Bh | apply zba | apply zbd | apply zbn)) K1 hf
        clear Bh0
        have Bh0 : w1.cell? ⟨hb, 0, none⟩ = some (.pointer (some ⟨A.g, 0, none⟩)) := Bh.cell 0
        replace Bl := Blk.stays (by with_reducible repeat (first | exact Bl | apply zba | apply zbd | apply zbn)) K1 (GA.foot_far H.top)
        have Bl0 : w1.cell? ⟨w.heap.size, 0, none⟩ = some (.int .i64 s) := Bl.cell 0
        have Bl1 : w1.cell? ⟨w.heap.size, 1, none⟩ = some (.int .i64 f) := Bl.cell 1
        go_wp2_with fail
        with_reducible refine (hIn_c (by with_reducible repeat (first | exact H1 | apply zha | apply zhd | apply zhn)) hf (by with_reducible repeat (first | exact Bh | apply zba | apply zbd | apply zbn)) e3.out).mono ?_
        rintro _ w3 ⟨rfl, H3, K3⟩
        replace Bh := Blk.stays (by with_reducible repeat (first | exact Bh | apply zba | apply zbd | apply zbn)) K3 hf
        clear Bh0
        have Bh0 : w3.cell? ⟨hb, 0, none⟩ = some (.pointer (some ⟨A.g, 0, none⟩)) := Bh.cell 0
        replace Bl := Blk.stays (by with_reducible repeat (first | exact Bl | apply zba | apply zbd | apply zbn)) K3 (GA.foot_far H.top)
        clear Bl0 Bl1
        have Bl0 : w3.cell? ⟨w.heap.size, 0, none⟩ = some (.int .i64 s) := Bl.cell 0
        have Bl1 : w3.cell? ⟨w.heap.size, 1, none⟩ = some (.int .i64 f) := Bl.cell 1
        go_wp2_with fail
        with_reducible refine (lkGet_c (by with_reducible repeat (first | exact H3 | apply zha | apply zhd | apply zhn)) e5.out).mono ?_
        rintro _ w5 ⟨⟨rfl, H5, K5⟩, rx0, rx1⟩
        replace Bh := Blk.stays (by with_reducible repeat (first | exact Bh | apply zba | apply zbd | apply zbn)) K5 hf
        clear Bh0
        have Bh0 : w5.cell? ⟨hb, 0, none⟩ = some (.pointer (some ⟨A.g, 0, none⟩)) := Bh.cell 0
        replace Bl := Blk.stays (by with_reducible repeat (first | exact Bl | apply zba | apply zbd | apply zbn)) K5 (GA.foot_far H.top)
        clear Bl0 Bl1
        have Bl0 : w5.cell? ⟨w.heap.size, 0, none⟩ = some (.int .i64 s) := Bl.cell 0
        have Bl1 : w5.cell? ⟨w.heap.size, 1, none⟩ = some (.int .i64 f) := Bl.cell 1
        go_wp2_with fail
        go_ret
        exact ⟨by first | rfl | (simp; done) | (simp [*]; done), (by with_reducible repeat (first | exact H5 | apply zha | apply zhd | apply zhn)), by
          with_reducible repeat (first | apply zsa | apply zsd | apply zsn)
          refine Stays.trans ?_ K5
          with_reducible repeat (first | apply zsa | apply zsd | apply zsn)
          refine Stays.trans ?_ K3
          with_reducible repeat (first | apply zsa | apply zsd | apply zsn)
          refine Stays.trans ?_ K1
          with_reducible repeat (first | apply zsa | apply zsd | apply zsn)
          exact Stays.refl _ _⟩
    · rw [if_neg c4] at e; have c4b : (er == 0) = false := beq_eq_false_iff_ne.2 c4; have c4n : (er != 0) = true := bne_iff_ne.2 c4
      obtain ⟨hv, rfl⟩ := GM.pure_eq e
      obtain rfl := hv
      go_enter Tryz.func132, Tryz.ntmps132
      have Bh0 : w.cell? ⟨hb, 0, none⟩ = some (.pointer (some ⟨A.g, 0, none⟩)) := Bh.cell 0
      have Bl := Blk.new w 3 #[.int .i64 s, .int .i64 f]
      replace Bh := Bh.alloc (Obj.cells #[.int .i64 s, .int .i64 f] 3)
      have Bh0 : (w.alloc (Obj.cells #[.int .i64 s, .int .i64 f] 3)).cell? ⟨hb, 0, none⟩ = some (.pointer (some ⟨A.g, 0, none⟩)) := Bh.cell 0
      go_wp2_with fail
      with_reducible refine (hSl2_c (by with_reducible repeat (first | exact H | apply zha | apply zhd | apply zhn)) hf (by with_reducible repeat (first | exact Bh | apply zba | apply zbd | apply zbn)) (GA.foot_far H.top) (by with_reducible repeat (first | exact Bl | apply zba | apply zbd | apply zbn)) e1.out).mono ?_
      rintro _ w1 ⟨rfl, H1, K1⟩
      replace Bh := Blk.stays (by with_reducible repeat (first | exact Bh | apply zba | apply zbd | apply zbn)) K1 hf
      clear Bh0
      have Bh0 : w1.cell? ⟨hb, 0, none⟩ = some (.pointer (some ⟨A.g, 0, none⟩)) := Bh.cell 0
      replace Bl := Blk.stays (by with_reducible repeat (first | exact Bl | apply zba | apply zbd | apply zbn)) K1 (GA.foot_far H.top)
      have Bl0 : w1.cell? ⟨w.heap.size, 0, none⟩ = some (.int .i64 s) := Bl.cell 0
      have Bl1 : w1.cell? ⟨w.heap.size, 1, none⟩ = some (.int .i64 f) := Bl.cell 1
      go_wp2_with fail
      with_reducible refine (hIn_c (by with_reducible repeat (first | exact H1 | apply zha | apply zhd | apply zhn)) hf (by with_reducible repeat (first | exact Bh | apply zba | apply zbd | apply zbn)) e3.out).mono ?_
      rintro _ w3 ⟨rfl, H3, K3⟩
      replace Bh := Blk.stays (by with_reducible repeat (first | exact Bh | apply zba | apply zbd | apply zbn)) K3 hf
      clear Bh0
      have Bh0 : w3.cell? ⟨hb, 0, none⟩ = some (.pointer (some ⟨A.g, 0, none⟩)) := Bh.cell 0
      replace Bl := Blk.stays (by with_reducible repeat (first | exact Bl | apply zba | apply zbd | apply zbn)) K3 (GA.foot_far H.top)
      clear Bl0 Bl1
      have Bl0 : w3.cell? ⟨w.heap.size, 0, none⟩ = some (.int .i64 s) := Bl.cell 0
      have Bl1 : w3.cell? ⟨w.heap.size, 1, none⟩ = some (.int .i64 f) := Bl.cell 1
      go_wp2_with fail
      go_ret
      exact ⟨by first | rfl | (simp; done) | (simp [*]; done), (by with_reducible repeat (first | exact H3 | apply zha | apply zhd | apply zhn)), by
        with_reducible repeat (first | apply zsa | apply zsd | apply zsn)
        refine Stays.trans ?_ K3
        with_reducible repeat (first | apply zsa | apply zsd | apply zsn)
        refine Stays.trans ?_ K1
        with_reducible repeat (first | apply zsa | apply zsd | apply zsn)
        exact Stays.refl _ _⟩
  · rw [if_neg c2] at e; have c2b : (es == 0) = false := beq_eq_false_iff_ne.2 c2; have c2n : (es != 0) = true := bne_iff_ne.2 c2
    obtain ⟨hv, rfl⟩ := GM.pure_eq e
    obtain rfl := hv
    go_enter Tryz.func132, Tryz.ntmps132
    have Bh0 : w.cell? ⟨hb, 0, none⟩ = some (.pointer (some ⟨A.g, 0, none⟩)) := Bh.cell 0
    have Bl := Blk.new w 3 #[.int .i64 s, .int .i64 f]
    replace Bh := Bh.alloc (Obj.cells #[.int .i64 s, .int .i64 f] 3)
    have Bh0 : (w.alloc (Obj.cells #[.int .i64 s, .int .i64 f] 3)).cell? ⟨hb, 0, none⟩ = some (.pointer (some ⟨A.g, 0, none⟩)) := Bh.cell 0
    go_wp2_with fail
    with_reducible refine (hSl2_c (by with_reducible repeat (first | exact H | apply zha | apply zhd | apply zhn)) hf (by with_reducible repeat (first | exact Bh | apply zba | apply zbd | apply zbn)) (GA.foot_far H.top) (by with_reducible repeat (first | exact Bl | apply zba | apply zbd | apply zbn)) e1.out).mono ?_
    rintro _ w1 ⟨rfl, H1, K1⟩
    replace Bh := Blk.stays (by with_reducible repeat (first | exact Bh | apply zba | apply zbd | apply zbn)) K1 hf
    clear Bh0
    have Bh0 : w1.cell? ⟨hb, 0, none⟩ = some (.pointer (some ⟨A.g, 0, none⟩)) := Bh.cell 0
    replace Bl := Blk.stays (by with_reducible repeat (first | exact Bl | apply zba | apply zbd | apply zbn)) K1 (GA.foot_far H.top)
    have Bl0 : w1.cell? ⟨w.heap.size, 0, none⟩ = some (.int .i64 s) := Bl.cell 0
    have Bl1 : w1.cell? ⟨w.heap.size, 1, none⟩ = some (.int .i64 f) := Bl.cell 1
    go_wp2_with fail
    go_ret
    exact ⟨by first | rfl | (simp; done) | (simp [*]; done), (by with_reducible repeat (first | exact H1 | apply zha | apply zhd | apply zhn)), by
      with_reducible repeat (first | apply zsa | apply zsd | apply zsn)
      refine Stays.trans ?_ K1
      with_reducible repeat (first | apply zsa | apply zsd | apply zsn)
      exact Stays.refl _ _⟩

def hStore (s : Int) (i : Int) (f : Int) : GM Int :=
  hSl2 s f >>= fun es =>
  if es = 0 then
    hIn s >>= fun ⟨r, er⟩ =>
    if er = 0 then
      Root f >>= fun y =>
      lkPut r i y >>= fun e2 =>
      if e2 = 0 then
        hPay 3 0 >>= fun pe =>
        pure pe
      else
        pure e2
    else
      pure er
  else
    pure es

theorem hStore_c {A : GA} {S : GS} {w : World} (H : Held A S w) {s : Int} {i : Int} {f : Int} {v0 : Int} {hb : Nat} (hf : ¬ A.foot hb) (Bh : Blk w hb 128 #[.pointer (some ⟨A.g, 0, none⟩)]) {T : GS} (e : hStore s i f S = (v0, T)) :
    Calls Tryz.prog 133 #[.pointer (some ⟨hb, 0, none⟩), .int .i64 s, .int .i64 i, .int .i64 f] w (Did A w (.int .i64 v0) T) := by
  unfold hStore at e
  replace e := GM.bind_eq e; obtain ⟨es, S1, e1_, e⟩ := e; have e1 := Hd.mk e1_; clear e1_
  by_cases c2 : es = 0
  · rw [if_pos c2] at e; subst c2
    replace e := GM.bind_eq e; obtain ⟨⟨r, er⟩, S3, e3_, e⟩ := e; have e3 := Hd.mk e3_; clear e3_
    try dsimp only at e
    by_cases c4 : er = 0
    · rw [if_pos c4] at e; subst c4
      replace e := GM.bind_eq e; obtain ⟨y, S5, e5_, e⟩ := e; have e5 := Hd.mk e5_; clear e5_
      replace e := GM.bind_eq e; obtain ⟨e2, S6, e6_, e⟩ := e; have e6 := Hd.mk e6_; clear e6_
      by_cases c7 : e2 = 0
      · rw [if_pos c7] at e; subst c7
        replace e := GM.bind_eq e; obtain ⟨pe, S8, e8_, e⟩ := e; have e8 := Hd.mk e8_; clear e8_
        obtain ⟨hv, rfl⟩ := GM.pure_eq e
        obtain rfl := hv
        go_enter Tryz.func133, Tryz.ntmps133
        have Bh0 : w.cell? ⟨hb, 0, none⟩ = some (.pointer (some ⟨A.g, 0, none⟩)) := Bh.cell 0
        have Bl := Blk.new w 3 #[.int .i64 s, .int .i64 f]
        replace Bh := Bh.alloc (Obj.cells #[.int .i64 s, .int .i64 f] 3)
        have Bh0 : (w.alloc (Obj.cells #[.int .i64 s, .int .i64 f] 3)).cell? ⟨hb, 0, none⟩ = some (.pointer (some ⟨A.g, 0, none⟩)) := Bh.cell 0
        go_wp2_with fail
        with_reducible refine (hSl2_c (by with_reducible repeat (first | exact H | apply zha | apply zhd | apply zhn)) hf (by with_reducible repeat (first | exact Bh | apply zba | apply zbd | apply zbn)) (GA.foot_far H.top) (by with_reducible repeat (first | exact Bl | apply zba | apply zbd | apply zbn)) e1.out).mono ?_
        rintro _ w1 ⟨rfl, H1, K1⟩
        replace Bh := Blk.stays (by with_reducible repeat (first | exact Bh | apply zba | apply zbd | apply zbn)) K1 hf
        clear Bh0
        have Bh0 : w1.cell? ⟨hb, 0, none⟩ = some (.pointer (some ⟨A.g, 0, none⟩)) := Bh.cell 0
        replace Bl := Blk.stays (by with_reducible repeat (first | exact Bl | apply zba | apply zbd | apply zbn)) K1 (GA.foot_far H.top)
        have Bl0 : w1.cell? ⟨w.heap.size, 0, none⟩ = some (.int .i64 s) := Bl.cell 0
        have Bl1 : w1.cell? ⟨w.heap.size, 1, none⟩ = some (.int .i64 f) := Bl.cell 1
        go_wp2_with fail
        with_reducible refine (hIn_c (by with_reducible repeat (first | exact H1 | apply zha | apply zhd | apply zhn)) hf (by with_reducible repeat (first | exact Bh | apply zba | apply zbd | apply zbn)) e3.out).mono ?_
        rintro _ w3 ⟨rfl, H3, K3⟩
        replace Bh := Blk.stays (by with_reducible repeat (first | exact Bh | apply zba | apply zbd | apply zbn)) K3 hf
        clear Bh0
        have Bh0 : w3.cell? ⟨hb, 0, none⟩ = some (.pointer (some ⟨A.g, 0, none⟩)) := Bh.cell 0
        replace Bl := Blk.stays (by with_reducible repeat (first | exact Bl | apply zba | apply zbd | apply zbn)) K3 (GA.foot_far H.top)
        clear Bl0 Bl1
        have Bl0 : w3.cell? ⟨w.heap.size, 0, none⟩ = some (.int .i64 s) := Bl.cell 0
        have Bl1 : w3.cell? ⟨w.heap.size, 1, none⟩ = some (.int .i64 f) := Bl.cell 1
        go_wp2_with fail
        go_region_held3 (fun wx => wx.cell? ⟨hb, 0, none⟩ = some (.pointer (some ⟨A.g, 0, none⟩)) ∧ wx.cell? ⟨w.heap.size, 0, none⟩ = some (.int .i64 s) ∧ wx.cell? ⟨w.heap.size, 1, none⟩ = some (.int .i64 f))
          (first | exact ⟨Bh0, Bl0, Bl1⟩ | go_keep)
          (first | (go_at_call 209; (repeat (first | rw [IntWalk.i64_in _ (by omega)] | rw [IntWalk.u32_in _ (by omega)])); (with_reducible refine (Root_c (by with_reducible repeat (first | exact H3 | apply zha | apply zhd | apply zhn)) e5.out).mono ?_); (rintro _ w5 ⟨rfl, H5, K5⟩); replace Bh := Blk.stays (by with_reducible repeat (first | exact Bh | apply zba | apply zbd | apply zbn)) K5 hf; clear Bh0; have Bh0 : w5.cell? ⟨hb, 0, none⟩ = some (.pointer (some ⟨A.g, 0, none⟩)) := Bh.cell 0; replace Bl := Blk.stays (by with_reducible repeat (first | exact Bl | apply zba | apply zbd | apply zbn)) K5 (GA.foot_far H.top); clear Bl0 Bl1; have Bl0 : w5.cell? ⟨w.heap.size, 0, none⟩ = some (.int .i64 s) := Bl.cell 0; have Bl1 : w5.cell? ⟨w.heap.size, 1, none⟩ = some (.int .i64 f) := Bl.cell 1) | (go_at_call 21; (repeat (first | rw [IntWalk.i64_in _ (by omega)] | rw [IntWalk.u32_in _ (by omega)])); (with_reducible refine (lkPut_c (by with_reducible repeat (first | exact H5 | apply zha | apply zhd | apply zhn)) e6.out).mono ?_); (rintro _ w6 ⟨rfl, H6, K6⟩); replace Bh := Blk.stays (by with_reducible repeat (first | exact Bh | apply zba | apply zbd | apply zbn)) K6 hf; clear Bh0; have Bh0 : w6.cell? ⟨hb, 0, none⟩ = some (.pointer (some ⟨A.g, 0, none⟩)) := Bh.cell 0; replace Bl := Blk.stays (by with_reducible repeat (first | exact Bl | apply zba | apply zbd | apply zbn)) K6 (GA.foot_far H.top); clear Bl0 Bl1; have Bl0 : w6.cell? ⟨w.heap.size, 0, none⟩ = some (.int .i64 s) := Bl.cell 0; have Bl1 : w6.cell? ⟨w.heap.size, 1, none⟩ = some (.int .i64 f) := Bl.cell 1))
        go_wp2_with fail
        with_reducible refine (hPay_c (by with_reducible repeat (first | exact H6 | apply zha | apply zhd | apply zhn)) hf (by with_reducible repeat (first | exact Bh | apply zba | apply zbd | apply zbn)) e8.out).mono ?_
        rintro _ w8 ⟨rfl, H8, K8⟩
        replace Bh := Blk.stays (by with_reducible repeat (first | exact Bh | apply zba | apply zbd | apply zbn)) K8 hf
        clear Bh0
        have Bh0 : w8.cell? ⟨hb, 0, none⟩ = some (.pointer (some ⟨A.g, 0, none⟩)) := Bh.cell 0
        replace Bl := Blk.stays (by with_reducible repeat (first | exact Bl | apply zba | apply zbd | apply zbn)) K8 (GA.foot_far H.top)
        clear Bl0 Bl1
        have Bl0 : w8.cell? ⟨w.heap.size, 0, none⟩ = some (.int .i64 s) := Bl.cell 0
        have Bl1 : w8.cell? ⟨w.heap.size, 1, none⟩ = some (.int .i64 f) := Bl.cell 1
        go_wp2_with fail
        go_ret
        exact ⟨by first | rfl | (simp; done) | (simp [*]; done), (by with_reducible repeat (first | exact H8 | apply zha | apply zhd | apply zhn)), by
          with_reducible repeat (first | apply zsa | apply zsd | apply zsn)
          refine Stays.trans ?_ K8
          with_reducible repeat (first | apply zsa | apply zsd | apply zsn)
          refine Stays.trans ?_ K6
          with_reducible repeat (first | apply zsa | apply zsd | apply zsn)
          refine Stays.trans ?_ K5
          with_reducible repeat (first | apply zsa | apply zsd | apply zsn)
          refine Stays.trans ?_ K3
          with_reducible repeat (first | apply zsa | apply zsd | apply zsn)
          refine Stays.trans ?_ K1
          with_reducible repeat (first | apply zsa | apply zsd | apply zsn)
          exact Stays.refl _ _⟩
      · rw [if_neg c7] at e; have c7b : (e2 == 0) = false := beq_eq_false_iff_ne.2 c7; have c7n : (e2 != 0) = true := bne_iff_ne.2 c7
        obtain ⟨hv, rfl⟩ := GM.pure_eq e
        obtain rfl := hv
        go_enter Tryz.func133, Tryz.ntmps133
        have Bh0 : w.cell? ⟨hb, 0, none⟩ = some (.pointer (some ⟨A.g, 0, none⟩)) := Bh.cell 0
        have Bl := Blk.new w 3 #[.int .i64 s, .int .i64 f]
        replace Bh := Bh.alloc (Obj.cells #[.int .i64 s, .int .i64 f] 3)
        have Bh0 : (w.alloc (Obj.cells #[.int .i64 s, .int .i64 f] 3)).cell? ⟨hb, 0, none⟩ = some (.pointer (some ⟨A.g, 0, none⟩)) := Bh.cell 0
        go_wp2_with fail
        with_reducible refine (hSl2_c (by with_reducible repeat (first | exact H | apply zha | apply zhd | apply zhn)) hf (by with_reducible repeat (first | exact Bh | apply zba | apply zbd | apply zbn)) (GA.foot_far H.top) (by with_reducible repeat (first | exact Bl | apply zba | apply zbd | apply zbn)) e1.out).mono ?_
        rintro _ w1 ⟨rfl, H1, K1⟩
        replace Bh := Blk.stays (by with_reducible repeat (first | exact Bh | apply zba | apply zbd | apply zbn)) K1 hf
        clear Bh0
        have Bh0 : w1.cell? ⟨hb, 0, none⟩ = some (.pointer (some ⟨A.g, 0, none⟩)) := Bh.cell 0
        replace Bl := Blk.stays (by with_reducible repeat (first | exact Bl | apply zba | apply zbd | apply zbn)) K1 (GA.foot_far H.top)
        have Bl0 : w1.cell? ⟨w.heap.size, 0, none⟩ = some (.int .i64 s) := Bl.cell 0
        have Bl1 : w1.cell? ⟨w.heap.size, 1, none⟩ = some (.int .i64 f) := Bl.cell 1
        go_wp2_with fail
        with_reducible refine (hIn_c (by with_reducible repeat (first | exact H1 | apply zha | apply zhd | apply zhn)) hf (by with_reducible repeat (first | exact Bh | apply zba | apply zbd | apply zbn)) e3.out).mono ?_
        rintro _ w3 ⟨rfl, H3, K3⟩
        replace Bh := Blk.stays (by with_reducible repeat (first | exact Bh | apply zba | apply zbd | apply zbn)) K3 hf
        clear Bh0
        have Bh0 : w3.cell? ⟨hb, 0, none⟩ = some (.pointer (some ⟨A.g, 0, none⟩)) := Bh.cell 0
        replace Bl := Blk.stays (by with_reducible repeat (first | exact Bl | apply zba | apply zbd | apply zbn)) K3 (GA.foot_far H.top)
        clear Bl0 Bl1
        have Bl0 : w3.cell? ⟨w.heap.size, 0, none⟩ = some (.int .i64 s) := Bl.cell 0
        have Bl1 : w3.cell? ⟨w.heap.size, 1, none⟩ = some (.int .i64 f) := Bl.cell 1
        go_wp2_with fail
        go_region_held3 (fun wx => wx.cell? ⟨hb, 0, none⟩ = some (.pointer (some ⟨A.g, 0, none⟩)) ∧ wx.cell? ⟨w.heap.size, 0, none⟩ = some (.int .i64 s) ∧ wx.cell? ⟨w.heap.size, 1, none⟩ = some (.int .i64 f))
          (first | exact ⟨Bh0, Bl0, Bl1⟩ | go_keep)
          (first | (go_at_call 209; (repeat (first | rw [IntWalk.i64_in _ (by omega)] | rw [IntWalk.u32_in _ (by omega)])); (with_reducible refine (Root_c (by with_reducible repeat (first | exact H3 | apply zha | apply zhd | apply zhn)) e5.out).mono ?_); (rintro _ w5 ⟨rfl, H5, K5⟩); replace Bh := Blk.stays (by with_reducible repeat (first | exact Bh | apply zba | apply zbd | apply zbn)) K5 hf; clear Bh0; have Bh0 : w5.cell? ⟨hb, 0, none⟩ = some (.pointer (some ⟨A.g, 0, none⟩)) := Bh.cell 0; replace Bl := Blk.stays (by with_reducible repeat (first | exact Bl | apply zba | apply zbd | apply zbn)) K5 (GA.foot_far H.top); clear Bl0 Bl1; have Bl0 : w5.cell? ⟨w.heap.size, 0, none⟩ = some (.int .i64 s) := Bl.cell 0; have Bl1 : w5.cell? ⟨w.heap.size, 1, none⟩ = some (.int .i64 f) := Bl.cell 1) | (go_at_call 21; (repeat (first | rw [IntWalk.i64_in _ (by omega)] | rw [IntWalk.u32_in _ (by omega)])); (with_reducible refine (lkPut_c (by with_reducible repeat (first | exact H5 | apply zha | apply zhd | apply zhn)) e6.out).mono ?_); (rintro _ w6 ⟨rfl, H6, K6⟩); replace Bh := Blk.stays (by with_reducible repeat (first | exact Bh | apply zba | apply zbd | apply zbn)) K6 hf; clear Bh0; have Bh0 : w6.cell? ⟨hb, 0, none⟩ = some (.pointer (some ⟨A.g, 0, none⟩)) := Bh.cell 0; replace Bl := Blk.stays (by with_reducible repeat (first | exact Bl | apply zba | apply zbd | apply zbn)) K6 (GA.foot_far H.top); clear Bl0 Bl1; have Bl0 : w6.cell? ⟨w.heap.size, 0, none⟩ = some (.int .i64 s) := Bl.cell 0; have Bl1 : w6.cell? ⟨w.heap.size, 1, none⟩ = some (.int .i64 f) := Bl.cell 1))
        go_wp2_with fail
        go_ret
        exact ⟨by first | rfl | (simp; done) | (simp [*]; done), (by with_reducible repeat (first | exact H6 | apply zha | apply zhd | apply zhn)), by
          with_reducible repeat (first | apply zsa | apply zsd | apply zsn)
          refine Stays.trans ?_ K6
          with_reducible repeat (first | apply zsa | apply zsd | apply zsn)
          refine Stays.trans ?_ K5
          with_reducible repeat (first | apply zsa | apply zsd | apply zsn)
          refine Stays.trans ?_ K3
          with_reducible repeat (first | apply zsa | apply zsd | apply zsn)
          refine Stays.trans ?_ K1
          with_reducible repeat (first | apply zsa | apply zsd | apply zsn)
          exact Stays.refl _ _⟩
    · rw [if_neg c4] at e; have c4b : (er == 0) = false := beq_eq_false_iff_ne.2 c4; have c4n : (er != 0) = true := bne_iff_ne.2 c4
      obtain ⟨hv, rfl⟩ := GM.pure_eq e
      obtain rfl := hv
      go_enter Tryz.func133, Tryz.ntmps133
      have Bh0 : w.cell? ⟨hb, 0, none⟩ = some (.pointer (some ⟨A.g, 0, none⟩)) := Bh.cell 0
      have Bl := Blk.new w 3 #[.int .i64 s, .int .i64 f]
      replace Bh := Bh.alloc (Obj.cells #[.int .i64 s, .int .i64 f] 3)
      have Bh0 : (w.alloc (Obj.cells #[.int .i64 s, .int .i64 f] 3)).cell? ⟨hb, 0, none⟩ = some (.pointer (some ⟨A.g, 0, none⟩)) := Bh.cell 0
      go_wp2_with fail
      with_reducible refine (hSl2_c (by with_reducible repeat (first | exact H | apply zha | apply zhd | apply zhn)) hf (by with_reducible repeat (first | exact Bh | apply zba | apply zbd | apply zbn)) (GA.foot_far H.top) (by with_reducible repeat (first | exact Bl | apply zba | apply zbd | apply zbn)) e1.out).mono ?_
      rintro _ w1 ⟨rfl, H1, K1⟩
      replace Bh := Blk.stays (by with_reducible repeat (first | exact Bh | apply zba | apply zbd | apply zbn)) K1 hf
      clear Bh0
      have Bh0 : w1.cell? ⟨hb, 0, none⟩ = some (.pointer (some ⟨A.g, 0, none⟩)) := Bh.cell 0
      replace Bl := Blk.stays (by with_reducible repeat (first | exact Bl | apply zba | apply zbd | apply zbn)) K1 (GA.foot_far H.top)
      have Bl0 : w1.cell? ⟨w.heap.size, 0, none⟩ = some (.int .i64 s) := Bl.cell 0
      have Bl1 : w1.cell? ⟨w.heap.size, 1, none⟩ = some (.int .i64 f) := Bl.cell 1
      go_wp2_with fail
      with_reducible refine (hIn_c (by with_reducible repeat (first | exact H1 | apply zha | apply zhd | apply zhn)) hf (by with_reducible repeat (first | exact Bh | apply zba | apply zbd | apply zbn)) e3.out).mono ?_
      rintro _ w3 ⟨rfl, H3, K3⟩
      replace Bh := Blk.stays (by with_reducible repeat (first | exact Bh | apply zba | apply zbd | apply zbn)) K3 hf
      clear Bh0
      have Bh0 : w3.cell? ⟨hb, 0, none⟩ = some (.pointer (some ⟨A.g, 0, none⟩)) := Bh.cell 0
      replace Bl := Blk.stays (by with_reducible repeat (first | exact Bl | apply zba | apply zbd | apply zbn)) K3 (GA.foot_far H.top)
      clear Bl0 Bl1
      have Bl0 : w3.cell? ⟨w.heap.size, 0, none⟩ = some (.int .i64 s) := Bl.cell 0
      have Bl1 : w3.cell? ⟨w.heap.size, 1, none⟩ = some (.int .i64 f) := Bl.cell 1
      go_wp2_with fail
      go_ret
      exact ⟨by first | rfl | (simp; done) | (simp [*]; done), (by with_reducible repeat (first | exact H3 | apply zha | apply zhd | apply zhn)), by
        with_reducible repeat (first | apply zsa | apply zsd | apply zsn)
        refine Stays.trans ?_ K3
        with_reducible repeat (first | apply zsa | apply zsd | apply zsn)
        refine Stays.trans ?_ K1
        with_reducible repeat (first | apply zsa | apply zsd | apply zsn)
        exact Stays.refl _ _⟩
  · rw [if_neg c2] at e; have c2b : (es == 0) = false := beq_eq_false_iff_ne.2 c2; have c2n : (es != 0) = true := bne_iff_ne.2 c2
    obtain ⟨hv, rfl⟩ := GM.pure_eq e
    obtain rfl := hv
    go_enter Tryz.func133, Tryz.ntmps133
    have Bh0 : w.cell? ⟨hb, 0, none⟩ = some (.pointer (some ⟨A.g, 0, none⟩)) := Bh.cell 0
    have Bl := Blk.new w 3 #[.int .i64 s, .int .i64 f]
    replace Bh := Bh.alloc (Obj.cells #[.int .i64 s, .int .i64 f] 3)
    have Bh0 : (w.alloc (Obj.cells #[.int .i64 s, .int .i64 f] 3)).cell? ⟨hb, 0, none⟩ = some (.pointer (some ⟨A.g, 0, none⟩)) := Bh.cell 0
    go_wp2_with fail
    with_reducible refine (hSl2_c (by with_reducible repeat (first | exact H | apply zha | apply zhd | apply zhn)) hf (by with_reducible repeat (first | exact Bh | apply zba | apply zbd | apply zbn)) (GA.foot_far H.top) (by with_reducible repeat (first | exact Bl | apply zba | apply zbd | apply zbn)) e1.out).mono ?_
    rintro _ w1 ⟨rfl, H1, K1⟩
    replace Bh := Blk.stays (by with_reducible repeat (first | exact Bh | apply zba | apply zbd | apply zbn)) K1 hf
    clear Bh0
    have Bh0 : w1.cell? ⟨hb, 0, none⟩ = some (.pointer (some ⟨A.g, 0, none⟩)) := Bh.cell 0
    replace Bl := Blk.stays (by with_reducible repeat (first | exact Bl | apply zba | apply zbd | apply zbn)) K1 (GA.foot_far H.top)
    have Bl0 : w1.cell? ⟨w.heap.size, 0, none⟩ = some (.int .i64 s) := Bl.cell 0
    have Bl1 : w1.cell? ⟨w.heap.size, 1, none⟩ = some (.int .i64 f) := Bl.cell 1
    go_wp2_with fail
    go_ret
    exact ⟨by first | rfl | (simp; done) | (simp [*]; done), (by with_reducible repeat (first | exact H1 | apply zha | apply zhd | apply zhn)), by
      with_reducible repeat (first | apply zsa | apply zsd | apply zsn)
      refine Stays.trans ?_ K1
      with_reducible repeat (first | apply zsa | apply zsd | apply zsn)
      exact Stays.refl _ _⟩

def hRead (s : Int) (i : Int) : GM (Int × Int) :=
  hSl1 s >>= fun es =>
  if es = 0 then
    hIn s >>= fun ⟨r, er⟩ =>
    if er = 0 then
      obData r i >>= fun ⟨v, e2⟩ =>
      pure (v, e2)
    else
      pure (0, er)
  else
    pure (0, es)

theorem hRead_c {A : GA} {S : GS} {w : World} (H : Held A S w) {s : Int} {i : Int} {v0 : Int} {v1 : Int} {hb : Nat} (hf : ¬ A.foot hb) (Bh : Blk w hb 128 #[.pointer (some ⟨A.g, 0, none⟩)]) {T : GS} (e : hRead s i S = ((v0, v1), T)) :
    Calls Tryz.prog 134 #[.pointer (some ⟨hb, 0, none⟩), .int .i64 s, .int .i64 i] w (Did A w (.tuple #[.int .u32 v0, .int .i64 v1]) T) := by
  unfold hRead at e
  replace e := GM.bind_eq e; obtain ⟨es, S1, e1_, e⟩ := e; have e1 := Hd.mk e1_; clear e1_
  by_cases c2 : es = 0
  · rw [if_pos c2] at e; subst c2
    replace e := GM.bind_eq e; obtain ⟨⟨r, er⟩, S3, e3_, e⟩ := e; have e3 := Hd.mk e3_; clear e3_
    try dsimp only at e
    by_cases c4 : er = 0
    · rw [if_pos c4] at e; subst c4
      replace e := GM.bind_eq e; obtain ⟨⟨v, e2⟩, S5, e5_, e⟩ := e; have e5 := Hd.mk e5_; clear e5_
      try dsimp only at e
      obtain ⟨hv, rfl⟩ := GM.pure_eq e
      cases hv
      go_enter Tryz.func134, Tryz.ntmps134
      have Bh0 : w.cell? ⟨hb, 0, none⟩ = some (.pointer (some ⟨A.g, 0, none⟩)) := Bh.cell 0
      have Bl := Blk.new w 3 #[.int .i64 s]
      replace Bh := Bh.alloc (Obj.cells #[.int .i64 s] 3)
      have Bh0 : (w.alloc (Obj.cells #[.int .i64 s] 3)).cell? ⟨hb, 0, none⟩ = some (.pointer (some ⟨A.g, 0, none⟩)) := Bh.cell 0
      go_wp2_with fail
      with_reducible refine (hSl1_c (by with_reducible repeat (first | exact H | apply zha | apply zhd | apply zhn)) hf (by with_reducible repeat (first | exact Bh | apply zba | apply zbd | apply zbn)) (GA.foot_far H.top) (by with_reducible repeat (first | exact Bl | apply zba | apply zbd | apply zbn)) e1.out).mono ?_
      rintro _ w1 ⟨rfl, H1, K1⟩
      replace Bh := Blk.stays (by with_reducible repeat (first | exact Bh | apply zba | apply zbd | apply zbn)) K1 hf
      clear Bh0
      have Bh0 : w1.cell? ⟨hb, 0, none⟩ = some (.pointer (some ⟨A.g, 0, none⟩)) := Bh.cell 0
      replace Bl := Blk.stays (by with_reducible repeat (first | exact Bl | apply zba | apply zbd | apply zbn)) K1 (GA.foot_far H.top)
      have Bl0 : w1.cell? ⟨w.heap.size, 0, none⟩ = some (.int .i64 s) := Bl.cell 0
      go_wp2_with fail
      with_reducible refine (hIn_c (by with_reducible repeat (first | exact H1 | apply zha | apply zhd | apply zhn)) hf (by with_reducible repeat (first | exact Bh | apply zba | apply zbd | apply zbn)) e3.out).mono ?_
      rintro _ w3 ⟨rfl, H3, K3⟩
      replace Bh := Blk.stays (by with_reducible repeat (first | exact Bh | apply zba | apply zbd | apply zbn)) K3 hf
      clear Bh0
      have Bh0 : w3.cell? ⟨hb, 0, none⟩ = some (.pointer (some ⟨A.g, 0, none⟩)) := Bh.cell 0
      replace Bl := Blk.stays (by with_reducible repeat (first | exact Bl | apply zba | apply zbd | apply zbn)) K3 (GA.foot_far H.top)
      clear Bl0
      have Bl0 : w3.cell? ⟨w.heap.size, 0, none⟩ = some (.int .i64 s) := Bl.cell 0
      go_wp2_with fail
      with_reducible refine (obData_c (by with_reducible repeat (first | exact H3 | apply zha | apply zhd | apply zhn)) e5.out).mono ?_
      rintro _ w5 ⟨rfl, H5, K5⟩
      replace Bh := Blk.stays (by with_reducible repeat (first | exact Bh | apply zba | apply zbd | apply zbn)) K5 hf
      clear Bh0
      have Bh0 : w5.cell? ⟨hb, 0, none⟩ = some (.pointer (some ⟨A.g, 0, none⟩)) := Bh.cell 0
      replace Bl := Blk.stays (by with_reducible repeat (first | exact Bl | apply zba | apply zbd | apply zbn)) K5 (GA.foot_far H.top)
      clear Bl0
      have Bl0 : w5.cell? ⟨w.heap.size, 0, none⟩ = some (.int .i64 s) := Bl.cell 0
      go_wp2_with fail
      go_ret2
      exact ⟨by first | rfl | (simp; done) | (simp [*]; done), (by with_reducible repeat (first | exact H5 | apply zha | apply zhd | apply zhn)), by
        with_reducible repeat (first | apply zsa | apply zsd | apply zsn)
        refine Stays.trans ?_ K5
        with_reducible repeat (first | apply zsa | apply zsd | apply zsn)
        refine Stays.trans ?_ K3
        with_reducible repeat (first | apply zsa | apply zsd | apply zsn)
        refine Stays.trans ?_ K1
        with_reducible repeat (first | apply zsa | apply zsd | apply zsn)
        exact Stays.refl _ _⟩
    · rw [if_neg c4] at e; have c4b : (er == 0) = false := beq_eq_false_iff_ne.2 c4; have c4n : (er != 0) = true := bne_iff_ne.2 c4
      obtain ⟨hv, rfl⟩ := GM.pure_eq e
      cases hv
      go_enter Tryz.func134, Tryz.ntmps134
      have Bh0 : w.cell? ⟨hb, 0, none⟩ = some (.pointer (some ⟨A.g, 0, none⟩)) := Bh.cell 0
      have Bl := Blk.new w 3 #[.int .i64 s]
      replace Bh := Bh.alloc (Obj.cells #[.int .i64 s] 3)
      have Bh0 : (w.alloc (Obj.cells #[.int .i64 s] 3)).cell? ⟨hb, 0, none⟩ = some (.pointer (some ⟨A.g, 0, none⟩)) := Bh.cell 0
      go_wp2_with fail
      with_reducible refine (hSl1_c (by with_reducible repeat (first | exact H | apply zha | apply zhd | apply zhn)) hf (by with_reducible repeat (first | exact Bh | apply zba | apply zbd | apply zbn)) (GA.foot_far H.top) (by with_reducible repeat (first | exact Bl | apply zba | apply zbd | apply zbn)) e1.out).mono ?_
      rintro _ w1 ⟨rfl, H1, K1⟩
      replace Bh := Blk.stays (by with_reducible repeat (first | exact Bh | apply zba | apply zbd | apply zbn)) K1 hf
      clear Bh0
      have Bh0 : w1.cell? ⟨hb, 0, none⟩ = some (.pointer (some ⟨A.g, 0, none⟩)) := Bh.cell 0
      replace Bl := Blk.stays (by with_reducible repeat (first | exact Bl | apply zba | apply zbd | apply zbn)) K1 (GA.foot_far H.top)
      have Bl0 : w1.cell? ⟨w.heap.size, 0, none⟩ = some (.int .i64 s) := Bl.cell 0
      go_wp2_with fail
      with_reducible refine (hIn_c (by with_reducible repeat (first | exact H1 | apply zha | apply zhd | apply zhn)) hf (by with_reducible repeat (first | exact Bh | apply zba | apply zbd | apply zbn)) e3.out).mono ?_
      rintro _ w3 ⟨rfl, H3, K3⟩
      replace Bh := Blk.stays (by with_reducible repeat (first | exact Bh | apply zba | apply zbd | apply zbn)) K3 hf
      clear Bh0
      have Bh0 : w3.cell? ⟨hb, 0, none⟩ = some (.pointer (some ⟨A.g, 0, none⟩)) := Bh.cell 0
      replace Bl := Blk.stays (by with_reducible repeat (first | exact Bl | apply zba | apply zbd | apply zbn)) K3 (GA.foot_far H.top)
      clear Bl0
      have Bl0 : w3.cell? ⟨w.heap.size, 0, none⟩ = some (.int .i64 s) := Bl.cell 0
      go_wp2_with fail
      go_ret2
      exact ⟨by first | rfl | (simp; done) | (simp [*]; done), (by with_reducible repeat (first | exact H3 | apply zha | apply zhd | apply zhn)), by
        with_reducible repeat (first | apply zsa | apply zsd | apply zsn)
        refine Stays.trans ?_ K3
        with_reducible repeat (first | apply zsa | apply zsd | apply zsn)
        refine Stays.trans ?_ K1
        with_reducible repeat (first | apply zsa | apply zsd | apply zsn)
        exact Stays.refl _ _⟩
  · rw [if_neg c2] at e; have c2b : (es == 0) = false := beq_eq_false_iff_ne.2 c2; have c2n : (es != 0) = true := bne_iff_ne.2 c2
    obtain ⟨hv, rfl⟩ := GM.pure_eq e
    cases hv
    go_enter Tryz.func134, Tryz.ntmps134
    have Bh0 : w.cell? ⟨hb, 0, none⟩ = some (.pointer (some ⟨A.g, 0, none⟩)) := Bh.cell 0
    have Bl := Blk.new w 3 #[.int .i64 s]
    replace Bh := Bh.alloc (Obj.cells #[.int .i64 s] 3)
    have Bh0 : (w.alloc (Obj.cells #[.int .i64 s] 3)).cell? ⟨hb, 0, none⟩ = some (.pointer (some ⟨A.g, 0, none⟩)) := Bh.cell 0
    go_wp2_with fail
    with_reducible refine (hSl1_c (by with_reducible repeat (first | exact H | apply zha | apply zhd | apply zhn)) hf (by with_reducible repeat (first | exact Bh | apply zba | apply zbd | apply zbn)) (GA.foot_far H.top) (by with_reducible repeat (first | exact Bl | apply zba | apply zbd | apply zbn)) e1.out).mono ?_
    rintro _ w1 ⟨rfl, H1, K1⟩
    replace Bh := Blk.stays (by with_reducible repeat (first | exact Bh | apply zba | apply zbd | apply zbn)) K1 hf
    clear Bh0
    have Bh0 : w1.cell? ⟨hb, 0, none⟩ = some (.pointer (some ⟨A.g, 0, none⟩)) := Bh.cell 0
    replace Bl := Blk.stays (by with_reducible repeat (first | exact Bl | apply zba | apply zbd | apply zbn)) K1 (GA.foot_far H.top)
    have Bl0 : w1.cell? ⟨w.heap.size, 0, none⟩ = some (.int .i64 s) := Bl.cell 0
    go_wp2_with fail
    go_ret2
    exact ⟨by first | rfl | (simp; done) | (simp [*]; done), (by with_reducible repeat (first | exact H1 | apply zha | apply zhd | apply zhn)), by
      with_reducible repeat (first | apply zsa | apply zsd | apply zsn)
      refine Stays.trans ?_ K1
      with_reducible repeat (first | apply zsa | apply zsd | apply zsn)
      exact Stays.refl _ _⟩

def hWrite (s : Int) (i : Int) (v : Int) : GM Int :=
  hSl1 s >>= fun es =>
  if es = 0 then
    hIn s >>= fun ⟨r, er⟩ =>
    if er = 0 then
      obSetData r i v >>= fun e2 =>
      pure e2
    else
      pure er
  else
    pure es

theorem hWrite_c {A : GA} {S : GS} {w : World} (H : Held A S w) {s : Int} {i : Int} {v : Int} {v0 : Int} (h0v : 0 ≤ v) (h1v : v ≤ 4294967295) {hb : Nat} (hf : ¬ A.foot hb) (Bh : Blk w hb 128 #[.pointer (some ⟨A.g, 0, none⟩)]) {T : GS} (e : hWrite s i v S = (v0, T)) :
    Calls Tryz.prog 135 #[.pointer (some ⟨hb, 0, none⟩), .int .i64 s, .int .i64 i, .int .u32 v] w (Did A w (.int .i64 v0) T) := by
  unfold hWrite at e
  replace e := GM.bind_eq e; obtain ⟨es, S1, e1_, e⟩ := e; have e1 := Hd.mk e1_; clear e1_
  by_cases c2 : es = 0
  · rw [if_pos c2] at e; subst c2
    replace e := GM.bind_eq e; obtain ⟨⟨r, er⟩, S3, e3_, e⟩ := e; have e3 := Hd.mk e3_; clear e3_
    try dsimp only at e
    by_cases c4 : er = 0
    · rw [if_pos c4] at e; subst c4
      replace e := GM.bind_eq e; obtain ⟨e2, S5, e5_, e⟩ := e; have e5 := Hd.mk e5_; clear e5_
      obtain ⟨hv, rfl⟩ := GM.pure_eq e
      obtain rfl := hv
      go_enter Tryz.func135, Tryz.ntmps135
      have Bh0 : w.cell? ⟨hb, 0, none⟩ = some (.pointer (some ⟨A.g, 0, none⟩)) := Bh.cell 0
      have Bl := Blk.new w 3 #[.int .i64 s]
      replace Bh := Bh.alloc (Obj.cells #[.int .i64 s] 3)
      have Bh0 : (w.alloc (Obj.cells #[.int .i64 s] 3)).cell? ⟨hb, 0, none⟩ = some (.pointer (some ⟨A.g, 0, none⟩)) := Bh.cell 0
      go_wp2_with fail
      with_reducible refine (hSl1_c (by with_reducible repeat (first | exact H | apply zha | apply zhd | apply zhn)) hf (by with_reducible repeat (first | exact Bh | apply zba | apply zbd | apply zbn)) (GA.foot_far H.top) (by with_reducible repeat (first | exact Bl | apply zba | apply zbd | apply zbn)) e1.out).mono ?_
      rintro _ w1 ⟨rfl, H1, K1⟩
      replace Bh := Blk.stays (by with_reducible repeat (first | exact Bh | apply zba | apply zbd | apply zbn)) K1 hf
      clear Bh0
      have Bh0 : w1.cell? ⟨hb, 0, none⟩ = some (.pointer (some ⟨A.g, 0, none⟩)) := Bh.cell 0
      replace Bl := Blk.stays (by with_reducible repeat (first | exact Bl | apply zba | apply zbd | apply zbn)) K1 (GA.foot_far H.top)
      have Bl0 : w1.cell? ⟨w.heap.size, 0, none⟩ = some (.int .i64 s) := Bl.cell 0
      go_wp2_with fail
      with_reducible refine (hIn_c (by with_reducible repeat (first | exact H1 | apply zha | apply zhd | apply zhn)) hf (by with_reducible repeat (first | exact Bh | apply zba | apply zbd | apply zbn)) e3.out).mono ?_
      rintro _ w3 ⟨rfl, H3, K3⟩
      replace Bh := Blk.stays (by with_reducible repeat (first | exact Bh | apply zba | apply zbd | apply zbn)) K3 hf
      clear Bh0
      have Bh0 : w3.cell? ⟨hb, 0, none⟩ = some (.pointer (some ⟨A.g, 0, none⟩)) := Bh.cell 0
      replace Bl := Blk.stays (by with_reducible repeat (first | exact Bl | apply zba | apply zbd | apply zbn)) K3 (GA.foot_far H.top)
      clear Bl0
      have Bl0 : w3.cell? ⟨w.heap.size, 0, none⟩ = some (.int .i64 s) := Bl.cell 0
      go_wp2_with fail
      with_reducible refine (obSetData_c (by with_reducible repeat (first | exact H3 | apply zha | apply zhd | apply zhn)) h0v h1v e5.out).mono ?_
      rintro _ w5 ⟨rfl, H5, K5⟩
      replace Bh := Blk.stays (by with_reducible repeat (first | exact Bh | apply zba | apply zbd | apply zbn)) K5 hf
      clear Bh0
      have Bh0 : w5.cell? ⟨hb, 0, none⟩ = some (.pointer (some ⟨A.g, 0, none⟩)) := Bh.cell 0
      replace Bl := Blk.stays (by with_reducible repeat (first | exact Bl | apply zba | apply zbd | apply zbn)) K5 (GA.foot_far H.top)
      clear Bl0
      have Bl0 : w5.cell? ⟨w.heap.size, 0, none⟩ = some (.int .i64 s) := Bl.cell 0
      go_wp2_with fail
      go_ret
      exact ⟨by first | rfl | (simp; done) | (simp [*]; done), (by with_reducible repeat (first | exact H5 | apply zha | apply zhd | apply zhn)), by
        with_reducible repeat (first | apply zsa | apply zsd | apply zsn)
        refine Stays.trans ?_ K5
        with_reducible repeat (first | apply zsa | apply zsd | apply zsn)
        refine Stays.trans ?_ K3
        with_reducible repeat (first | apply zsa | apply zsd | apply zsn)
        refine Stays.trans ?_ K1
        with_reducible repeat (first | apply zsa | apply zsd | apply zsn)
        exact Stays.refl _ _⟩
    · rw [if_neg c4] at e; have c4b : (er == 0) = false := beq_eq_false_iff_ne.2 c4; have c4n : (er != 0) = true := bne_iff_ne.2 c4
      obtain ⟨hv, rfl⟩ := GM.pure_eq e
      obtain rfl := hv
      go_enter Tryz.func135, Tryz.ntmps135
      have Bh0 : w.cell? ⟨hb, 0, none⟩ = some (.pointer (some ⟨A.g, 0, none⟩)) := Bh.cell 0
      have Bl := Blk.new w 3 #[.int .i64 s]
      replace Bh := Bh.alloc (Obj.cells #[.int .i64 s] 3)
      have Bh0 : (w.alloc (Obj.cells #[.int .i64 s] 3)).cell? ⟨hb, 0, none⟩ = some (.pointer (some ⟨A.g, 0, none⟩)) := Bh.cell 0
      go_wp2_with fail
      with_reducible refine (hSl1_c (by with_reducible repeat (first | exact H | apply zha | apply zhd | apply zhn)) hf (by with_reducible repeat (first | exact Bh | apply zba | apply zbd | apply zbn)) (GA.foot_far H.top) (by with_reducible repeat (first | exact Bl | apply zba | apply zbd | apply zbn)) e1.out).mono ?_
      rintro _ w1 ⟨rfl, H1, K1⟩
      replace Bh := Blk.stays (by with_reducible repeat (first | exact Bh | apply zba | apply zbd | apply zbn)) K1 hf
      clear Bh0
      have Bh0 : w1.cell? ⟨hb, 0, none⟩ = some (.pointer (some ⟨A.g, 0, none⟩)) := Bh.cell 0
      replace Bl := Blk.stays (by with_reducible repeat (first | exact Bl | apply zba | apply zbd | apply zbn)) K1 (GA.foot_far H.top)
      have Bl0 : w1.cell? ⟨w.heap.size, 0, none⟩ = some (.int .i64 s) := Bl.cell 0
      go_wp2_with fail
      with_reducible refine (hIn_c (by with_reducible repeat (first | exact H1 | apply zha | apply zhd | apply zhn)) hf (by with_reducible repeat (first | exact Bh | apply zba | apply zbd | apply zbn)) e3.out).mono ?_
      rintro _ w3 ⟨rfl, H3, K3⟩
      replace Bh := Blk.stays (by with_reducible repeat (first | exact Bh | apply zba | apply zbd | apply zbn)) K3 hf
      clear Bh0
      have Bh0 : w3.cell? ⟨hb, 0, none⟩ = some (.pointer (some ⟨A.g, 0, none⟩)) := Bh.cell 0
      replace Bl := Blk.stays (by with_reducible repeat (first | exact Bl | apply zba | apply zbd | apply zbn)) K3 (GA.foot_far H.top)
      clear Bl0
      have Bl0 : w3.cell? ⟨w.heap.size, 0, none⟩ = some (.int .i64 s) := Bl.cell 0
      go_wp2_with fail
      go_ret
      exact ⟨by first | rfl | (simp; done) | (simp [*]; done), (by with_reducible repeat (first | exact H3 | apply zha | apply zhd | apply zhn)), by
        with_reducible repeat (first | apply zsa | apply zsd | apply zsn)
        refine Stays.trans ?_ K3
        with_reducible repeat (first | apply zsa | apply zsd | apply zsn)
        refine Stays.trans ?_ K1
        with_reducible repeat (first | apply zsa | apply zsd | apply zsn)
        exact Stays.refl _ _⟩
  · rw [if_neg c2] at e; have c2b : (es == 0) = false := beq_eq_false_iff_ne.2 c2; have c2n : (es != 0) = true := bne_iff_ne.2 c2
    obtain ⟨hv, rfl⟩ := GM.pure_eq e
    obtain rfl := hv
    go_enter Tryz.func135, Tryz.ntmps135
    have Bh0 : w.cell? ⟨hb, 0, none⟩ = some (.pointer (some ⟨A.g, 0, none⟩)) := Bh.cell 0
    have Bl := Blk.new w 3 #[.int .i64 s]
    replace Bh := Bh.alloc (Obj.cells #[.int .i64 s] 3)
    have Bh0 : (w.alloc (Obj.cells #[.int .i64 s] 3)).cell? ⟨hb, 0, none⟩ = some (.pointer (some ⟨A.g, 0, none⟩)) := Bh.cell 0
    go_wp2_with fail
    with_reducible refine (hSl1_c (by with_reducible repeat (first | exact H | apply zha | apply zhd | apply zhn)) hf (by with_reducible repeat (first | exact Bh | apply zba | apply zbd | apply zbn)) (GA.foot_far H.top) (by with_reducible repeat (first | exact Bl | apply zba | apply zbd | apply zbn)) e1.out).mono ?_
    rintro _ w1 ⟨rfl, H1, K1⟩
    replace Bh := Blk.stays (by with_reducible repeat (first | exact Bh | apply zba | apply zbd | apply zbn)) K1 hf
    clear Bh0
    have Bh0 : w1.cell? ⟨hb, 0, none⟩ = some (.pointer (some ⟨A.g, 0, none⟩)) := Bh.cell 0
    replace Bl := Blk.stays (by with_reducible repeat (first | exact Bl | apply zba | apply zbd | apply zbn)) K1 (GA.foot_far H.top)
    have Bl0 : w1.cell? ⟨w.heap.size, 0, none⟩ = some (.int .i64 s) := Bl.cell 0
    go_wp2_with fail
    go_ret
    exact ⟨by first | rfl | (simp; done) | (simp [*]; done), (by with_reducible repeat (first | exact H1 | apply zha | apply zhd | apply zhn)), by
      with_reducible repeat (first | apply zsa | apply zsd | apply zsn)
      refine Stays.trans ?_ K1
      with_reducible repeat (first | apply zsa | apply zsd | apply zsn)
      exact Stays.refl _ _⟩

def hCopy (s : Int) (f : Int) : GM Int :=
  hSl2 s f >>= fun es =>
  if es = 0 then
    Root f >>= fun y =>
    hTake s y >>= fun _ =>
    hPay 6 0 >>= fun pe =>
    pure pe
  else
    pure es

theorem hCopy_c {A : GA} {S : GS} {w : World} (H : Held A S w) {s : Int} {f : Int} {v0 : Int} {hb : Nat} (hf : ¬ A.foot hb) (Bh : Blk w hb 128 #[.pointer (some ⟨A.g, 0, none⟩)]) {T : GS} (e : hCopy s f S = (v0, T)) :
    Calls Tryz.prog 136 #[.pointer (some ⟨hb, 0, none⟩), .int .i64 s, .int .i64 f] w (Did A w (.int .i64 v0) T) := by
  unfold hCopy at e
  replace e := GM.bind_eq e; obtain ⟨es, S1, e1_, e⟩ := e; have e1 := Hd.mk e1_; clear e1_
  by_cases c2 : es = 0
  · rw [if_pos c2] at e; subst c2
    replace e := GM.bind_eq e; obtain ⟨y, S3, e3_, e⟩ := e; have e3 := Hd.mk e3_; clear e3_
    replace e := GM.bind_eq e; obtain ⟨u4, S4, e4_, e⟩ := e; have e4 := Hd.mk e4_; clear e4_
    replace e := GM.bind_eq e; obtain ⟨pe, S5, e5_, e⟩ := e; have e5 := Hd.mk e5_; clear e5_
    obtain ⟨hv, rfl⟩ := GM.pure_eq e
    obtain rfl := hv
    go_enter Tryz.func136, Tryz.ntmps136
    have Bh0 : w.cell? ⟨hb, 0, none⟩ = some (.pointer (some ⟨A.g, 0, none⟩)) := Bh.cell 0
    have Bl := Blk.new w 3 #[.int .i64 s, .int .i64 f]
    replace Bh := Bh.alloc (Obj.cells #[.int .i64 s, .int .i64 f] 3)
    have Bh0 : (w.alloc (Obj.cells #[.int .i64 s, .int .i64 f] 3)).cell? ⟨hb, 0, none⟩ = some (.pointer (some ⟨A.g, 0, none⟩)) := Bh.cell 0
    go_wp2_with fail
    with_reducible refine (hSl2_c (by with_reducible repeat (first | exact H | apply zha | apply zhd | apply zhn)) hf (by with_reducible repeat (first | exact Bh | apply zba | apply zbd | apply zbn)) (GA.foot_far H.top) (by with_reducible repeat (first | exact Bl | apply zba | apply zbd | apply zbn)) e1.out).mono ?_
    rintro _ w1 ⟨rfl, H1, K1⟩
    replace Bh := Blk.stays (by with_reducible repeat (first | exact Bh | apply zba | apply zbd | apply zbn)) K1 hf
    clear Bh0
    have Bh0 : w1.cell? ⟨hb, 0, none⟩ = some (.pointer (some ⟨A.g, 0, none⟩)) := Bh.cell 0
    replace Bl := Blk.stays (by with_reducible repeat (first | exact Bl | apply zba | apply zbd | apply zbn)) K1 (GA.foot_far H.top)
    have Bl0 : w1.cell? ⟨w.heap.size, 0, none⟩ = some (.int .i64 s) := Bl.cell 0
    have Bl1 : w1.cell? ⟨w.heap.size, 1, none⟩ = some (.int .i64 f) := Bl.cell 1
    go_wp2_with fail
    with_reducible refine (Root_c (by with_reducible repeat (first | exact H1 | apply zha | apply zhd | apply zhn)) e3.out).mono ?_
    rintro _ w3 ⟨rfl, H3, K3⟩
    replace Bh := Blk.stays (by with_reducible repeat (first | exact Bh | apply zba | apply zbd | apply zbn)) K3 hf
    clear Bh0
    have Bh0 : w3.cell? ⟨hb, 0, none⟩ = some (.pointer (some ⟨A.g, 0, none⟩)) := Bh.cell 0
    replace Bl := Blk.stays (by with_reducible repeat (first | exact Bl | apply zba | apply zbd | apply zbn)) K3 (GA.foot_far H.top)
    clear Bl0 Bl1
    have Bl0 : w3.cell? ⟨w.heap.size, 0, none⟩ = some (.int .i64 s) := Bl.cell 0
    have Bl1 : w3.cell? ⟨w.heap.size, 1, none⟩ = some (.int .i64 f) := Bl.cell 1
    go_wp2_with fail
    with_reducible refine (hTake_c (by with_reducible repeat (first | exact H3 | apply zha | apply zhd | apply zhn)) hf (by with_reducible repeat (first | exact Bh | apply zba | apply zbd | apply zbn)) e4.out).mono ?_
    rintro _ w4 ⟨rfl, H4, K4⟩
    replace Bh := Blk.stays (by with_reducible repeat (first | exact Bh | apply zba | apply zbd | apply zbn)) K4 hf
    clear Bh0
    have Bh0 : w4.cell? ⟨hb, 0, none⟩ = some (.pointer (some ⟨A.g, 0, none⟩)) := Bh.cell 0
    replace Bl := Blk.stays (by with_reducible repeat (first | exact Bl | apply zba | apply zbd | apply zbn)) K4 (GA.foot_far H.top)
    clear Bl0 Bl1
    have Bl0 : w4.cell? ⟨w.heap.size, 0, none⟩ = some (.int .i64 s) := Bl.cell 0
    have Bl1 : w4.cell? ⟨w.heap.size, 1, none⟩ = some (.int .i64 f) := Bl.cell 1
    go_wp2_with fail
    with_reducible refine (hPay_c (by with_reducible repeat (first | exact H4 | apply zha | apply zhd | apply zhn)) hf (by with_reducible repeat (first | exact Bh | apply zba | apply zbd | apply zbn)) e5.out).mono ?_
    rintro _ w5 ⟨rfl, H5, K5⟩
    replace Bh := Blk.stays (by with_reducible repeat (first | exact Bh | apply zba | apply zbd | apply zbn)) K5 hf
    clear Bh0
    have Bh0 : w5.cell? ⟨hb, 0, none⟩ = some (.pointer (some ⟨A.g, 0, none⟩)) := Bh.cell 0
    replace Bl := Blk.stays (by with_reducible repeat (first | exact Bl | apply zba | apply zbd | apply zbn)) K5 (GA.foot_far H.top)
    clear Bl0 Bl1
    have Bl0 : w5.cell? ⟨w.heap.size, 0, none⟩ = some (.int .i64 s) := Bl.cell 0
    have Bl1 : w5.cell? ⟨w.heap.size, 1, none⟩ = some (.int .i64 f) := Bl.cell 1
    go_wp2_with fail
    go_ret
    exact ⟨by first | rfl | (simp; done) | (simp [*]; done), (by with_reducible repeat (first | exact H5 | apply zha | apply zhd | apply zhn)), by
      with_reducible repeat (first | apply zsa | apply zsd | apply zsn)
      refine Stays.trans ?_ K5
      with_reducible repeat (first | apply zsa | apply zsd | apply zsn)
      refine Stays.trans ?_ K4
      with_reducible repeat (first | apply zsa | apply zsd | apply zsn)
      refine Stays.trans ?_ K3
      with_reducible repeat (first | apply zsa | apply zsd | apply zsn)
      refine Stays.trans ?_ K1
      with_reducible repeat (first | apply zsa | apply zsd | apply zsn)
      exact Stays.refl _ _⟩
  · rw [if_neg c2] at e; have c2b : (es == 0) = false := beq_eq_false_iff_ne.2 c2; have c2n : (es != 0) = true := bne_iff_ne.2 c2
    obtain ⟨hv, rfl⟩ := GM.pure_eq e
    obtain rfl := hv
    go_enter Tryz.func136, Tryz.ntmps136
    have Bh0 : w.cell? ⟨hb, 0, none⟩ = some (.pointer (some ⟨A.g, 0, none⟩)) := Bh.cell 0
    have Bl := Blk.new w 3 #[.int .i64 s, .int .i64 f]
    replace Bh := Bh.alloc (Obj.cells #[.int .i64 s, .int .i64 f] 3)
    have Bh0 : (w.alloc (Obj.cells #[.int .i64 s, .int .i64 f] 3)).cell? ⟨hb, 0, none⟩ = some (.pointer (some ⟨A.g, 0, none⟩)) := Bh.cell 0
    go_wp2_with fail
    with_reducible refine (hSl2_c (by with_reducible repeat (first | exact H | apply zha | apply zhd | apply zhn)) hf (by with_reducible repeat (first | exact Bh | apply zba | apply zbd | apply zbn)) (GA.foot_far H.top) (by with_reducible repeat (first | exact Bl | apply zba | apply zbd | apply zbn)) e1.out).mono ?_
    rintro _ w1 ⟨rfl, H1, K1⟩
    replace Bh := Blk.stays (by with_reducible repeat (first | exact Bh | apply zba | apply zbd | apply zbn)) K1 hf
    clear Bh0
    have Bh0 : w1.cell? ⟨hb, 0, none⟩ = some (.pointer (some ⟨A.g, 0, none⟩)) := Bh.cell 0
    replace Bl := Blk.stays (by with_reducible repeat (first | exact Bl | apply zba | apply zbd | apply zbn)) K1 (GA.foot_far H.top)
    have Bl0 : w1.cell? ⟨w.heap.size, 0, none⟩ = some (.int .i64 s) := Bl.cell 0
    have Bl1 : w1.cell? ⟨w.heap.size, 1, none⟩ = some (.int .i64 f) := Bl.cell 1
    go_wp2_with fail
    go_ret
    exact ⟨by first | rfl | (simp; done) | (simp [*]; done), (by with_reducible repeat (first | exact H1 | apply zha | apply zhd | apply zhn)), by
      with_reducible repeat (first | apply zsa | apply zsd | apply zsn)
      refine Stays.trans ?_ K1
      with_reducible repeat (first | apply zsa | apply zsd | apply zsn)
      exact Stays.refl _ _⟩

def hDrop (s : Int) : GM Int :=
  hSl1 s >>= fun es =>
  if es = 0 then
    hTake s 0 >>= fun _ =>
    hPay 7 0 >>= fun pe =>
    pure pe
  else
    pure es

theorem hDrop_c {A : GA} {S : GS} {w : World} (H : Held A S w) {s : Int} {v0 : Int} {hb : Nat} (hf : ¬ A.foot hb) (Bh : Blk w hb 128 #[.pointer (some ⟨A.g, 0, none⟩)]) {T : GS} (e : hDrop s S = (v0, T)) :
    Calls Tryz.prog 137 #[.pointer (some ⟨hb, 0, none⟩), .int .i64 s] w (Did A w (.int .i64 v0) T) := by
  unfold hDrop at e
  replace e := GM.bind_eq e; obtain ⟨es, S1, e1_, e⟩ := e; have e1 := Hd.mk e1_; clear e1_
  by_cases c2 : es = 0
  · rw [if_pos c2] at e; subst c2
    replace e := GM.bind_eq e; obtain ⟨u3, S3, e3_, e⟩ := e; have e3 := Hd.mk e3_; clear e3_
    replace e := GM.bind_eq e; obtain ⟨pe, S4, e4_, e⟩ := e; have e4 := Hd.mk e4_; clear e4_
    obtain ⟨hv, rfl⟩ := GM.pure_eq e
    obtain rfl := hv
    go_enter Tryz.func137, Tryz.ntmps137
    have Bh0 : w.cell? ⟨hb, 0, none⟩ = some (.pointer (some ⟨A.g, 0, none⟩)) := Bh.cell 0
    have Bl := Blk.new w 3 #[.int .i64 s]
    replace Bh := Bh.alloc (Obj.cells #[.int .i64 s] 3)
    have Bh0 : (w.alloc (Obj.cells #[.int .i64 s] 3)).cell? ⟨hb, 0, none⟩ = some (.pointer (some ⟨A.g, 0, none⟩)) := Bh.cell 0
    go_wp2_with fail
    with_reducible refine (hSl1_c (by with_reducible repeat (first | exact H | apply zha | apply zhd | apply zhn)) hf (by with_reducible repeat (first | exact Bh | apply zba | apply zbd | apply zbn)) (GA.foot_far H.top) (by with_reducible repeat (first | exact Bl | apply zba | apply zbd | apply zbn)) e1.out).mono ?_
    rintro _ w1 ⟨rfl, H1, K1⟩
    replace Bh := Blk.stays (by with_reducible repeat (first | exact Bh | apply zba | apply zbd | apply zbn)) K1 hf
    clear Bh0
    have Bh0 : w1.cell? ⟨hb, 0, none⟩ = some (.pointer (some ⟨A.g, 0, none⟩)) := Bh.cell 0
    replace Bl := Blk.stays (by with_reducible repeat (first | exact Bl | apply zba | apply zbd | apply zbn)) K1 (GA.foot_far H.top)
    have Bl0 : w1.cell? ⟨w.heap.size, 0, none⟩ = some (.int .i64 s) := Bl.cell 0
    go_wp2_with fail
    with_reducible refine (hTake_c (by with_reducible repeat (first | exact H1 | apply zha | apply zhd | apply zhn)) hf (by with_reducible repeat (first | exact Bh | apply zba | apply zbd | apply zbn)) e3.out).mono ?_
    rintro _ w3 ⟨rfl, H3, K3⟩
    replace Bh := Blk.stays (by with_reducible repeat (first | exact Bh | apply zba | apply zbd | apply zbn)) K3 hf
    clear Bh0
    have Bh0 : w3.cell? ⟨hb, 0, none⟩ = some (.pointer (some ⟨A.g, 0, none⟩)) := Bh.cell 0
    replace Bl := Blk.stays (by with_reducible repeat (first | exact Bl | apply zba | apply zbd | apply zbn)) K3 (GA.foot_far H.top)
    clear Bl0
    have Bl0 : w3.cell? ⟨w.heap.size, 0, none⟩ = some (.int .i64 s) := Bl.cell 0
    go_wp2_with fail
    with_reducible refine (hPay_c (by with_reducible repeat (first | exact H3 | apply zha | apply zhd | apply zhn)) hf (by with_reducible repeat (first | exact Bh | apply zba | apply zbd | apply zbn)) e4.out).mono ?_
    rintro _ w4 ⟨rfl, H4, K4⟩
    replace Bh := Blk.stays (by with_reducible repeat (first | exact Bh | apply zba | apply zbd | apply zbn)) K4 hf
    clear Bh0
    have Bh0 : w4.cell? ⟨hb, 0, none⟩ = some (.pointer (some ⟨A.g, 0, none⟩)) := Bh.cell 0
    replace Bl := Blk.stays (by with_reducible repeat (first | exact Bl | apply zba | apply zbd | apply zbn)) K4 (GA.foot_far H.top)
    clear Bl0
    have Bl0 : w4.cell? ⟨w.heap.size, 0, none⟩ = some (.int .i64 s) := Bl.cell 0
    go_wp2_with fail
    go_ret
    exact ⟨by first | rfl | (simp; done) | (simp [*]; done), (by with_reducible repeat (first | exact H4 | apply zha | apply zhd | apply zhn)), by
      with_reducible repeat (first | apply zsa | apply zsd | apply zsn)
      refine Stays.trans ?_ K4
      with_reducible repeat (first | apply zsa | apply zsd | apply zsn)
      refine Stays.trans ?_ K3
      with_reducible repeat (first | apply zsa | apply zsd | apply zsn)
      refine Stays.trans ?_ K1
      with_reducible repeat (first | apply zsa | apply zsd | apply zsn)
      exact Stays.refl _ _⟩
  · rw [if_neg c2] at e; have c2b : (es == 0) = false := beq_eq_false_iff_ne.2 c2; have c2n : (es != 0) = true := bne_iff_ne.2 c2
    obtain ⟨hv, rfl⟩ := GM.pure_eq e
    obtain rfl := hv
    go_enter Tryz.func137, Tryz.ntmps137
    have Bh0 : w.cell? ⟨hb, 0, none⟩ = some (.pointer (some ⟨A.g, 0, none⟩)) := Bh.cell 0
    have Bl := Blk.new w 3 #[.int .i64 s]
    replace Bh := Bh.alloc (Obj.cells #[.int .i64 s] 3)
    have Bh0 : (w.alloc (Obj.cells #[.int .i64 s] 3)).cell? ⟨hb, 0, none⟩ = some (.pointer (some ⟨A.g, 0, none⟩)) := Bh.cell 0
    go_wp2_with fail
    with_reducible refine (hSl1_c (by with_reducible repeat (first | exact H | apply zha | apply zhd | apply zhn)) hf (by with_reducible repeat (first | exact Bh | apply zba | apply zbd | apply zbn)) (GA.foot_far H.top) (by with_reducible repeat (first | exact Bl | apply zba | apply zbd | apply zbn)) e1.out).mono ?_
    rintro _ w1 ⟨rfl, H1, K1⟩
    replace Bh := Blk.stays (by with_reducible repeat (first | exact Bh | apply zba | apply zbd | apply zbn)) K1 hf
    clear Bh0
    have Bh0 : w1.cell? ⟨hb, 0, none⟩ = some (.pointer (some ⟨A.g, 0, none⟩)) := Bh.cell 0
    replace Bl := Blk.stays (by with_reducible repeat (first | exact Bl | apply zba | apply zbd | apply zbn)) K1 (GA.foot_far H.top)
    have Bl0 : w1.cell? ⟨w.heap.size, 0, none⟩ = some (.int .i64 s) := Bl.cell 0
    go_wp2_with fail
    go_ret
    exact ⟨by first | rfl | (simp; done) | (simp [*]; done), (by with_reducible repeat (first | exact H1 | apply zha | apply zhd | apply zhn)), by
      with_reducible repeat (first | apply zsa | apply zsd | apply zsn)
      refine Stays.trans ?_ K1
      with_reducible repeat (first | apply zsa | apply zsd | apply zsn)
      exact Stays.refl _ _⟩

def hSame (s : Int) (f : Int) : GM (Bool × Int) :=
  hSl2 s f >>= fun es =>
  if es = 0 then
    Root s >>= fun x =>
    Root f >>= fun y =>
    if x = y then
      pure (true, 0)
    else
      pure (false, 0)
  else
    pure (false, es)

theorem hSame_c {A : GA} {S : GS} {w : World} (H : Held A S w) {s : Int} {f : Int} {v0 : Bool} {v1 : Int} {hb : Nat} (hf : ¬ A.foot hb) (Bh : Blk w hb 128 #[.pointer (some ⟨A.g, 0, none⟩)]) {T : GS} (e : hSame s f S = ((v0, v1), T)) :
    Calls Tryz.prog 138 #[.pointer (some ⟨hb, 0, none⟩), .int .i64 s, .int .i64 f] w (Did A w (.tuple #[.bool v0, .int .i64 v1]) T) := by
  unfold hSame at e
  replace e := GM.bind_eq e; obtain ⟨es, S1, e1_, e⟩ := e; have e1 := Hd.mk e1_; clear e1_
  by_cases c2 : es = 0
  · rw [if_pos c2] at e; subst c2
    replace e := GM.bind_eq e; obtain ⟨x, S3, e3_, e⟩ := e; have e3 := Hd.mk e3_; clear e3_
    replace e := GM.bind_eq e; obtain ⟨y, S4, e4_, e⟩ := e; have e4 := Hd.mk e4_; clear e4_
    by_cases c5 : x = y
    · rw [if_pos c5] at e; have c5b : (x == y) = true := beq_iff_eq.2 c5; have c5n : (x != y) = false := by rw [bne_eq_false_iff_eq]; exact c5
      clear c5
      obtain ⟨hv, rfl⟩ := GM.pure_eq e
      cases hv
      go_enter Tryz.func138, Tryz.ntmps138
      have Bh0 : w.cell? ⟨hb, 0, none⟩ = some (.pointer (some ⟨A.g, 0, none⟩)) := Bh.cell 0
      have Bl := Blk.new w 3 #[.int .i64 s, .int .i64 f]
      replace Bh := Bh.alloc (Obj.cells #[.int .i64 s, .int .i64 f] 3)
      have Bh0 : (w.alloc (Obj.cells #[.int .i64 s, .int .i64 f] 3)).cell? ⟨hb, 0, none⟩ = some (.pointer (some ⟨A.g, 0, none⟩)) := Bh.cell 0
      go_wp2_with fail
      with_reducible refine (hSl2_c (by with_reducible repeat (first | exact H | apply zha | apply zhd | apply zhn)) hf (by with_reducible repeat (first | exact Bh | apply zba | apply zbd | apply zbn)) (GA.foot_far H.top) (by with_reducible repeat (first | exact Bl | apply zba | apply zbd | apply zbn)) e1.out).mono ?_
      rintro _ w1 ⟨rfl, H1, K1⟩
      replace Bh := Blk.stays (by with_reducible repeat (first | exact Bh | apply zba | apply zbd | apply zbn)) K1 hf
      clear Bh0
      have Bh0 : w1.cell? ⟨hb, 0, none⟩ = some (.pointer (some ⟨A.g, 0, none⟩)) := Bh.cell 0
      replace Bl := Blk.stays (by with_reducible repeat (first | exact Bl | apply zba | apply zbd | apply zbn)) K1 (GA.foot_far H.top)
      have Bl0 : w1.cell? ⟨w.heap.size, 0, none⟩ = some (.int .i64 s) := Bl.cell 0
      have Bl1 : w1.cell? ⟨w.heap.size, 1, none⟩ = some (.int .i64 f) := Bl.cell 1
      go_wp2_with fail
      go_region_held3 (fun wx => wx.cell? ⟨hb, 0, none⟩ = some (.pointer (some ⟨A.g, 0, none⟩)) ∧ wx.cell? ⟨w.heap.size, 0, none⟩ = some (.int .i64 s) ∧ wx.cell? ⟨w.heap.size, 1, none⟩ = some (.int .i64 f))
        (first | exact ⟨Bh0, Bl0, Bl1⟩ | go_keep)
        (first | (go_at_call 209; (repeat (first | rw [IntWalk.i64_in _ (by omega)] | rw [IntWalk.u32_in _ (by omega)])); (with_reducible refine (Root_c (by with_reducible repeat (first | exact H1 | apply zha | apply zhd | apply zhn)) e3.out).mono ?_); (rintro _ w3 ⟨rfl, H3, K3⟩); replace Bh := Blk.stays (by with_reducible repeat (first | exact Bh | apply zba | apply zbd | apply zbn)) K3 hf; clear Bh0; have Bh0 : w3.cell? ⟨hb, 0, none⟩ = some (.pointer (some ⟨A.g, 0, none⟩)) := Bh.cell 0; replace Bl := Blk.stays (by with_reducible repeat (first | exact Bl | apply zba | apply zbd | apply zbn)) K3 (GA.foot_far H.top); clear Bl0 Bl1; have Bl0 : w3.cell? ⟨w.heap.size, 0, none⟩ = some (.int .i64 s) := Bl.cell 0; have Bl1 : w3.cell? ⟨w.heap.size, 1, none⟩ = some (.int .i64 f) := Bl.cell 1) | (go_at_call 209; (repeat (first | rw [IntWalk.i64_in _ (by omega)] | rw [IntWalk.u32_in _ (by omega)])); (with_reducible refine (Root_c (by with_reducible repeat (first | exact H3 | apply zha | apply zhd | apply zhn)) e4.out).mono ?_); (rintro _ w4 ⟨rfl, H4, K4⟩); replace Bh := Blk.stays (by with_reducible repeat (first | exact Bh | apply zba | apply zbd | apply zbn)) K4 hf; clear Bh0; have Bh0 : w4.cell? ⟨hb, 0, none⟩ = some (.pointer (some ⟨A.g, 0, none⟩)) := Bh.cell 0; replace Bl := Blk.stays (by with_reducible repeat (first | exact Bl | apply zba | apply zbd | apply zbn)) K4 (GA.foot_far H.top); clear Bl0 Bl1; have Bl0 : w4.cell? ⟨w.heap.size, 0, none⟩ = some (.int .i64 s) := Bl.cell 0; have Bl1 : w4.cell? ⟨w.heap.size, 1, none⟩ = some (.int .i64 f) := Bl.cell 1))
      go_wp2_with fail
      go_ret2
      exact ⟨by first | rfl | (simp; done) | (simp [*]; done), (by with_reducible repeat (first | exact H4 | apply zha | apply zhd | apply zhn)), by
        with_reducible repeat (first | apply zsa | apply zsd | apply zsn)
        refine Stays.trans ?_ K4
        with_reducible repeat (first | apply zsa | apply zsd | apply zsn)
        refine Stays.trans ?_ K3
        with_reducible repeat (first | apply zsa | apply zsd | apply zsn)
        refine Stays.trans ?_ K1
        with_reducible repeat (first | apply zsa | apply zsd | apply zsn)
        exact Stays.refl _ _⟩
    · rw [if_neg c5] at e; have c5b : (x == y) = false := beq_eq_false_iff_ne.2 c5; have c5n : (x != y) = true := bne_iff_ne.2 c5
      obtain ⟨hv, rfl⟩ := GM.pure_eq e
      cases hv
      go_enter Tryz.func138, Tryz.ntmps138
      have Bh0 : w.cell? ⟨hb, 0, none⟩ = some (.pointer (some ⟨A.g, 0, none⟩)) := Bh.cell 0
      have Bl := Blk.new w 3 #[.int .i64 s, .int .i64 f]
      replace Bh := Bh.alloc (Obj.cells #[.int .i64 s, .int .i64 f] 3)
      have Bh0 : (w.alloc (Obj.cells #[.int .i64 s, .int .i64 f] 3)).cell? ⟨hb, 0, none⟩ = some (.pointer (some ⟨A.g, 0, none⟩)) := Bh.cell 0
      go_wp2_with fail
      with_reducible refine (hSl2_c (by with_reducible repeat (first | exact H | apply zha | apply zhd | apply zhn)) hf (by with_reducible repeat (first | exact Bh | apply zba | apply zbd | apply zbn)) (GA.foot_far H.top) (by with_reducible repeat (first | exact Bl | apply zba | apply zbd | apply zbn)) e1.out).mono ?_
      rintro _ w1 ⟨rfl, H1, K1⟩
      replace Bh := Blk.stays (by with_reducible repeat (first | exact Bh | apply zba | apply zbd | apply zbn)) K1 hf
      clear Bh0
      have Bh0 : w1.cell? ⟨hb, 0, none⟩ = some (.pointer (some ⟨A.g, 0, none⟩)) := Bh.cell 0
      replace Bl := Blk.stays (by with_reducible repeat (first | exact Bl | apply zba | apply zbd | apply zbn)) K1 (GA.foot_far H.top)
      have Bl0 : w1.cell? ⟨w.heap.size, 0, none⟩ = some (.int .i64 s) := Bl.cell 0
      have Bl1 : w1.cell? ⟨w.heap.size, 1, none⟩ = some (.int .i64 f) := Bl.cell 1
      go_wp2_with fail
      go_region_held3 (fun wx => wx.cell? ⟨hb, 0, none⟩ = some (.pointer (some ⟨A.g, 0, none⟩)) ∧ wx.cell? ⟨w.heap.size, 0, none⟩ = some (.int .i64 s) ∧ wx.cell? ⟨w.heap.size, 1, none⟩ = some (.int .i64 f))
        (first | exact ⟨Bh0, Bl0, Bl1⟩ | go_keep)
        (first | (go_at_call 209; (repeat (first | rw [IntWalk.i64_in _ (by omega)] | rw [IntWalk.u32_in _ (by omega)])); (with_reducible refine (Root_c (by with_reducible repeat (first | exact H1 | apply zha | apply zhd | apply zhn)) e3.out).mono ?_); (rintro _ w3 ⟨rfl, H3, K3⟩); replace Bh := Blk.stays (by with_reducible repeat (first | exact Bh | apply zba | apply zbd | apply zbn)) K3 hf; clear Bh0; have Bh0 : w3.cell? ⟨hb, 0, none⟩ = some (.pointer (some ⟨A.g, 0, none⟩)) := Bh.cell 0; replace Bl := Blk.stays (by with_reducible repeat (first | exact Bl | apply zba | apply zbd | apply zbn)) K3 (GA.foot_far H.top); clear Bl0 Bl1; have Bl0 : w3.cell? ⟨w.heap.size, 0, none⟩ = some (.int .i64 s) := Bl.cell 0; have Bl1 : w3.cell? ⟨w.heap.size, 1, none⟩ = some (.int .i64 f) := Bl.cell 1) | (go_at_call 209; (repeat (first | rw [IntWalk.i64_in _ (by omega)] | rw [IntWalk.u32_in _ (by omega)])); (with_reducible refine (Root_c (by with_reducible repeat (first | exact H3 | apply zha | apply zhd | apply zhn)) e4.out).mono ?_); (rintro _ w4 ⟨rfl, H4, K4⟩); replace Bh := Blk.stays (by with_reducible repeat (first | exact Bh | apply zba | apply zbd | apply zbn)) K4 hf; clear Bh0; have Bh0 : w4.cell? ⟨hb, 0, none⟩ = some (.pointer (some ⟨A.g, 0, none⟩)) := Bh.cell 0; replace Bl := Blk.stays (by with_reducible repeat (first | exact Bl | apply zba | apply zbd | apply zbn)) K4 (GA.foot_far H.top); clear Bl0 Bl1; have Bl0 : w4.cell? ⟨w.heap.size, 0, none⟩ = some (.int .i64 s) := Bl.cell 0; have Bl1 : w4.cell? ⟨w.heap.size, 1, none⟩ = some (.int .i64 f) := Bl.cell 1))
      go_wp2_with fail
      go_ret2
      exact ⟨by first | rfl | (simp; done) | (simp [*]; done), (by with_reducible repeat (first | exact H4 | apply zha | apply zhd | apply zhn)), by
        with_reducible repeat (first | apply zsa | apply zsd | apply zsn)
        refine Stays.trans ?_ K4
        with_reducible repeat (first | apply zsa | apply zsd | apply zsn)
        refine Stays.trans ?_ K3
        with_reducible repeat (first | apply zsa | apply zsd | apply zsn)
        refine Stays.trans ?_ K1
        with_reducible repeat (first | apply zsa | apply zsd | apply zsn)
        exact Stays.refl _ _⟩
  · rw [if_neg c2] at e; have c2b : (es == 0) = false := beq_eq_false_iff_ne.2 c2; have c2n : (es != 0) = true := bne_iff_ne.2 c2
    obtain ⟨hv, rfl⟩ := GM.pure_eq e
    cases hv
    go_enter Tryz.func138, Tryz.ntmps138
    have Bh0 : w.cell? ⟨hb, 0, none⟩ = some (.pointer (some ⟨A.g, 0, none⟩)) := Bh.cell 0
    have Bl := Blk.new w 3 #[.int .i64 s, .int .i64 f]
    replace Bh := Bh.alloc (Obj.cells #[.int .i64 s, .int .i64 f] 3)
    have Bh0 : (w.alloc (Obj.cells #[.int .i64 s, .int .i64 f] 3)).cell? ⟨hb, 0, none⟩ = some (.pointer (some ⟨A.g, 0, none⟩)) := Bh.cell 0
    go_wp2_with fail
    with_reducible refine (hSl2_c (by with_reducible repeat (first | exact H | apply zha | apply zhd | apply zhn)) hf (by with_reducible repeat (first | exact Bh | apply zba | apply zbd | apply zbn)) (GA.foot_far H.top) (by with_reducible repeat (first | exact Bl | apply zba | apply zbd | apply zbn)) e1.out).mono ?_
    rintro _ w1 ⟨rfl, H1, K1⟩
    replace Bh := Blk.stays (by with_reducible repeat (first | exact Bh | apply zba | apply zbd | apply zbn)) K1 hf
    clear Bh0
    have Bh0 : w1.cell? ⟨hb, 0, none⟩ = some (.pointer (some ⟨A.g, 0, none⟩)) := Bh.cell 0
    replace Bl := Blk.stays (by with_reducible repeat (first | exact Bl | apply zba | apply zbd | apply zbn)) K1 (GA.foot_far H.top)
    have Bl0 : w1.cell? ⟨w.heap.size, 0, none⟩ = some (.int .i64 s) := Bl.cell 0
    have Bl1 : w1.cell? ⟨w.heap.size, 1, none⟩ = some (.int .i64 f) := Bl.cell 1
    go_wp2_with fail
    go_ret2
    exact ⟨by first | rfl | (simp; done) | (simp [*]; done), (by with_reducible repeat (first | exact H1 | apply zha | apply zhd | apply zhn)), by
      with_reducible repeat (first | apply zsa | apply zsd | apply zsn)
      refine Stays.trans ?_ K1
      with_reducible repeat (first | apply zsa | apply zsd | apply zsn)
      exact Stays.refl _ _⟩

def hLen (s : Int) : GM (Int × Int × Int) :=
  hSl1 s >>= fun es =>
  if es = 0 then
    hIn s >>= fun ⟨r, er⟩ =>
    if er = 0 then
      obLens r >>= fun ⟨n, d, e2⟩ =>
      pure (n, d, e2)
    else
      pure (0, 0, er)
  else
    pure (0, 0, es)

theorem hLen_c {A : GA} {S : GS} {w : World} (H : Held A S w) {s : Int} {v0 : Int} {v1 : Int} {v2 : Int} {hb : Nat} (hf : ¬ A.foot hb) (Bh : Blk w hb 128 #[.pointer (some ⟨A.g, 0, none⟩)]) {T : GS} (e : hLen s S = ((v0, v1, v2), T)) :
    Calls Tryz.prog 139 #[.pointer (some ⟨hb, 0, none⟩), .int .i64 s] w (Did A w (.tuple #[.int .i64 v0, .int .i64 v1, .int .i64 v2]) T) := by
  unfold hLen at e
  replace e := GM.bind_eq e; obtain ⟨es, S1, e1_, e⟩ := e; have e1 := Hd.mk e1_; clear e1_
  by_cases c2 : es = 0
  · rw [if_pos c2] at e; subst c2
    replace e := GM.bind_eq e; obtain ⟨⟨r, er⟩, S3, e3_, e⟩ := e; have e3 := Hd.mk e3_; clear e3_
    try dsimp only at e
    by_cases c4 : er = 0
    · rw [if_pos c4] at e; subst c4
      replace e := GM.bind_eq e; obtain ⟨⟨n, d, e2⟩, S5, e5_, e⟩ := e; have e5 := Hd.mk e5_; clear e5_
      try dsimp only at e
      obtain ⟨hv, rfl⟩ := GM.pure_eq e
      cases hv
      go_enter Tryz.func139, Tryz.ntmps139
      have Bh0 : w.cell? ⟨hb, 0, none⟩ = some (.pointer (some ⟨A.g, 0, none⟩)) := Bh.cell 0
      have Bl := Blk.new w 3 #[.int .i64 s]
      replace Bh := Bh.alloc (Obj.cells #[.int .i64 s] 3)
      have Bh0 : (w.alloc (Obj.cells #[.int .i64 s] 3)).cell? ⟨hb, 0, none⟩ = some (.pointer (some ⟨A.g, 0, none⟩)) := Bh.cell 0
      go_wp2_with fail
      with_reducible refine (hSl1_c (by with_reducible repeat (first | exact H | apply zha | apply zhd | apply zhn)) hf (by with_reducible repeat (first | exact Bh | apply zba | apply zbd | apply zbn)) (GA.foot_far H.top) (by with_reducible repeat (first | exact Bl | apply zba | apply zbd | apply zbn)) e1.out).mono ?_
      rintro _ w1 ⟨rfl, H1, K1⟩
      replace Bh := Blk.stays (by with_reducible repeat (first | exact Bh | apply zba | apply zbd | apply zbn)) K1 hf
      clear Bh0
      have Bh0 : w1.cell? ⟨hb, 0, none⟩ = some (.pointer (some ⟨A.g, 0, none⟩)) := Bh.cell 0
      replace Bl := Blk.stays (by with_reducible repeat (first | exact Bl | apply zba | apply zbd | apply zbn)) K1 (GA.foot_far H.top)
      have Bl0 : w1.cell? ⟨w.heap.size, 0, none⟩ = some (.int .i64 s) := Bl.cell 0
      go_wp2_with fail
      with_reducible refine (hIn_c (by with_reducible repeat (first | exact H1 | apply zha | apply zhd | apply zhn)) hf (by with_reducible repeat (first | exact Bh | apply zba | apply zbd | apply zbn)) e3.out).mono ?_
      rintro _ w3 ⟨rfl, H3, K3⟩
      replace Bh := Blk.stays (by with_reducible repeat (first | exact Bh | apply zba | apply zbd | apply zbn)) K3 hf
      clear Bh0
      have Bh0 : w3.cell? ⟨hb, 0, none⟩ = some (.pointer (some ⟨A.g, 0, none⟩)) := Bh.cell 0
      replace Bl := Blk.stays (by with_reducible repeat (first | exact Bl | apply zba | apply zbd | apply zbn)) K3 (GA.foot_far H.top)
      clear Bl0
      have Bl0 : w3.cell? ⟨w.heap.size, 0, none⟩ = some (.int .i64 s) := Bl.cell 0
      go_wp2_with fail
      with_reducible refine (obLens_c (by with_reducible repeat (first | exact H3 | apply zha | apply zhd | apply zhn)) e5.out).mono ?_
      rintro _ w5 ⟨rfl, H5, K5⟩
      replace Bh := Blk.stays (by with_reducible repeat (first | exact Bh | apply zba | apply zbd | apply zbn)) K5 hf
      clear Bh0
      have Bh0 : w5.cell? ⟨hb, 0, none⟩ = some (.pointer (some ⟨A.g, 0, none⟩)) := Bh.cell 0
      replace Bl := Blk.stays (by with_reducible repeat (first | exact Bl | apply zba | apply zbd | apply zbn)) K5 (GA.foot_far H.top)
      clear Bl0
      have Bl0 : w5.cell? ⟨w.heap.size, 0, none⟩ = some (.int .i64 s) := Bl.cell 0
      go_wp2_with fail
      go_ret3
      exact ⟨by first | rfl | (simp; done) | (simp [*]; done), (by with_reducible repeat (first | exact H5 | apply zha | apply zhd | apply zhn)), by
        with_reducible repeat (first | apply zsa | apply zsd | apply zsn)
        refine Stays.trans ?_ K5
        with_reducible repeat (first | apply zsa | apply zsd | apply zsn)
        refine Stays.trans ?_ K3
        with_reducible repeat (first | apply zsa | apply zsd | apply zsn)
        refine Stays.trans ?_ K1
        with_reducible repeat (first | apply zsa | apply zsd | apply zsn)
        exact Stays.refl _ _⟩
    · rw [if_neg c4] at e; have c4b : (er == 0) = false := beq_eq_false_iff_ne.2 c4; have c4n : (er != 0) = true := bne_iff_ne.2 c4
      obtain ⟨hv, rfl⟩ := GM.pure_eq e
      cases hv
      go_enter Tryz.func139, Tryz.ntmps139
      have Bh0 : w.cell? ⟨hb, 0, none⟩ = some (.pointer (some ⟨A.g, 0, none⟩)) := Bh.cell 0
      have Bl := Blk.new w 3 #[.int .i64 s]
      replace Bh := Bh.alloc (Obj.cells #[.int .i64 s] 3)
      have Bh0 : (w.alloc (Obj.cells #[.int .i64 s] 3)).cell? ⟨hb, 0, none⟩ = some (.pointer (some ⟨A.g, 0, none⟩)) := Bh.cell 0
      go_wp2_with fail
      with_reducible refine (hSl1_c (by with_reducible repeat (first | exact H | apply zha | apply zhd | apply zhn)) hf (by with_reducible repeat (first | exact Bh | apply zba | apply zbd | apply zbn)) (GA.foot_far H.top) (by with_reducible repeat (first | exact Bl | apply zba | apply zbd | apply zbn)) e1.out).mono ?_
      rintro _ w1 ⟨rfl, H1, K1⟩
      replace Bh := Blk.stays (by with_reducible repeat (first | exact Bh | apply zba | apply zbd | apply zbn)) K1 hf
      clear Bh0
      have Bh0 : w1.cell? ⟨hb, 0, none⟩ = some (.pointer (some ⟨A.g, 0, none⟩)) := Bh.cell 0
      replace Bl := Blk.stays (by with_reducible repeat (first | exact Bl | apply zba | apply zbd | apply zbn)) K1 (GA.foot_far H.top)
      have Bl0 : w1.cell? ⟨w.heap.size, 0, none⟩ = some (.int .i64 s) := Bl.cell 0
      go_wp2_with fail
      with_reducible refine (hIn_c (by with_reducible repeat (first | exact H1 | apply zha | apply zhd | apply zhn)) hf (by with_reducible repeat (first | exact Bh | apply zba | apply zbd | apply zbn)) e3.out).mono ?_
      rintro _ w3 ⟨rfl, H3, K3⟩
      replace Bh := Blk.stays (by with_reducible repeat (first | exact Bh | apply zba | apply zbd | apply zbn)) K3 hf
      clear Bh0
      have Bh0 : w3.cell? ⟨hb, 0, none⟩ = some (.pointer (some ⟨A.g, 0, none⟩)) := Bh.cell 0
      replace Bl := Blk.stays (by with_reducible repeat (first | exact Bl | apply zba | apply zbd | apply zbn)) K3 (GA.foot_far H.top)
      clear Bl0
      have Bl0 : w3.cell? ⟨w.heap.size, 0, none⟩ = some (.int .i64 s) := Bl.cell 0
      go_wp2_with fail
      go_ret3
      exact ⟨by first | rfl | (simp; done) | (simp [*]; done), (by with_reducible repeat (first | exact H3 | apply zha | apply zhd | apply zhn)), by
        with_reducible repeat (first | apply zsa | apply zsd | apply zsn)
        refine Stays.trans ?_ K3
        with_reducible repeat (first | apply zsa | apply zsd | apply zsn)
        refine Stays.trans ?_ K1
        with_reducible repeat (first | apply zsa | apply zsd | apply zsn)
        exact Stays.refl _ _⟩
  · rw [if_neg c2] at e; have c2b : (es == 0) = false := beq_eq_false_iff_ne.2 c2; have c2n : (es != 0) = true := bne_iff_ne.2 c2
    obtain ⟨hv, rfl⟩ := GM.pure_eq e
    cases hv
    go_enter Tryz.func139, Tryz.ntmps139
    have Bh0 : w.cell? ⟨hb, 0, none⟩ = some (.pointer (some ⟨A.g, 0, none⟩)) := Bh.cell 0
    have Bl := Blk.new w 3 #[.int .i64 s]
    replace Bh := Bh.alloc (Obj.cells #[.int .i64 s] 3)
    have Bh0 : (w.alloc (Obj.cells #[.int .i64 s] 3)).cell? ⟨hb, 0, none⟩ = some (.pointer (some ⟨A.g, 0, none⟩)) := Bh.cell 0
    go_wp2_with fail
    with_reducible refine (hSl1_c (by with_reducible repeat (first | exact H | apply zha | apply zhd | apply zhn)) hf (by with_reducible repeat (first | exact Bh | apply zba | apply zbd | apply zbn)) (GA.foot_far H.top) (by with_reducible repeat (first | exact Bl | apply zba | apply zbd | apply zbn)) e1.out).mono ?_
    rintro _ w1 ⟨rfl, H1, K1⟩
    replace Bh := Blk.stays (by with_reducible repeat (first | exact Bh | apply zba | apply zbd | apply zbn)) K1 hf
    clear Bh0
    have Bh0 : w1.cell? ⟨hb, 0, none⟩ = some (.pointer (some ⟨A.g, 0, none⟩)) := Bh.cell 0
    replace Bl := Blk.stays (by with_reducible repeat (first | exact Bl | apply zba | apply zbd | apply zbn)) K1 (GA.foot_far H.top)
    have Bl0 : w1.cell? ⟨w.heap.size, 0, none⟩ = some (.int .i64 s) := Bl.cell 0
    go_wp2_with fail
    go_ret3
    exact ⟨by first | rfl | (simp; done) | (simp [*]; done), (by with_reducible repeat (first | exact H1 | apply zha | apply zhd | apply zhn)), by
      with_reducible repeat (first | apply zsa | apply zsd | apply zsn)
      refine Stays.trans ?_ K1
      with_reducible repeat (first | apply zsa | apply zsd | apply zsn)
      exact Stays.refl _ _⟩

def hTick : GM Int :=
  paTick >>= fun _ =>
  pure 0

theorem hTick_c {A : GA} {S : GS} {w : World} (H : Held A S w) {v0 : Int} {hb : Nat} (hf : ¬ A.foot hb) (Bh : Blk w hb 128 #[.pointer (some ⟨A.g, 0, none⟩)]) {T : GS} (e : hTick S = (v0, T)) :
    Calls Tryz.prog 140 #[.pointer (some ⟨hb, 0, none⟩)] w (Did A w (.int .i64 v0) T) := by
  unfold hTick at e
  replace e := GM.bind_eq e; obtain ⟨u1, S1, e1_, e⟩ := e; have e1 := Hd.mk e1_; clear e1_
  obtain ⟨hv, rfl⟩ := GM.pure_eq e
  obtain rfl := hv
  go_enter Tryz.func140, Tryz.ntmps140
  have Bh0 : w.cell? ⟨hb, 0, none⟩ = some (.pointer (some ⟨A.g, 0, none⟩)) := Bh.cell 0
  go_wp2_with fail
  with_reducible refine (paTick_c (by with_reducible repeat (first | exact H | apply zha | apply zhd | apply zhn)) e1.out).mono ?_
  rintro _ w1 ⟨rfl, H1, K1⟩
  replace Bh := Blk.stays (by with_reducible repeat (first | exact Bh | apply zba | apply zbd | apply zbn)) K1 hf
  have Bh0 : w1.cell? ⟨hb, 0, none⟩ = some (.pointer (some ⟨A.g, 0, none⟩)) := Bh.cell 0
  go_wp2_with fail
  go_ret
  exact ⟨by first | rfl | (simp; done) | (simp [*]; done), (by with_reducible repeat (first | exact H1 | apply zha | apply zhd | apply zhn)), by
    with_reducible repeat (first | apply zsa | apply zsd | apply zsn)
    refine Stays.trans ?_ K1
    with_reducible repeat (first | apply zsa | apply zsd | apply zsn)
    exact Stays.refl _ _⟩
end Go.Proofs.YtadhdjldcpkfiaaGreatDoor
