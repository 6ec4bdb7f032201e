/- op.Bare and op.Plain of an operation of some kind. Nothing is asked but that. -/
import Derived.Test.YtadhdjldcpkfiaaGreatDoorB22
namespace Go.Proofs.YtadhdjldcpkfiaaGreatDoor
set_option linter.unusedVariables false
set_option linter.unusedSimpArgs false
open Go.RowKit
set_option maxRecDepth 100000
set_option maxHeartbeats 3200000

/-- An operation with what it needs alone. -/
def bareO (o : Op5) : Op5 := if o.kind = 5 then ⟨5, o.a, o.b, 0, o.v⟩ else if o.kind = 1 ∨ o.kind = 2 ∨ o.kind = 3 then ⟨o.kind, o.a, o.b, o.c, 0⟩ else if o.kind = 4 ∨ o.kind = 6 ∨ o.kind = 8 then ⟨o.kind, o.a, o.b, 0, 0⟩ else if o.kind = 7 ∨ o.kind = 9 then ⟨o.kind, o.a, 0, 0, 0⟩ else ⟨10, 0, 0, 0, 0⟩
theorem BareK1_c (a b c v : Int) (w : World) : Calls Tryz.prog 77 #[.agg #[.int .i64 1, .int .i64 a, .int .i64 b, .int .i64 c, .int .u32 v]] w (Made w (.agg #[.int .i64 1, .int .i64 a, .int .i64 b, .int .i64 c, .int .u32 0])) := by
  have BZ : Blk (((w.alloc (.cells #[.int .i64 1, .int .i64 a, .int .i64 b, .int .i64 c, .int .u32 v] 53)).alloc (.cells #[.int .i64 1, .int .i64 a, .int .i64 b, .int .i64 c, .int .u32 0] 53)).alloc (.cells #[.int .i64 1, .int .i64 a, .int .i64 b, .int .i64 c, .int .u32 0] 53)) (w.heap.size + 1) 53 #[.int .i64 1, .int .i64 a, .int .i64 b, .int .i64 c, .int .u32 0] := by
    have h := (Blk.new (w.alloc (.cells #[.int .i64 1, .int .i64 a, .int .i64 b, .int .i64 c, .int .u32 v] 53)) 53 #[.int .i64 1, .int .i64 a, .int .i64 b, .int .i64 c, .int .u32 0]).alloc (.cells #[.int .i64 1, .int .i64 a, .int .i64 b, .int .i64 c, .int .u32 0] 53)
    simpa using h
  go_enter Tryz.func77, Tryz.ntmps77
  go_wp2_with fail
  refine bodyPost_ret (results_blk (P := Tryz.prog) (p := 2) (ty := 53) rfl _ _ (w.heap.size + 1) 53 _ _ rfl BZ Tryz.underlying53 rfl (by kernel_rfl)) rfl ?_
  exact ⟨rfl, (((Stays.refl _ _).alloc _).alloc _).alloc _⟩
theorem BareK2_c (a b c v : Int) (w : World) : Calls Tryz.prog 77 #[.agg #[.int .i64 2, .int .i64 a, .int .i64 b, .int .i64 c, .int .u32 v]] w (Made w (.agg #[.int .i64 2, .int .i64 a, .int .i64 b, .int .i64 c, .int .u32 0])) := by
  have BZ : Blk (((w.alloc (.cells #[.int .i64 2, .int .i64 a, .int .i64 b, .int .i64 c, .int .u32 v] 53)).alloc (.cells #[.int .i64 2, .int .i64 a, .int .i64 b, .int .i64 c, .int .u32 0] 53)).alloc (.cells #[.int .i64 2, .int .i64 a, .int .i64 b, .int .i64 c, .int .u32 0] 53)) (w.heap.size + 1) 53 #[.int .i64 2, .int .i64 a, .int .i64 b, .int .i64 c, .int .u32 0] := by
    have h := (Blk.new (w.alloc (.cells #[.int .i64 2, .int .i64 a, .int .i64 b, .int .i64 c, .int .u32 v] 53)) 53 #[.int .i64 2, .int .i64 a, .int .i64 b, .int .i64 c, .int .u32 0]).alloc (.cells #[.int .i64 2, .int .i64 a, .int .i64 b, .int .i64 c, .int .u32 0] 53)
    simpa using h
  go_enter Tryz.func77, Tryz.ntmps77
  go_wp2_with fail
  refine bodyPost_ret (results_blk (P := Tryz.prog) (p := 2) (ty := 53) rfl _ _ (w.heap.size + 1) 53 _ _ rfl BZ Tryz.underlying53 rfl (by kernel_rfl)) rfl ?_
  exact ⟨rfl, (((Stays.refl _ _).alloc _).alloc _).alloc _⟩
theorem BareK3_c (a b c v : Int) (w : World) : Calls Tryz.prog 77 #[.agg #[.int .i64 3, .int .i64 a, .int .i64 b, .int .i64 c, .int .u32 v]] w (Made w (.agg #[.int .i64 3, .int .i64 a, .int .i64 b, .int .i64 c, .int .u32 0])) := by
  have BZ : Blk (((w.alloc (.cells #[.int .i64 3, .int .i64 a, .int .i64 b, .int .i64 c, .int .u32 v] 53)).alloc (.cells #[.int .i64 3, .int .i64 a, .int .i64 b, .int .i64 c, .int .u32 0] 53)).alloc (.cells #[.int .i64 3, .int .i64 a, .int .i64 b, .int .i64 c, .int .u32 0] 53)) (w.heap.size + 1) 53 #[.int .i64 3, .int .i64 a, .int .i64 b, .int .i64 c, .int .u32 0] := by
    have h := (Blk.new (w.alloc (.cells #[.int .i64 3, .int .i64 a, .int .i64 b, .int .i64 c, .int .u32 v] 53)) 53 #[.int .i64 3, .int .i64 a, .int .i64 b, .int .i64 c, .int .u32 0]).alloc (.cells #[.int .i64 3, .int .i64 a, .int .i64 b, .int .i64 c, .int .u32 0] 53)
    simpa using h
  go_enter Tryz.func77, Tryz.ntmps77
  go_wp2_with fail
  refine bodyPost_ret (results_blk (P := Tryz.prog) (p := 2) (ty := 53) rfl _ _ (w.heap.size + 1) 53 _ _ rfl BZ Tryz.underlying53 rfl (by kernel_rfl)) rfl ?_
  exact ⟨rfl, (((Stays.refl _ _).alloc _).alloc _).alloc _⟩
theorem BareK4_c (a b c v : Int) (w : World) : Calls Tryz.prog 77 #[.agg #[.int .i64 4, .int .i64 a, .int .i64 b, .int .i64 c, .int .u32 v]] w (Made w (.agg #[.int .i64 4, .int .i64 a, .int .i64 b, .int .i64 0, .int .u32 0])) := by
  have BZ : Blk (((w.alloc (.cells #[.int .i64 4, .int .i64 a, .int .i64 b, .int .i64 c, .int .u32 v] 53)).alloc (.cells #[.int .i64 4, .int .i64 a, .int .i64 b, .int .i64 0, .int .u32 0] 53)).alloc (.cells #[.int .i64 4, .int .i64 a, .int .i64 b, .int .i64 0, .int .u32 0] 53)) (w.heap.size + 1) 53 #[.int .i64 4, .int .i64 a, .int .i64 b, .int .i64 0, .int .u32 0] := by
    have h := (Blk.new (w.alloc (.cells #[.int .i64 4, .int .i64 a, .int .i64 b, .int .i64 c, .int .u32 v] 53)) 53 #[.int .i64 4, .int .i64 a, .int .i64 b, .int .i64 0, .int .u32 0]).alloc (.cells #[.int .i64 4, .int .i64 a, .int .i64 b, .int .i64 0, .int .u32 0] 53)
    simpa using h
  go_enter Tryz.func77, Tryz.ntmps77
  go_wp2_with fail
  refine bodyPost_ret (results_blk (P := Tryz.prog) (p := 2) (ty := 53) rfl _ _ (w.heap.size + 1) 53 _ _ rfl BZ Tryz.underlying53 rfl (by kernel_rfl)) rfl ?_
  exact ⟨rfl, (((Stays.refl _ _).alloc _).alloc _).alloc _⟩
theorem BareK5_c (a b c v : Int) (w : World) : Calls Tryz.prog 77 #[.agg #[.int .i64 5, .int .i64 a, .int .i64 b, .int .i64 c, .int .u32 v]] w (Made w (.agg #[.int .i64 5, .int .i64 a, .int .i64 b, .int .i64 0, .int .u32 v])) := by
  obtain ⟨wq, hq⟩ : ∃ wq, wq = (((w.alloc (.cells #[.int .i64 5, .int .i64 a, .int .i64 b, .int .i64 c, .int .u32 v] 53)).alloc (.cells #[.int .i64 0, .int .i64 0, .int .i64 0, .int .i64 0, .int .u32 0] 53)).alloc (.cells #[.int .i64 5, .int .i64 0, .int .i64 0, .int .i64 0, .int .u32 v] 53)) := ⟨_, rfl⟩
  have BX : Blk wq w.heap.size 53 #[.int .i64 5, .int .i64 a, .int .i64 b, .int .i64 c, .int .u32 v] := by rw [hq]; exact ((Blk.new w _ _).alloc _).alloc _
  have BR : Blk wq (w.heap.size + 1) 53 #[.int .i64 0, .int .i64 0, .int .i64 0, .int .i64 0, .int .u32 0] := by
    rw [hq]
    have h := (Blk.new (w.alloc (.cells #[.int .i64 5, .int .i64 a, .int .i64 b, .int .i64 c, .int .u32 v] 53)) 53 #[.int .i64 0, .int .i64 0, .int .i64 0, .int .i64 0, .int .u32 0]).alloc (.cells #[.int .i64 5, .int .i64 0, .int .i64 0, .int .i64 0, .int .u32 v] 53)
    simpa using h
  have BG : Blk wq (w.heap.size + 1 + 1) 53 #[.int .i64 5, .int .i64 0, .int .i64 0, .int .i64 0, .int .u32 v] := by
    rw [hq]
    have h := Blk.new ((w.alloc (.cells #[.int .i64 5, .int .i64 a, .int .i64 b, .int .i64 c, .int .u32 v] 53)).alloc (.cells #[.int .i64 0, .int .i64 0, .int .i64 0, .int .i64 0, .int .u32 0] 53)) 53 #[.int .i64 5, .int .i64 0, .int .i64 0, .int .i64 0, .int .u32 v]
    simpa using h
  have KQ : Hd (Stays (fun _ => False) w wq) := ⟨by rw [hq]; exact (((Stays.refl _ _).alloc _).alloc _).alloc _⟩
  have hg : Hd (w.heap.size ≠ (w.heap.size + 1 + 1)) := ⟨by omega⟩
  have hg1 : Hd (w.heap.size + 1 ≠ (w.heap.size + 1 + 1)) := ⟨by omega⟩
  have hgs : Hd (w.heap.size ≤ (w.heap.size + 1 + 1)) := ⟨by omega⟩
  have HQ := Hd.mk hq
  clear hq
  go_enter Tryz.func77, Tryz.ntmps77
  go_upto_region 14 with fail
  rw [← HQ.out]
  go_cut [] (fun wx => Blk wx (w.heap.size + 1 + 1) 53 #[.int .i64 5, .int .i64 a, .int .i64 b, .int .i64 0, .int .u32 v] ∧ Blk wx (w.heap.size + 1) 53 #[.int .i64 0, .int .i64 0, .int .i64 0, .int .i64 0, .int .u32 0] ∧ Stays (fun _ => False) w wx)
  case first =>
    have x1 := BX.cell 1
    have x2 := BX.cell 2
    have g1 : wq.cell? ⟨(w.heap.size + 1 + 1), 1, none⟩ = some (atv wq (w.heap.size + 1 + 1) 1) := atv_blk BG (by simp)
    have g2 : wq.cell? ⟨(w.heap.size + 1 + 1), 2, none⟩ = some (atv wq (w.heap.size + 1 + 1) 2) := atv_blk BG (by simp)
    have f1 : wq.frozen? ⟨(w.heap.size + 1 + 1), 1, none⟩ = false := BG.frozen 1
    have f2 : wq.frozen? ⟨(w.heap.size + 1 + 1), 2, none⟩ = false := BG.frozen 2
    go_region_held3 (fun wx => wx.cell? ⟨w.heap.size, 1, none⟩ = some (.int .i64 a) ∧ wx.cell? ⟨w.heap.size, 2, none⟩ = some (.int .i64 b) ∧ wx.cell? ⟨(w.heap.size + 1 + 1), 1, none⟩ = some (atv wx (w.heap.size + 1 + 1) 1) ∧ wx.frozen? ⟨(w.heap.size + 1 + 1), 1, none⟩ = false ∧ wx.cell? ⟨(w.heap.size + 1 + 1), 2, none⟩ = some (atv wx (w.heap.size + 1 + 1) 2) ∧ wx.frozen? ⟨(w.heap.size + 1 + 1), 2, none⟩ = false)
      (first | with_reducible assumption | with_reducible exact ⟨x1, x2, g1, f1, g2, f2⟩ | (refine ⟨Blk.cell (t := 53) (cs := #[.int .i64 5, .int .i64 a, .int .i64 b, .int .i64 c, .int .u32 v]) ?_ 1, Blk.cell (t := 53) (cs := #[.int .i64 5, .int .i64 a, .int .i64 b, .int .i64 c, .int .u32 v]) ?_ 2, atv_blk (t := 53) (cs := #[.int .i64 5, .int .i64 0, .int .i64 0, .int .i64 0, .int .u32 v]) ?_ (by simp), Blk.frozen (t := 53) (cs := #[.int .i64 5, .int .i64 0, .int .i64 0, .int .i64 0, .int .u32 v]) ?_ 1, atv_blk (t := 53) (cs := #[.int .i64 5, .int .i64 0, .int .i64 0, .int .i64 0, .int .u32 v]) ?_ (by simp), Blk.frozen (t := 53) (cs := #[.int .i64 5, .int .i64 0, .int .i64 0, .int .i64 0, .int .u32 v]) ?_ 2⟩ <;> (repeat (first | with_reducible exact BX | with_reducible exact BG | with_reducible apply Blk.drew | with_reducible apply Blk.drewN | refine Blk.far ?_ hg.out _ | refine Blk.set_to (cs := #[.int .i64 5, .int .i64 0, .int .i64 0, .int .i64 0, .int .u32 v]) ?_ rfl | refine Blk.set_to (cs := #[.int .i64 5, .int .i64 a, .int .i64 0, .int .i64 0, .int .u32 v]) ?_ rfl | refine Blk.set_to (cs := #[.int .i64 5, .int .i64 0, .int .i64 b, .int .i64 0, .int .u32 v]) ?_ rfl)); done) | (refine ⟨Blk.cell (t := 53) (cs := #[.int .i64 5, .int .i64 a, .int .i64 b, .int .i64 c, .int .u32 v]) ?_ 1, Blk.cell (t := 53) (cs := #[.int .i64 5, .int .i64 a, .int .i64 b, .int .i64 c, .int .u32 v]) ?_ 2, atv_blk (t := 53) (cs := #[.int .i64 5, .int .i64 a, .int .i64 0, .int .i64 0, .int .u32 v]) ?_ (by simp), Blk.frozen (t := 53) (cs := #[.int .i64 5, .int .i64 a, .int .i64 0, .int .i64 0, .int .u32 v]) ?_ 1, atv_blk (t := 53) (cs := #[.int .i64 5, .int .i64 a, .int .i64 0, .int .i64 0, .int .u32 v]) ?_ (by simp), Blk.frozen (t := 53) (cs := #[.int .i64 5, .int .i64 a, .int .i64 0, .int .i64 0, .int .u32 v]) ?_ 2⟩ <;> (repeat (first | with_reducible exact BX | with_reducible exact BG | with_reducible apply Blk.drew | with_reducible apply Blk.drewN | refine Blk.far ?_ hg.out _ | refine Blk.set_to (cs := #[.int .i64 5, .int .i64 0, .int .i64 0, .int .i64 0, .int .u32 v]) ?_ rfl | refine Blk.set_to (cs := #[.int .i64 5, .int .i64 a, .int .i64 0, .int .i64 0, .int .u32 v]) ?_ rfl | refine Blk.set_to (cs := #[.int .i64 5, .int .i64 0, .int .i64 b, .int .i64 0, .int .u32 v]) ?_ rfl)); done) | (refine ⟨Blk.cell (t := 53) (cs := #[.int .i64 5, .int .i64 a, .int .i64 b, .int .i64 c, .int .u32 v]) ?_ 1, Blk.cell (t := 53) (cs := #[.int .i64 5, .int .i64 a, .int .i64 b, .int .i64 c, .int .u32 v]) ?_ 2, atv_blk (t := 53) (cs := #[.int .i64 5, .int .i64 0, .int .i64 b, .int .i64 0, .int .u32 v]) ?_ (by simp), Blk.frozen (t := 53) (cs := #[.int .i64 5, .int .i64 0, .int .i64 b, .int .i64 0, .int .u32 v]) ?_ 1, atv_blk (t := 53) (cs := #[.int .i64 5, .int .i64 0, .int .i64 b, .int .i64 0, .int .u32 v]) ?_ (by simp), Blk.frozen (t := 53) (cs := #[.int .i64 5, .int .i64 0, .int .i64 b, .int .i64 0, .int .u32 v]) ?_ 2⟩ <;> (repeat (first | with_reducible exact BX | with_reducible exact BG | with_reducible apply Blk.drew | with_reducible apply Blk.drewN | refine Blk.far ?_ hg.out _ | refine Blk.set_to (cs := #[.int .i64 5, .int .i64 0, .int .i64 0, .int .i64 0, .int .u32 v]) ?_ rfl | refine Blk.set_to (cs := #[.int .i64 5, .int .i64 a, .int .i64 0, .int .i64 0, .int .u32 v]) ?_ rfl | refine Blk.set_to (cs := #[.int .i64 5, .int .i64 0, .int .i64 b, .int .i64 0, .int .u32 v]) ?_ rfl)); done) | (refine ⟨Blk.cell (t := 53) (cs := #[.int .i64 5, .int .i64 a, .int .i64 b, .int .i64 c, .int .u32 v]) ?_ 1, Blk.cell (t := 53) (cs := #[.int .i64 5, .int .i64 a, .int .i64 b, .int .i64 c, .int .u32 v]) ?_ 2, atv_blk (t := 53) (cs := #[.int .i64 5, .int .i64 a, .int .i64 b, .int .i64 0, .int .u32 v]) ?_ (by simp), Blk.frozen (t := 53) (cs := #[.int .i64 5, .int .i64 a, .int .i64 b, .int .i64 0, .int .u32 v]) ?_ 1, atv_blk (t := 53) (cs := #[.int .i64 5, .int .i64 a, .int .i64 b, .int .i64 0, .int .u32 v]) ?_ (by simp), Blk.frozen (t := 53) (cs := #[.int .i64 5, .int .i64 a, .int .i64 b, .int .i64 0, .int .u32 v]) ?_ 2⟩ <;> (repeat (first | with_reducible exact BX | with_reducible exact BG | with_reducible apply Blk.drew | with_reducible apply Blk.drewN | refine Blk.far ?_ hg.out _ | refine Blk.set_to (cs := #[.int .i64 5, .int .i64 0, .int .i64 0, .int .i64 0, .int .u32 v]) ?_ rfl | refine Blk.set_to (cs := #[.int .i64 5, .int .i64 a, .int .i64 0, .int .i64 0, .int .u32 v]) ?_ rfl | refine Blk.set_to (cs := #[.int .i64 5, .int .i64 0, .int .i64 b, .int .i64 0, .int .u32 v]) ?_ rfl)); done) | fail)
      (fail)
    all_goals
      go_wp2_with fail
      go_meet
      refine ⟨?_, ?_, ?_⟩
      · repeat (first | with_reducible exact BG | with_reducible apply Blk.drew | with_reducible apply Blk.drewN | refine Blk.set_to (cs := #[.int .i64 5, .int .i64 0, .int .i64 0, .int .i64 0, .int .u32 v]) ?_ rfl | refine Blk.set_to (cs := #[.int .i64 5, .int .i64 a, .int .i64 0, .int .i64 0, .int .u32 v]) ?_ rfl | refine Blk.set_to (cs := #[.int .i64 5, .int .i64 0, .int .i64 b, .int .i64 0, .int .u32 v]) ?_ rfl)
      · repeat (first | with_reducible exact BR | with_reducible apply Blk.drew | with_reducible apply Blk.drewN | refine Blk.far ?_ hg1.out _)
      · repeat (first | with_reducible exact KQ.out | with_reducible apply Stays.drew | with_reducible apply Stays.drewN | refine Stays.setCell ?_ (Or.inr hgs.out) _)
  case rest =>
    obtain ⟨B7, D5, K8⟩ := hcut
    clear BX BR BG KQ
    have q0 := B7.cell 0
    have q1 := B7.cell 1
    have q2 := B7.cell 2
    have q3 := B7.cell 3
    have q4 := B7.cell 4
    have p0 := D5.cell 0
    have p1 := D5.cell 1
    have p2 := D5.cell 2
    have p3 := D5.cell 3
    have p4 := D5.cell 4
    have f0 := D5.frozen 0
    have f1 := D5.frozen 1
    have f2 := D5.frozen 2
    have f3 := D5.frozen 3
    have f4 := D5.frozen 4
    go_wp2_with fail
    have BF : Blk (((((wc.setCell ⟨w.heap.size + 1, 0, none⟩ (.int .i64 5)).setCell ⟨w.heap.size + 1, 1, none⟩ (.int .i64 a)).setCell ⟨w.heap.size + 1, 2, none⟩ (.int .i64 b)).setCell ⟨w.heap.size + 1, 3, none⟩ (.int .i64 0)).setCell ⟨w.heap.size + 1, 4, none⟩ (.int .u32 v)) (w.heap.size + 1) 53 #[.int .i64 5, .int .i64 a, .int .i64 b, .int .i64 0, .int .u32 v] := Blk.set_to (Blk.set_to (Blk.set_to (Blk.set_to (Blk.set_to D5 rfl) rfl) rfl) rfl) rfl
    refine bodyPost_ret (results_blk (P := Tryz.prog) (p := 2) (ty := 53) rfl _ _ (w.heap.size + 1) 53 _ _ rfl BF Tryz.underlying53 rfl (by kernel_rfl)) rfl ?_
    refine ⟨rfl, ?_⟩
    have hz : w.heap.size ≤ w.heap.size + 1 := by omega
    exact ((((K8.setCell (Or.inr hz) _).setCell (Or.inr hz) _).setCell (Or.inr hz) _).setCell (Or.inr hz) _).setCell (Or.inr hz) _
theorem BareK6_c (a b c v : Int) (w : World) : Calls Tryz.prog 77 #[.agg #[.int .i64 6, .int .i64 a, .int .i64 b, .int .i64 c, .int .u32 v]] w (Made w (.agg #[.int .i64 6, .int .i64 a, .int .i64 b, .int .i64 0, .int .u32 0])) := by
  have BZ : Blk (((w.alloc (.cells #[.int .i64 6, .int .i64 a, .int .i64 b, .int .i64 c, .int .u32 v] 53)).alloc (.cells #[.int .i64 6, .int .i64 a, .int .i64 b, .int .i64 0, .int .u32 0] 53)).alloc (.cells #[.int .i64 6, .int .i64 a, .int .i64 b, .int .i64 0, .int .u32 0] 53)) (w.heap.size + 1) 53 #[.int .i64 6, .int .i64 a, .int .i64 b, .int .i64 0, .int .u32 0] := by
    have h := (Blk.new (w.alloc (.cells #[.int .i64 6, .int .i64 a, .int .i64 b, .int .i64 c, .int .u32 v] 53)) 53 #[.int .i64 6, .int .i64 a, .int .i64 b, .int .i64 0, .int .u32 0]).alloc (.cells #[.int .i64 6, .int .i64 a, .int .i64 b, .int .i64 0, .int .u32 0] 53)
    simpa using h
  go_enter Tryz.func77, Tryz.ntmps77
  go_wp2_with fail
  refine bodyPost_ret (results_blk (P := Tryz.prog) (p := 2) (ty := 53) rfl _ _ (w.heap.size + 1) 53 _ _ rfl BZ Tryz.underlying53 rfl (by kernel_rfl)) rfl ?_
  exact ⟨rfl, (((Stays.refl _ _).alloc _).alloc _).alloc _⟩
theorem BareK7_c (a b c v : Int) (w : World) : Calls Tryz.prog 77 #[.agg #[.int .i64 7, .int .i64 a, .int .i64 b, .int .i64 c, .int .u32 v]] w (Made w (.agg #[.int .i64 7, .int .i64 a, .int .i64 0, .int .i64 0, .int .u32 0])) := by
  have BZ : Blk (((w.alloc (.cells #[.int .i64 7, .int .i64 a, .int .i64 b, .int .i64 c, .int .u32 v] 53)).alloc (.cells #[.int .i64 7, .int .i64 a, .int .i64 0, .int .i64 0, .int .u32 0] 53)).alloc (.cells #[.int .i64 7, .int .i64 a, .int .i64 0, .int .i64 0, .int .u32 0] 53)) (w.heap.size + 1) 53 #[.int .i64 7, .int .i64 a, .int .i64 0, .int .i64 0, .int .u32 0] := by
    have h := (Blk.new (w.alloc (.cells #[.int .i64 7, .int .i64 a, .int .i64 b, .int .i64 c, .int .u32 v] 53)) 53 #[.int .i64 7, .int .i64 a, .int .i64 0, .int .i64 0, .int .u32 0]).alloc (.cells #[.int .i64 7, .int .i64 a, .int .i64 0, .int .i64 0, .int .u32 0] 53)
    simpa using h
  go_enter Tryz.func77, Tryz.ntmps77
  go_wp2_with fail
  refine bodyPost_ret (results_blk (P := Tryz.prog) (p := 2) (ty := 53) rfl _ _ (w.heap.size + 1) 53 _ _ rfl BZ Tryz.underlying53 rfl (by kernel_rfl)) rfl ?_
  exact ⟨rfl, (((Stays.refl _ _).alloc _).alloc _).alloc _⟩
theorem BareK8_c (a b c v : Int) (w : World) : Calls Tryz.prog 77 #[.agg #[.int .i64 8, .int .i64 a, .int .i64 b, .int .i64 c, .int .u32 v]] w (Made w (.agg #[.int .i64 8, .int .i64 a, .int .i64 b, .int .i64 0, .int .u32 0])) := by
  have BZ : Blk (((w.alloc (.cells #[.int .i64 8, .int .i64 a, .int .i64 b, .int .i64 c, .int .u32 v] 53)).alloc (.cells #[.int .i64 8, .int .i64 a, .int .i64 b, .int .i64 0, .int .u32 0] 53)).alloc (.cells #[.int .i64 8, .int .i64 a, .int .i64 b, .int .i64 0, .int .u32 0] 53)) (w.heap.size + 1) 53 #[.int .i64 8, .int .i64 a, .int .i64 b, .int .i64 0, .int .u32 0] := by
    have h := (Blk.new (w.alloc (.cells #[.int .i64 8, .int .i64 a, .int .i64 b, .int .i64 c, .int .u32 v] 53)) 53 #[.int .i64 8, .int .i64 a, .int .i64 b, .int .i64 0, .int .u32 0]).alloc (.cells #[.int .i64 8, .int .i64 a, .int .i64 b, .int .i64 0, .int .u32 0] 53)
    simpa using h
  go_enter Tryz.func77, Tryz.ntmps77
  go_wp2_with fail
  refine bodyPost_ret (results_blk (P := Tryz.prog) (p := 2) (ty := 53) rfl _ _ (w.heap.size + 1) 53 _ _ rfl BZ Tryz.underlying53 rfl (by kernel_rfl)) rfl ?_
  exact ⟨rfl, (((Stays.refl _ _).alloc _).alloc _).alloc _⟩
theorem BareK9_c (a b c v : Int) (w : World) : Calls Tryz.prog 77 #[.agg #[.int .i64 9, .int .i64 a, .int .i64 b, .int .i64 c, .int .u32 v]] w (Made w (.agg #[.int .i64 9, .int .i64 a, .int .i64 0, .int .i64 0, .int .u32 0])) := by
  have BZ : Blk (((w.alloc (.cells #[.int .i64 9, .int .i64 a, .int .i64 b, .int .i64 c, .int .u32 v] 53)).alloc (.cells #[.int .i64 9, .int .i64 a, .int .i64 0, .int .i64 0, .int .u32 0] 53)).alloc (.cells #[.int .i64 9, .int .i64 a, .int .i64 0, .int .i64 0, .int .u32 0] 53)) (w.heap.size + 1) 53 #[.int .i64 9, .int .i64 a, .int .i64 0, .int .i64 0, .int .u32 0] := by
    have h := (Blk.new (w.alloc (.cells #[.int .i64 9, .int .i64 a, .int .i64 b, .int .i64 c, .int .u32 v] 53)) 53 #[.int .i64 9, .int .i64 a, .int .i64 0, .int .i64 0, .int .u32 0]).alloc (.cells #[.int .i64 9, .int .i64 a, .int .i64 0, .int .i64 0, .int .u32 0] 53)
    simpa using h
  go_enter Tryz.func77, Tryz.ntmps77
  go_wp2_with fail
  refine bodyPost_ret (results_blk (P := Tryz.prog) (p := 2) (ty := 53) rfl _ _ (w.heap.size + 1) 53 _ _ rfl BZ Tryz.underlying53 rfl (by kernel_rfl)) rfl ?_
  exact ⟨rfl, (((Stays.refl _ _).alloc _).alloc _).alloc _⟩
theorem BareK10_c (a b c v : Int) (w : World) : Calls Tryz.prog 77 #[.agg #[.int .i64 10, .int .i64 a, .int .i64 b, .int .i64 c, .int .u32 v]] w (Made w (.agg #[.int .i64 10, .int .i64 0, .int .i64 0, .int .i64 0, .int .u32 0])) := by
  have BZ : Blk (((w.alloc (.cells #[.int .i64 10, .int .i64 a, .int .i64 b, .int .i64 c, .int .u32 v] 53)).alloc (.cells #[.int .i64 10, .int .i64 0, .int .i64 0, .int .i64 0, .int .u32 0] 53)).alloc (.cells #[.int .i64 10, .int .i64 0, .int .i64 0, .int .i64 0, .int .u32 0] 53)) (w.heap.size + 1) 53 #[.int .i64 10, .int .i64 0, .int .i64 0, .int .i64 0, .int .u32 0] := by
    have h := (Blk.new (w.alloc (.cells #[.int .i64 10, .int .i64 a, .int .i64 b, .int .i64 c, .int .u32 v] 53)) 53 #[.int .i64 10, .int .i64 0, .int .i64 0, .int .i64 0, .int .u32 0]).alloc (.cells #[.int .i64 10, .int .i64 0, .int .i64 0, .int .i64 0, .int .u32 0] 53)
    simpa using h
  go_enter Tryz.func77, Tryz.ntmps77
  go_wp2_with fail
  refine bodyPost_ret (results_blk (P := Tryz.prog) (p := 2) (ty := 53) rfl _ _ (w.heap.size + 1) 53 _ _ rfl BZ Tryz.underlying53 rfl (by kernel_rfl)) rfl ?_
  exact ⟨rfl, (((Stays.refl _ _).alloc _).alloc _).alloc _⟩
theorem Bare_c {kd a b c v : Int} (h0 : 1 ≤ kd) (h1 : kd ≤ 10) (w : World) {x : Op5} (hx : bareO ⟨kd, a, b, c, v⟩ = x) :
    Calls Tryz.prog 77 #[.agg #[.int .i64 kd, .int .i64 a, .int .i64 b, .int .i64 c, .int .u32 v]] w (Made w (.agg #[.int .i64 x.kind, .int .i64 x.a, .int .i64 x.b, .int .i64 x.c, .int .u32 x.v])) := by
  subst hx
  rcases (by omega : kd = 1 ∨ kd = 2 ∨ kd = 3 ∨ kd = 4 ∨ kd = 5 ∨ kd = 6 ∨ kd = 7 ∨ kd = 8 ∨ kd = 9 ∨ kd = 10) with rfl | rfl | rfl | rfl | rfl | rfl | rfl | rfl | rfl | rfl
  · exact BareK1_c a b c v w
  · exact BareK2_c a b c v w
  · exact BareK3_c a b c v w
  · exact BareK4_c a b c v w
  · exact BareK5_c a b c v w
  · exact BareK6_c a b c v w
  · exact BareK7_c a b c v w
  · exact BareK8_c a b c v w
  · exact BareK9_c a b c v w
  · exact BareK10_c a b c v w
theorem bareO_kind (o : Op5) (h0 : 1 ≤ o.kind) (h1 : o.kind ≤ 10) : (bareO o).kind = o.kind := by
  unfold bareO
  repeat' split
  all_goals first | rfl | (dsimp only; omega)
theorem bareO_bare (o : Op5) : bareO (bareO o) = bareO o := by
  by_cases c5 : o.kind = 5
  · simp [bareO, c5]
  by_cases c1 : o.kind = 1 ∨ o.kind = 2 ∨ o.kind = 3
  · rcases c1 with c | c | c <;> simp [bareO, c]
  by_cases c4 : o.kind = 4 ∨ o.kind = 6 ∨ o.kind = 8
  · rcases c4 with c | c | c <;> simp [bareO, c]
  by_cases c7 : o.kind = 7 ∨ o.kind = 9
  · rcases c7 with c | c <;> simp [bareO, c]
  simp only [bareO, if_neg c5, if_neg c1, if_neg c4, if_neg c7]
  rfl
theorem bareO_v (o : Op5) (h : 0 ≤ o.v ∧ o.v ≤ 4294967295) : 0 ≤ (bareO o).v ∧ (bareO o).v ≤ 4294967295 := by
  unfold bareO
  repeat' split
  all_goals first | exact h | (dsimp only; omega)
theorem isK_c (kd : Int) (h0 : 1 ≤ kd) (h1 : kd ≤ 10) (w : World) : Calls Tryz.prog 157 #[.int .i64 kd] w fun e w' => e = .returned (.bool true) ∧ w = w' := by
  rcases (by omega : kd = 1 ∨ kd = 2 ∨ kd = 3 ∨ kd = 4 ∨ kd = 5 ∨ kd = 6 ∨ kd = 7 ∨ kd = 8 ∨ kd = 9 ∨ kd = 10) with rfl | rfl | rfl | rfl | rfl | rfl | rfl | rfl | rfl | rfl
  all_goals
    go_enter Tryz.func157, Tryz.ntmps157
    go_wp2
    go_ret
    exact ⟨rfl, rfl⟩
theorem Plain_c {kd a b c v : Int} (h0 : 1 ≤ kd) (h1 : kd ≤ 10) (w : World) (hx : bareO ⟨kd, a, b, c, v⟩ = ⟨kd, a, b, c, v⟩) :
    Calls Tryz.prog 78 #[.agg #[.int .i64 kd, .int .i64 a, .int .i64 b, .int .i64 c, .int .u32 v]] w (Made w (.bool true)) := by
  have B := Blk.new w 53 #[.int .i64 kd, .int .i64 a, .int .i64 b, .int .i64 c, .int .u32 v]
  have K0 : Stays (fun _ => False) w (w.alloc (.cells #[.int .i64 kd, .int .i64 a, .int .i64 b, .int .i64 c, .int .u32 v] 53)) := (Stays.refl _ _).alloc _
  have b0 := B.cell 0
  have b1 := B.cell 1
  have b2 := B.cell 2
  have b3 := B.cell 3
  have b4 := B.cell 4
  have HI := Hd.mk (isK_c kd h0 h1)
  have HB : Hd (∀ w, Calls Tryz.prog 77 #[.agg #[.int .i64 kd, .int .i64 a, .int .i64 b, .int .i64 c, .int .u32 v]] w (Made w (.agg #[.int .i64 kd, .int .i64 a, .int .i64 b, .int .i64 c, .int .u32 v]))) := ⟨fun w => Bare_c h0 h1 w hx⟩
  clear h0 h1 hx
  have HQ : ∀ w, (binOp .eql 53 (.agg #[.int .i64 kd, .int .i64 a, .int .i64 b, .int .i64 c, .int .u32 v]) (.agg #[.int .i64 kd, .int .i64 a, .int .i64 b, .int .i64 c, .int .u32 v])).run Tryz.prog w = .ok (.bool true) w := fun w => eqlOp w _ _ _ _ _
  go_enter Tryz.func78, Tryz.ntmps78
  go_wp2_with fail
  go_region_held3 (fun wx => wx.cell? ⟨w.heap.size, 0, none⟩ = some (.int .i64 kd) ∧ wx.cell? ⟨w.heap.size, 1, none⟩ = some (.int .i64 a) ∧ wx.cell? ⟨w.heap.size, 2, none⟩ = some (.int .i64 b) ∧ wx.cell? ⟨w.heap.size, 3, none⟩ = some (.int .i64 c) ∧ wx.cell? ⟨w.heap.size, 4, none⟩ = some (.int .u32 v))
    (first | exact ⟨b0, b1, b2, b3, b4⟩ | go_keep)
    (first | (go_at_call 157; (with_reducible refine (HI.out _).mono ?_); (rintro _ _ ⟨rfl, rfl⟩)) | (go_at_call 77; (with_reducible refine (HB.out _).mono ?_); (rintro _ w2 ⟨rfl, K2⟩); (have B2 := Blk.stays (Blk.drew B) K2 (fun x => x)); (have b0 := B2.cell 0); (have b1 := B2.cell 1); (have b2 := B2.cell 2); (have b3 := B2.cell 3); (have b4 := B2.cell 4)))
  all_goals
    go_wp2_with fail
    go_ret
    exact ⟨rfl, by
      with_reducible repeat (first | apply zsd | apply zsn)
      refine Stays.trans ?_ K2
      with_reducible repeat (first | exact K0 | apply zsd | apply zsn)⟩
end Go.Proofs.YtadhdjldcpkfiaaGreatDoor
