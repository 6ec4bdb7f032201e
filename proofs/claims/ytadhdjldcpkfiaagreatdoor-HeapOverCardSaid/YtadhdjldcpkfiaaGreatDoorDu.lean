/- pace.Due. -/
/- quitrentref20.Due, pace.Due of a bad configuration, and PaceDue, walked. -/
import Derived.Test.YtadhdjldcpkfiaaGreatDoorR
namespace Go.Proofs.YtadhdjldcpkfiaaGreatDoor
set_option linter.unusedVariables false
set_option linter.unusedSimpArgs false
open Go.RowKit
set_option maxRecDepth 100000
set_option maxHeartbeats 1600000

def dueB (W b : Int) : Int := if W - 7 < b then W - 7 else max b 0
def dueOk (W K kind b : Int) : Int := if kind = 1 then dueB W b * K else if kind = 10 then K else if kind = 2 ∨ kind = 3 ∨ kind = 6 ∨ kind = 7 then 1 else 0
theorem dueB_range {W b : Int} (w0 : 16 ≤ W) (w1 : W ≤ 256) : 0 ≤ dueB W b ∧ dueB W b ≤ 249 := by unfold dueB; split <;> omega

theorem ClampV_c (n lo hi v : Int) (w : World) (hv : v = if hi < n then hi else max n lo) :
    Calls Tryz.prog 129 #[.int .i64 n, .int .i64 lo, .int .i64 hi] w fun e w' => e = .returned (.int .i64 v) ∧ w = w' := hv ▸ Clamp_c n lo hi w
theorem Due_c (N W R K kind b : Int) (w : World) (h : plCheck N W R K = 0) (n0 : 1 ≤ N) (n1 : N ≤ 1048576) (w0 : 16 ≤ W) (w1 : W ≤ 256) (r0 : 1 ≤ R) (r1 : R ≤ 4096) (k0 : 1 ≤ K) (k1 : K ≤ 65536) :
    Calls Tryz.prog 50 #[.agg #[.int .i64 N, .int .i64 W, .int .i64 R, .int .i64 K], .int .i64 kind, .int .i64 b] w (Made w (.int .i64 (dueOk W K kind b))) := by
  have HC := Hd.mk (fun w => Of_ok N W R K w h n0 n1 w0 w1 r0 r1 k0 k1)
  have hb := dueB_range (b := b) w0 w1
  have HM : Hd (IntKind.i64.wrap (dueB W b * K) = dueB W b * K) := ⟨IntWalk.i64_in _ (by
    have := Int.mul_le_mul hb.2 k1 (by omega) (by omega)
    have := Int.mul_nonneg hb.1 (show 0 ≤ K by omega)
    omega)⟩
  obtain ⟨C, hC⟩ : ∃ C, C = dueB W b := ⟨_, rfl⟩
  have HB : Hd (C = if W - 7 < b then W - 7 else max b 0) := ⟨hC⟩
  rw [← hC] at HM
  have HCC := Hd.mk hC
  clear hC
  clear h n0 n1 r0 r1 hb
  by_cases q1 : kind = 1
  · subst q1
    have HD : Hd (dueOk W K 1 b = C * K) := ⟨by rw [HCC.out]; rfl⟩
    clear w0 w1 k0 k1
    go_enter Tryz.func50, Tryz.ntmps50
    go_wp2_with fail
    refine (HC.out _).mono ?_
    rintro _ wa ⟨X, hX, ⟨rfl, K1⟩⟩
    clear hX
    have B0 : Blk wa w.heap.size 46 #[.int .i64 N, .int .i64 W, .int .i64 R, .int .i64 K] := Blk.stays (Blk.new w 46 #[.int .i64 N, .int .i64 W, .int .i64 R, .int .i64 K]) K1 (fun x => x)
    have c3 : ∀ o, (wa.alloc o).cell? ⟨w.heap.size, 3, none⟩ = some (.int .i64 K) := fun o => (B0.alloc o).cell 3
    have KA := ((Stays.refl (fun _ => False) w).alloc (.cells #[.int .i64 N, .int .i64 W, .int .i64 R, .int .i64 K] 46)).trans K1
    go_upto_region 6 with fail
    go_region_held3 (fun wx => wx.cell? ⟨w.heap.size, 3, none⟩ = some (.int .i64 K) ∧ wx.cell? ⟨wa.heap.size, 2, none⟩ = some (.int .i64 (W - 7)))
     (first | with_reducible assumption | (refine ⟨?_, ?_⟩; (focus (exact c3 _)); (focus (refine Blk.cell (t := 112) (Blk.new wa _ _) 2)); done) | fail)
     (first | (go_at_call 129; refine (ClampV_c b 0 (W - 7) C _ HB.out).mono ?_; rintro _ _ ⟨rfl, rfl⟩) | fail)
    all_goals
      rw [HM.out]
      go_wp2_with fail
      go_ret
      exact ⟨by rw [HD.out] <;> rfl, by with_reducible repeat (first | exact KA | apply zsa | apply zsd | apply zsn)⟩
  · have HD1 : dueOk W K kind b = if kind = 10 then K else if kind = 2 ∨ kind = 3 ∨ kind = 6 ∨ kind = 7 then 1 else 0 := by unfold dueOk; rw [if_neg q1]
    have n1 : (kind == 1) = false := beq_eq_false_iff_ne.2 q1
    by_cases q10 : kind = 10
    · subst q10
      have HD : Hd (dueOk W K 10 b = K) := ⟨rfl⟩
      clear HD1 w0 w1 k0 k1 q1
      go_enter Tryz.func50, Tryz.ntmps50
      go_wp2_with fail
      refine (HC.out _).mono ?_
      rintro _ wa ⟨X, hX, ⟨rfl, K1⟩⟩
      clear hX
      have B0 : Blk wa w.heap.size 46 #[.int .i64 N, .int .i64 W, .int .i64 R, .int .i64 K] := Blk.stays (Blk.new w 46 #[.int .i64 N, .int .i64 W, .int .i64 R, .int .i64 K]) K1 (fun x => x)
      have c3 : ∀ o, (wa.alloc o).cell? ⟨w.heap.size, 3, none⟩ = some (.int .i64 K) := fun o => (B0.alloc o).cell 3
      have KA := ((Stays.refl (fun _ => False) w).alloc (.cells #[.int .i64 N, .int .i64 W, .int .i64 R, .int .i64 K] 46)).trans K1
      go_wp2_with fail
      go_ret
      exact ⟨by rw [HD.out] <;> rfl, by with_reducible repeat (first | exact KA | apply zsa | apply zsd | apply zsn)⟩
    · rw [if_neg q10] at HD1
      have n10 : (kind == 10) = false := beq_eq_false_iff_ne.2 q10
      by_cases q : kind = 2 ∨ kind = 3 ∨ kind = 6 ∨ kind = 7
      · rw [if_pos q] at HD1
        have HD := Hd.mk HD1
        clear HD1 w0 w1 k0 k1 q1 q10
        rcases q with rfl | rfl | rfl | rfl
        all_goals
          go_enter Tryz.func50, Tryz.ntmps50
          go_wp2_with fail
          refine (HC.out _).mono ?_
          rintro _ wa ⟨X, hX, ⟨rfl, K1⟩⟩
          clear hX
          have KA := ((Stays.refl (fun _ => False) w).alloc (.cells #[.int .i64 N, .int .i64 W, .int .i64 R, .int .i64 K] 46)).trans K1
          go_wp2_with fail
          go_ret
          exact ⟨by rw [HD.out] <;> rfl, by with_reducible repeat (first | exact KA | apply zsa | apply zsd | apply zsn)⟩
      · rw [if_neg q] at HD1
        have HD := Hd.mk HD1
        have n2 : (kind == 2) = false := beq_eq_false_iff_ne.2 (fun x => q (Or.inl x))
        have n3 : (kind == 3) = false := beq_eq_false_iff_ne.2 (fun x => q (Or.inr (Or.inl x)))
        have n6 : (kind == 6) = false := beq_eq_false_iff_ne.2 (fun x => q (Or.inr (Or.inr (Or.inl x))))
        have n7 : (kind == 7) = false := beq_eq_false_iff_ne.2 (fun x => q (Or.inr (Or.inr (Or.inr x))))
        clear HD1 w0 w1 k0 k1 q1 q10 q
        go_enter Tryz.func50, Tryz.ntmps50
        go_wp2_with fail
        refine (HC.out _).mono ?_
        rintro _ wa ⟨X, hX, ⟨rfl, K1⟩⟩
        clear hX
        have KA := ((Stays.refl (fun _ => False) w).alloc (.cells #[.int .i64 N, .int .i64 W, .int .i64 R, .int .i64 K] 46)).trans K1
        go_wp2_with fail
        go_ret
        exact ⟨by rw [HD.out] <;> rfl, by with_reducible repeat (first | exact KA | apply zsa | apply zsd | apply zsn)⟩
end Go.Proofs.YtadhdjldcpkfiaaGreatDoor
namespace Go.Proofs.YtadhdjldcpkfiaaGreatDoor
set_option linter.unusedVariables false
set_option linter.unusedSimpArgs false
open Go.RowKit
set_option maxRecDepth 100000
set_option maxHeartbeats 1600000

theorem plCheck_of {N W R K : Int} (n0 : 1 ≤ N) (n1 : N ≤ 1048576) (w0 : 16 ≤ W) (w1 : W ≤ 256) (r0 : 1 ≤ R) (r1 : R ≤ 4096) (k0 : 1 ≤ K) (k1 : K ≤ 65536) (hp : N * W ≤ 4194304) : plCheck N W R K = 0 := by
  unfold plCheck
  rw [if_pos]
  simp [inB]
  omega
theorem plCheck_bad {N W R K : Int} (h : ¬ (1 ≤ N ∧ N ≤ 1048576 ∧ 16 ≤ W ∧ W ≤ 256 ∧ 1 ≤ R ∧ R ≤ 4096 ∧ 1 ≤ K ∧ K ≤ 65536 ∧ N * W ≤ 4194304)) : plCheck N W R K = 1 := by
  rcases plCheck_cases N W R K with h1 | ⟨_, h2⟩
  · exact h1
  · exact absurd h2 h
theorem Due_bad (N W R K kind b : Int) (w : World) (h : plCheck N W R K = 1) :
    Calls Tryz.prog 50 #[.agg #[.int .i64 N, .int .i64 W, .int .i64 R, .int .i64 K], .int .i64 kind, .int .i64 b] w (Made w (.int .i64 0)) := by
  have HC := Hd.mk (fun w => Of_bad N W R K w h)
  clear h
  go_enter Tryz.func50, Tryz.ntmps50
  go_wp2_with fail
  refine (HC.out _).mono ?_
  rintro _ wa ⟨rfl, K1⟩
  have KA := ((Stays.refl (fun _ => False) w).alloc (.cells #[.int .i64 N, .int .i64 W, .int .i64 R, .int .i64 K] 46)).trans K1
  go_wp2_with fail
  go_ret
  exact ⟨rfl, by with_reducible repeat (first | exact KA | apply zsa | apply zsd | apply zsn)⟩
theorem May_c (N W R K : Int) (w : World) :
    Calls Tryz.prog 63 #[.agg #[.int .i64 N, .int .i64 W, .int .i64 R, .int .i64 K]] w (Made w (.bool (decide (plCheck N W R K = 0)))) := by
  by_cases t0 : N < 1
  · rw [plCheck_bad (by omega)]
    have d0 : decide (N < 1) = true := decide_eq_true t0
    clear t0
    go_enter Tryz.func63, Tryz.ntmps63
    go_wp2_with fail
    go_ret
    exact ⟨rfl, (Stays.refl _ _).alloc _⟩
  · have d0 : decide (N < 1) = false := decide_eq_false t0
    by_cases t1 : 1048576 < N
    · rw [plCheck_bad (by omega)]
      have d1 : decide (1048576 < N) = true := decide_eq_true t1
      clear t0 t1
      go_enter Tryz.func63, Tryz.ntmps63
      go_wp2_with fail
      go_ret
      exact ⟨rfl, (Stays.refl _ _).alloc _⟩
    · have d1 : decide (1048576 < N) = false := decide_eq_false t1
      by_cases t2 : W < 16
      · rw [plCheck_bad (by omega)]
        have d2 : decide (W < 16) = true := decide_eq_true t2
        clear t0 t1 t2
        go_enter Tryz.func63, Tryz.ntmps63
        go_wp2_with fail
        go_ret
        exact ⟨rfl, (Stays.refl _ _).alloc _⟩
      · have d2 : decide (W < 16) = false := decide_eq_false t2
        by_cases t3 : 256 < W
        · rw [plCheck_bad (by omega)]
          have d3 : decide (256 < W) = true := decide_eq_true t3
          clear t0 t1 t2 t3
          go_enter Tryz.func63, Tryz.ntmps63
          go_wp2_with fail
          go_ret
          exact ⟨rfl, (Stays.refl _ _).alloc _⟩
        · have d3 : decide (256 < W) = false := decide_eq_false t3
          by_cases t4 : R < 1
          · rw [plCheck_bad (by omega)]
            have d4 : decide (R < 1) = true := decide_eq_true t4
            clear t0 t1 t2 t3 t4
            go_enter Tryz.func63, Tryz.ntmps63
            go_wp2_with fail
            go_ret
            exact ⟨rfl, (Stays.refl _ _).alloc _⟩
          · have d4 : decide (R < 1) = false := decide_eq_false t4
            by_cases t5 : 4096 < R
            · rw [plCheck_bad (by omega)]
              have d5 : decide (4096 < R) = true := decide_eq_true t5
              clear t0 t1 t2 t3 t4 t5
              go_enter Tryz.func63, Tryz.ntmps63
              go_wp2_with fail
              go_ret
              exact ⟨rfl, (Stays.refl _ _).alloc _⟩
            · have d5 : decide (4096 < R) = false := decide_eq_false t5
              by_cases t6 : K < 1
              · rw [plCheck_bad (by omega)]
                have d6 : decide (K < 1) = true := decide_eq_true t6
                clear t0 t1 t2 t3 t4 t5 t6
                go_enter Tryz.func63, Tryz.ntmps63
                go_wp2_with fail
                go_ret
                exact ⟨rfl, (Stays.refl _ _).alloc _⟩
              · have d6 : decide (K < 1) = false := decide_eq_false t6
                by_cases t7 : 65536 < K
                · rw [plCheck_bad (by omega)]
                  have d7 : decide (65536 < K) = true := decide_eq_true t7
                  clear t0 t1 t2 t3 t4 t5 t6 t7
                  go_enter Tryz.func63, Tryz.ntmps63
                  go_wp2_with fail
                  go_ret
                  exact ⟨rfl, (Stays.refl _ _).alloc _⟩
                · have d7 : decide (65536 < K) = false := decide_eq_false t7
                  have hw : IntKind.i64.wrap (N * W) = N * W := IntWalk.i64_in _ (by
                    have := Int.mul_le_mul (show N ≤ 1048576 by omega) (show W ≤ 256 by omega) (by omega) (by omega)
                    have := Int.mul_nonneg (show 0 ≤ N by omega) (show 0 ≤ W by omega)
                    omega)
                  by_cases hp : N * W ≤ 4194304
                  · rw [plCheck_of (by omega) (by omega) (by omega) (by omega) (by omega) (by omega) (by omega) (by omega) hp]
                    have hq : decide (N * W ≤ 4194304) = true := decide_eq_true hp
                    clear hp t0 t1 t2 t3 t4 t5 t6 t7
                    go_enter Tryz.func63, Tryz.ntmps63
                    go_wp2_with fail
                    go_ret
                    exact ⟨rfl, (Stays.refl _ _).alloc _⟩
                  · rw [plCheck_bad (fun x => hp x.2.2.2.2.2.2.2.2)]
                    have hq : decide (N * W ≤ 4194304) = false := decide_eq_false hp
                    clear hp t0 t1 t2 t3 t4 t5 t6 t7
                    go_enter Tryz.func63, Tryz.ntmps63
                    go_wp2_with fail
                    go_ret
                    exact ⟨rfl, (Stays.refl _ _).alloc _⟩
theorem rDue_bad (N W R K kind b : Int) (w : World) (h : plCheck N W R K = 1) :
    Calls Tryz.prog 51 #[.agg #[.int .i64 N, .int .i64 W, .int .i64 R, .int .i64 K], .int .i64 kind, .int .i64 b] w (Made w (.int .i64 0)) := by
  have HC := Hd.mk (fun w => May_c N W R K w)
  have HH : Hd (decide (plCheck N W R K = 0) = false) := ⟨by rw [h]; rfl⟩
  clear h
  go_enter Tryz.func51, Tryz.ntmps51
  go_wp2_with fail
  refine (HC.out _).mono ?_
  rw [HH.out]
  rintro _ wa ⟨rfl, K1⟩
  have KA := ((Stays.refl (fun _ => False) w).alloc (.cells #[.int .i64 N, .int .i64 W, .int .i64 R, .int .i64 K] 46)).trans K1
  go_wp2_with fail
  go_ret
  exact ⟨rfl, KA⟩
theorem rDue_c (N W R K kind b : Int) (w : World) (h : plCheck N W R K = 0) (w0 : 16 ≤ W) (w1 : W ≤ 256) (k0 : 1 ≤ K) (k1 : K ≤ 65536) :
    Calls Tryz.prog 51 #[.agg #[.int .i64 N, .int .i64 W, .int .i64 R, .int .i64 K], .int .i64 kind, .int .i64 b] w (Made w (.int .i64 (dueOk W K kind b))) := by
  have HC := Hd.mk (fun w => May_c N W R K w)
  have HH : Hd (decide (plCheck N W R K = 0) = true) := ⟨by rw [h]; rfl⟩
  have W7 : IntKind.i64.wrap (W - 7) = W - 7 := IntWalk.i64_in _ (by omega)
  clear h
  by_cases q1 : kind = 1
  · subst q1
    by_cases b0 : b < 0
    · have d0 : decide (b < 0) = true := decide_eq_true b0
      have d1 : decide (W - 7 < 0) = false := decide_eq_false (by omega)
      have HD : Hd (dueOk W K 1 b = 0) := ⟨by
        show dueB W b * K = 0
        unfold dueB
        rw [if_neg (by omega), show max b 0 = 0 by omega, Int.zero_mul]⟩
      have hw : IntKind.i64.wrap (0 * K) = 0 := by rw [Int.zero_mul]; rfl
      have hw' : IntKind.i64.wrap 0 = 0 := rfl
      clear b0 w0 w1 k0 k1
      go_enter Tryz.func51, Tryz.ntmps51
      go_wp2_with fail
      refine (HC.out _).mono ?_
      rw [HH.out]
      rintro _ wa ⟨rfl, K1⟩
      have KA := ((Stays.refl (fun _ => False) w).alloc (.cells #[.int .i64 N, .int .i64 W, .int .i64 R, .int .i64 K] 46)).trans K1
      have B0 : Blk wa w.heap.size 46 #[.int .i64 N, .int .i64 W, .int .i64 R, .int .i64 K] := Blk.stays (Blk.new w 46 #[.int .i64 N, .int .i64 W, .int .i64 R, .int .i64 K]) K1 (fun x => x)
      have c1 := B0.cell 1
      have c3 := B0.cell 3
      go_wp2_with fail
      go_ret
      exact ⟨by rw [HD.out] <;> rfl, KA⟩
    · have d0 : decide (b < 0) = false := decide_eq_false b0
      by_cases b1 : W - 7 < b
      · have d1 : decide (W - 7 < b) = true := decide_eq_true b1
        have HD : Hd (dueOk W K 1 b = (W - 7) * K) := ⟨by
          show dueB W b * K = _
          unfold dueB
          rw [if_pos b1]⟩
        have hw : IntKind.i64.wrap ((W - 7) * K) = (W - 7) * K := IntWalk.i64_in _ (by
          have := Int.mul_le_mul (show W - 7 ≤ 249 by omega) k1 (by omega) (by omega)
          have := Int.mul_nonneg (show 0 ≤ W - 7 by omega) (show 0 ≤ K by omega)
          omega)
        clear b0 b1 w0 w1 k0 k1
        go_enter Tryz.func51, Tryz.ntmps51
        go_wp2_with fail
        refine (HC.out _).mono ?_
        rw [HH.out]
        rintro _ wa ⟨rfl, K1⟩
        have KA := ((Stays.refl (fun _ => False) w).alloc (.cells #[.int .i64 N, .int .i64 W, .int .i64 R, .int .i64 K] 46)).trans K1
        have B0 : Blk wa w.heap.size 46 #[.int .i64 N, .int .i64 W, .int .i64 R, .int .i64 K] := Blk.stays (Blk.new w 46 #[.int .i64 N, .int .i64 W, .int .i64 R, .int .i64 K]) K1 (fun x => x)
        have c1 := B0.cell 1
        have c3 := B0.cell 3
        go_wp2_with fail
        go_ret
        exact ⟨by rw [HD.out] <;> rfl, KA⟩
      · have d1 : decide (W - 7 < b) = false := decide_eq_false b1
        have HD : Hd (dueOk W K 1 b = b * K) := ⟨by
          show dueB W b * K = _
          unfold dueB
          rw [if_neg b1, show max b 0 = b by omega]⟩
        have hw : IntKind.i64.wrap (b * K) = b * K := IntWalk.i64_in _ (by
          have := Int.mul_le_mul (show b ≤ 249 by omega) k1 (by omega) (by omega)
          have := Int.mul_nonneg (show 0 ≤ b by omega) (show 0 ≤ K by omega)
          omega)
        clear b0 b1 w0 w1 k0 k1
        go_enter Tryz.func51, Tryz.ntmps51
        go_wp2_with fail
        refine (HC.out _).mono ?_
        rw [HH.out]
        rintro _ wa ⟨rfl, K1⟩
        have KA := ((Stays.refl (fun _ => False) w).alloc (.cells #[.int .i64 N, .int .i64 W, .int .i64 R, .int .i64 K] 46)).trans K1
        have B0 : Blk wa w.heap.size 46 #[.int .i64 N, .int .i64 W, .int .i64 R, .int .i64 K] := Blk.stays (Blk.new w 46 #[.int .i64 N, .int .i64 W, .int .i64 R, .int .i64 K]) K1 (fun x => x)
        have c1 := B0.cell 1
        have c3 := B0.cell 3
        go_wp2_with fail
        go_ret
        exact ⟨by rw [HD.out] <;> rfl, KA⟩
  · have HD1 : dueOk W K kind b = if kind = 10 then K else if kind = 2 ∨ kind = 3 ∨ kind = 6 ∨ kind = 7 then 1 else 0 := by unfold dueOk; rw [if_neg q1]
    have n1 : (kind == 1) = false := beq_eq_false_iff_ne.2 q1
    by_cases q10 : kind = 10
    · subst q10
      have HD : Hd (dueOk W K 10 b = K) := ⟨rfl⟩
      clear HD1 w0 w1 k0 k1 q1
      go_enter Tryz.func51, Tryz.ntmps51
      go_wp2_with fail
      refine (HC.out _).mono ?_
      rw [HH.out]
      rintro _ wa ⟨rfl, K1⟩
      have KA := ((Stays.refl (fun _ => False) w).alloc (.cells #[.int .i64 N, .int .i64 W, .int .i64 R, .int .i64 K] 46)).trans K1
      have B0 : Blk wa w.heap.size 46 #[.int .i64 N, .int .i64 W, .int .i64 R, .int .i64 K] := Blk.stays (Blk.new w 46 #[.int .i64 N, .int .i64 W, .int .i64 R, .int .i64 K]) K1 (fun x => x)
      have c1 := B0.cell 1
      have c3 := B0.cell 3
      go_wp2_with fail
      go_ret
      exact ⟨by rw [HD.out] <;> rfl, KA⟩
    · rw [if_neg q10] at HD1
      have n10 : (kind == 10) = false := beq_eq_false_iff_ne.2 q10
      by_cases q : kind = 2 ∨ kind = 3 ∨ kind = 6 ∨ kind = 7
      · rw [if_pos q] at HD1
        have HD := Hd.mk HD1
        clear HD1 w0 w1 k0 k1 q1 q10
        rcases q with rfl | rfl | rfl | rfl
        all_goals
          go_enter Tryz.func51, Tryz.ntmps51
          go_wp2_with fail
          refine (HC.out _).mono ?_
          rw [HH.out]
          rintro _ wa ⟨rfl, K1⟩
          have KA := ((Stays.refl (fun _ => False) w).alloc (.cells #[.int .i64 N, .int .i64 W, .int .i64 R, .int .i64 K] 46)).trans K1
          have B0 : Blk wa w.heap.size 46 #[.int .i64 N, .int .i64 W, .int .i64 R, .int .i64 K] := Blk.stays (Blk.new w 46 #[.int .i64 N, .int .i64 W, .int .i64 R, .int .i64 K]) K1 (fun x => x)
          have c1 := B0.cell 1
          have c3 := B0.cell 3
          go_wp2_with fail
          go_ret
          exact ⟨by rw [HD.out] <;> rfl, KA⟩
      · rw [if_neg q] at HD1
        have HD := Hd.mk HD1
        have n2 : (kind == 2) = false := beq_eq_false_iff_ne.2 (fun x => q (Or.inl x))
        have n3 : (kind == 3) = false := beq_eq_false_iff_ne.2 (fun x => q (Or.inr (Or.inl x)))
        have n6 : (kind == 6) = false := beq_eq_false_iff_ne.2 (fun x => q (Or.inr (Or.inr (Or.inl x))))
        have n7 : (kind == 7) = false := beq_eq_false_iff_ne.2 (fun x => q (Or.inr (Or.inr (Or.inr x))))
        clear HD1 w0 w1 k0 k1 q1 q10 q
        go_enter Tryz.func51, Tryz.ntmps51
        go_wp2_with fail
        refine (HC.out _).mono ?_
        rw [HH.out]
        rintro _ wa ⟨rfl, K1⟩
        have KA := ((Stays.refl (fun _ => False) w).alloc (.cells #[.int .i64 N, .int .i64 W, .int .i64 R, .int .i64 K] 46)).trans K1
        have B0 : Blk wa w.heap.size 46 #[.int .i64 N, .int .i64 W, .int .i64 R, .int .i64 K] := Blk.stays (Blk.new w 46 #[.int .i64 N, .int .i64 W, .int .i64 R, .int .i64 K]) K1 (fun x => x)
        have c1 := B0.cell 1
        have c3 := B0.cell 3
        go_wp2_with fail
        go_ret
        exact ⟨by rw [HD.out] <;> rfl, KA⟩
/-- Both tell one number. -/
theorem due_both (N W R K kind b : Int) : ∃ v, (∀ w, Calls Tryz.prog 50 #[.agg #[.int .i64 N, .int .i64 W, .int .i64 R, .int .i64 K], .int .i64 kind, .int .i64 b] w (Made w (.int .i64 v))) ∧ (∀ w, Calls Tryz.prog 51 #[.agg #[.int .i64 N, .int .i64 W, .int .i64 R, .int .i64 K], .int .i64 kind, .int .i64 b] w (Made w (.int .i64 v))) := by
  rcases plCheck_cases N W R K with h | ⟨h, n0, n1, w0, w1, r0, r1, k0, k1, hp⟩
  · exact ⟨0, fun w => Due_bad N W R K kind b w h, fun w => rDue_bad N W R K kind b w h⟩
  · exact ⟨_, fun w => Due_c N W R K kind b w h n0 n1 w0 w1 r0 r1 k0 k1, fun w => rDue_c N W R K kind b w h w0 w1 k0 k1⟩
end Go.Proofs.YtadhdjldcpkfiaaGreatDoor
