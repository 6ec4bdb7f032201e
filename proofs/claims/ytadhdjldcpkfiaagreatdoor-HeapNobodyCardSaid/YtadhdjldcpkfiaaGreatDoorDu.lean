/- pace.Due. -/
import Derived.Test.YtadhdjldcpkfiaaGreatDoorR3
namespace Go.Proofs.YtadhdjldcpkfiaaGreatDoor
set_option linter.unusedVariables false
set_option linter.unusedSimpArgs false
open Go.RowKit
set_option maxRecDepth 100000
set_option maxHeartbeats 1600000

def dueB (W b : Int) : Int := if W - 7 < b then W - 7 else max b 0
def dueOk (W K kind b : Int) : Int := if kind = 1 then dueB W b * K else if kind = 10 then K else if kind = 2 ∨ kind = 3 ∨ kind = 6 ∨ kind = 7 then 1 else 0
theorem dueB_range {W b : Int} (w0 : 16 ≤ W) (w1 : W ≤ 256) : 0 ≤ dueB W b ∧ dueB W b ≤ 249 := by unfold dueB; split <;> omega

theorem ClampV_c (n lo hi v : Int) (w : World) (hv : v = if hi < n then hi else max n lo) :
    Calls Tryz.prog 129 #[.int .i64 n, .int .i64 lo, .int .i64 hi] w fun e w' => e = .returned (.int .i64 v) ∧ w = w' := hv ▸ Clamp_c n lo hi w
theorem Due_c (N W R K kind b : Int) (w : World) (h : plCheck N W R K = 0) (n0 : 1 ≤ N) (n1 : N ≤ 1048576) (w0 : 16 ≤ W) (w1 : W ≤ 256) (r0 : 1 ≤ R) (r1 : R ≤ 4096) (k0 : 1 ≤ K) (k1 : K ≤ 65536) :
    Calls Tryz.prog 50 #[.agg #[.int .i64 N, .int .i64 W, .int .i64 R, .int .i64 K], .int .i64 kind, .int .i64 b] w (Made w (.int .i64 (dueOk W K kind b))) := by
  have HC := Hd.mk (fun w => Of_ok N W R K w h n0 n1 w0 w1 r0 r1 k0 k1)
  have hb := dueB_range (b := b) w0 w1
  have HM : Hd (IntKind.i64.wrap (dueB W b * K) = dueB W b * K) := ⟨IntWalk.i64_in _ (by
    have := Int.mul_le_mul hb.2 k1 (by omega) (by omega)
    have := Int.mul_nonneg hb.1 (show 0 ≤ K by omega)
    omega)⟩
  obtain ⟨C, hC⟩ : ∃ C, C = dueB W b := ⟨_, rfl⟩
  have HB : Hd (C = if W - 7 < b then W - 7 else max b 0) := ⟨hC⟩
  rw [← hC] at HM
  have HCC := Hd.mk hC
  clear hC
  clear h n0 n1 r0 r1 hb
  by_cases q1 : kind = 1
  · subst q1
    have HD : Hd (dueOk W K 1 b = C * K) := ⟨by rw [HCC.out]; rfl⟩
    clear w0 w1 k0 k1
    go_enter Tryz.func50, Tryz.ntmps50
    go_wp2_with fail
    refine (HC.out _).mono ?_
    rintro _ wa ⟨X, hX, ⟨rfl, K1⟩⟩
    clear hX
    have B0 : Blk wa w.heap.size 46 #[.int .i64 N, .int .i64 W, .int .i64 R, .int .i64 K] := Blk.stays (Blk.new w 46 #[.int .i64 N, .int .i64 W, .int .i64 R, .int .i64 K]) K1 (fun x => x)
    have c3 : ∀ o, (wa.alloc o).cell? ⟨w.heap.size, 3, none⟩ = some (.int .i64 K) := fun o => (B0.alloc o).cell 3
    have KA := ((Stays.refl (fun _ => False) w).alloc (.cells #[.int .i64 N, .int .i64 W, .int .i64 R, .int .i64 K] 46)).trans K1
    go_upto_region 6 with fail
    go_region_held3 (fun wx => wx.cell? ⟨w.heap.size, 3, none⟩ = some (.int .i64 K) ∧ wx.cell? ⟨wa.heap.size, 2, none⟩ = some (.int .i64 (W - 7)))
     (first | with_reducible assumption | (refine ⟨?_, ?_⟩; (focus (exact c3 _)); (focus (refine Blk.cell (t := 112) (Blk.new wa _ _) 2)); done) | fail)
     (first | (go_at_call 129; refine (ClampV_c b 0 (W - 7) C _ HB.out).mono ?_; rintro _ _ ⟨rfl, rfl⟩) | fail)
    all_goals
      rw [HM.out]
      go_wp2_with fail
      go_ret
      exact ⟨by rw [HD.out] <;> rfl, by repeat (first | with_reducible exact KA | with_reducible apply Stays.alloc | with_reducible apply Stays.drew | with_reducible apply Stays.drewN)⟩
  · have HD1 : dueOk W K kind b = if kind = 10 then K else if kind = 2 ∨ kind = 3 ∨ kind = 6 ∨ kind = 7 then 1 else 0 := by unfold dueOk; rw [if_neg q1]
    have n1 : (kind == 1) = false := beq_eq_false_iff_ne.2 q1
    by_cases q10 : kind = 10
    · subst q10
      have HD : Hd (dueOk W K 10 b = K) := ⟨rfl⟩
      clear HD1 w0 w1 k0 k1 q1
      go_enter Tryz.func50, Tryz.ntmps50
      go_wp2_with fail
      refine (HC.out _).mono ?_
      rintro _ wa ⟨X, hX, ⟨rfl, K1⟩⟩
      clear hX
      have B0 : Blk wa w.heap.size 46 #[.int .i64 N, .int .i64 W, .int .i64 R, .int .i64 K] := Blk.stays (Blk.new w 46 #[.int .i64 N, .int .i64 W, .int .i64 R, .int .i64 K]) K1 (fun x => x)
      have c3 : ∀ o, (wa.alloc o).cell? ⟨w.heap.size, 3, none⟩ = some (.int .i64 K) := fun o => (B0.alloc o).cell 3
      have KA := ((Stays.refl (fun _ => False) w).alloc (.cells #[.int .i64 N, .int .i64 W, .int .i64 R, .int .i64 K] 46)).trans K1
      go_wp2_with fail
      go_ret
      exact ⟨by rw [HD.out] <;> rfl, by repeat (first | with_reducible exact KA | with_reducible apply Stays.alloc | with_reducible apply Stays.drew | with_reducible apply Stays.drewN)⟩
    · rw [if_neg q10] at HD1
      have n10 : (kind == 10) = false := beq_eq_false_iff_ne.2 q10
      by_cases q : kind = 2 ∨ kind = 3 ∨ kind = 6 ∨ kind = 7
      · rw [if_pos q] at HD1
        have HD := Hd.mk HD1
        clear HD1 w0 w1 k0 k1 q1 q10
        rcases q with rfl | rfl | rfl | rfl
        all_goals
          go_enter Tryz.func50, Tryz.ntmps50
          go_wp2_with fail
          refine (HC.out _).mono ?_
          rintro _ wa ⟨X, hX, ⟨rfl, K1⟩⟩
          clear hX
          have KA := ((Stays.refl (fun _ => False) w).alloc (.cells #[.int .i64 N, .int .i64 W, .int .i64 R, .int .i64 K] 46)).trans K1
          go_wp2_with fail
          go_ret
          exact ⟨by rw [HD.out] <;> rfl, by repeat (first | with_reducible exact KA | with_reducible apply Stays.alloc | with_reducible apply Stays.drew | with_reducible apply Stays.drewN)⟩
      · rw [if_neg q] at HD1
        have HD := Hd.mk HD1
        have n2 : (kind == 2) = false := beq_eq_false_iff_ne.2 (fun x => q (Or.inl x))
        have n3 : (kind == 3) = false := beq_eq_false_iff_ne.2 (fun x => q (Or.inr (Or.inl x)))
        have n6 : (kind == 6) = false := beq_eq_false_iff_ne.2 (fun x => q (Or.inr (Or.inr (Or.inl x))))
        have n7 : (kind == 7) = false := beq_eq_false_iff_ne.2 (fun x => q (Or.inr (Or.inr (Or.inr x))))
        clear HD1 w0 w1 k0 k1 q1 q10 q
        go_enter Tryz.func50, Tryz.ntmps50
        go_wp2_with fail
        refine (HC.out _).mono ?_
        rintro _ wa ⟨X, hX, ⟨rfl, K1⟩⟩
        clear hX
        have KA := ((Stays.refl (fun _ => False) w).alloc (.cells #[.int .i64 N, .int .i64 W, .int .i64 R, .int .i64 K] 46)).trans K1
        go_wp2_with fail
        go_ret
        exact ⟨by rw [HD.out] <;> rfl, by repeat (first | with_reducible exact KA | with_reducible apply Stays.alloc | with_reducible apply Stays.drew | with_reducible apply Stays.drewN)⟩
end Go.Proofs.YtadhdjldcpkfiaaGreatDoor
