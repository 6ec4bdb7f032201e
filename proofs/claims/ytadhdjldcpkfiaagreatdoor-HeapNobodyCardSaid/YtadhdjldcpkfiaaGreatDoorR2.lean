/- Whether a configuration may be. Nothing is asked. -/
import Derived.Test.YtadhdjldcpkfiaaGreatDoorR
namespace Go.Proofs.YtadhdjldcpkfiaaGreatDoor
set_option linter.unusedVariables false
set_option linter.unusedSimpArgs false
open Go.RowKit
set_option maxRecDepth 100000
set_option maxHeartbeats 800000

theorem Clamp_c (n lo hi : Int) (w : World) :
    Calls Tryz.prog 129 #[.int .i64 n, .int .i64 lo, .int .i64 hi] w fun e w' => e = .returned (.int .i64 (if hi < n then hi else max n lo)) ∧ w = w' := by
  by_cases h : hi < n
  · have HH := Hd.mk (show (if hi < n then hi else max n lo) = hi from if_pos h)
    go_enter Tryz.func129, Tryz.ntmps129
    go_wp2
    go_ret
    exact ⟨rfl, rfl⟩
  · have e : (if hi < n then hi else max n lo) = if n < lo then lo else n := by rw [if_neg h]; split <;> omega
    rw [e]
    clear e
    by_cases h2 : n < lo
    · rw [if_pos h2]
      go_enter Tryz.func129, Tryz.ntmps129
      go_wp2
      all_goals
        go_ret
        exact ⟨rfl, rfl⟩
    · rw [if_neg h2]
      go_enter Tryz.func129, Tryz.ntmps129
      go_wp2
      all_goals
        go_ret
        first | exact ⟨rfl, rfl⟩ | (obtain rfl : lo = n := by omega; exact ⟨rfl, rfl⟩)
/-- n lies from lo to hi. -/
def inB (n lo hi : Int) : Bool := decide (lo ≤ n) && decide (n ≤ hi)
theorem plWithin_c (n lo hi : Int) (w : World) (h : lo ≤ hi) :
    Calls Tryz.prog 147 #[.int .i64 n, .int .i64 lo, .int .i64 hi] w fun e w' => e = .returned (.bool (inB n lo hi)) ∧ w = w' := by
  by_cases hb : lo ≤ n ∧ n ≤ hi
  · have e1 : (if hi < n then hi else max n lo) = n := by rw [if_neg (by omega)]; omega
    have e2 : inB n lo hi = true := by simp [inB, hb]
    have C := Clamp_c n lo hi w
    rw [e1] at C
    have HC := Hd.mk C
    have HB := Hd.mk e2
    clear C e1 e2
    go_enter Tryz.func147, Tryz.ntmps147
    go_wp2_with fail
    refine HC.out.mono ?_
    rintro _ _ ⟨rfl, rfl⟩
    go_wp2_with fail
    go_ret
    exact ⟨by rw [HB.out]; rfl, rfl⟩
  · have e1 : (if hi < n then hi else max n lo) ≠ n := by split <;> omega
    have e2 : inB n lo hi = false := by
      have : ¬ (lo ≤ n ∧ n ≤ hi) := hb
      cases h1 : inB n lo hi
      · rfl
      · simp [inB] at h1; exact absurd h1 hb
    have C := Clamp_c n lo hi w
    generalize (if hi < n then hi else max n lo) = m at *
    have hm : (m == n) = false := beq_eq_false_iff_ne.2 e1
    have HC := Hd.mk C
    have HB := Hd.mk e2
    clear C e1 e2
    go_enter Tryz.func147, Tryz.ntmps147
    go_wp2_with fail
    refine HC.out.mono ?_
    rintro _ _ ⟨rfl, rfl⟩
    go_wp2_with fail
    go_ret
    exact ⟨by rw [HB.out]; rfl, rfl⟩
/-- What Check tells. -/
def plCheck (N W R K : Int) : Int := if inB N 1 1048576 && inB W 16 256 && inB R 1 4096 && inB K 1 65536 && decide (N * W ≤ 4194304) then 0 else 1
theorem Check_c (N W R K : Int) (w : World) :
    Calls Tryz.prog 202 #[.agg #[.int .i64 N, .int .i64 W, .int .i64 R, .int .i64 K]] w (Made w (.int .i64 (plCheck N W R K))) := by
  have C1 := Hd.mk (fun w => plWithin_c N 1 1048576 w (by omega))
  have C2 := Hd.mk (fun w => plWithin_c W 16 256 w (by omega))
  have C3 := Hd.mk (fun w => plWithin_c R 1 4096 w (by omega))
  have C4 := Hd.mk (fun w => plWithin_c K 1 65536 w (by omega))
  have hp : inB N 1 1048576 = true → inB W 16 256 = true → 0 ≤ N * W ∧ N * W ≤ 268435456 := by
    intro h1 h2
    simp [inB] at h1 h2
    refine ⟨Int.mul_nonneg (by omega) (by omega), ?_⟩
    have := Int.mul_le_mul (show N ≤ 1048576 by omega) (show W ≤ 256 by omega) (by omega) (by omega)
    omega
  have e : plCheck N W R K = if inB N 1 1048576 && inB W 16 256 && inB R 1 4096 && inB K 1 65536 && decide (N * W ≤ 4194304) then 0 else 1 := rfl
  generalize inB N 1 1048576 = b1 at *
  generalize inB W 16 256 = b2 at *
  generalize inB R 1 4096 = b3 at *
  generalize inB K 1 65536 = b4 at *
  generalize hP : N * W = P at *
  have E := Hd.mk e
  clear e
  cases b1
  · rw [E.out]
    have HP := Hd.mk hP
    clear hP hp E
    go_enter Tryz.func202, Tryz.ntmps202
    go_wp2_with fail
    refine (C1.out _).mono ?_
    rintro _ _ ⟨rfl, rfl⟩
    go_wp2_with fail
    go_ret
    exact ⟨rfl, (Stays.refl _ _).alloc _⟩
  · skip
    cases b2
    · rw [E.out]
      have HP := Hd.mk hP
      clear hP hp E
      go_enter Tryz.func202, Tryz.ntmps202
      go_wp2_with fail
      refine (C1.out _).mono ?_
      rintro _ _ ⟨rfl, rfl⟩
      go_wp2_with fail
      refine (C2.out _).mono ?_
      rintro _ _ ⟨rfl, rfl⟩
      go_wp2_with fail
      go_ret
      exact ⟨rfl, (Stays.refl _ _).alloc _⟩
    · skip
      cases b3
      · rw [E.out]
        have HP := Hd.mk hP
        clear hP hp E
        go_enter Tryz.func202, Tryz.ntmps202
        go_wp2_with fail
        refine (C1.out _).mono ?_
        rintro _ _ ⟨rfl, rfl⟩
        go_wp2_with fail
        refine (C2.out _).mono ?_
        rintro _ _ ⟨rfl, rfl⟩
        go_wp2_with fail
        refine (C3.out _).mono ?_
        rintro _ _ ⟨rfl, rfl⟩
        go_wp2_with fail
        go_ret
        exact ⟨rfl, (Stays.refl _ _).alloc _⟩
      · skip
        cases b4
        · rw [E.out]
          have HP := Hd.mk hP
          clear hP hp E
          go_enter Tryz.func202, Tryz.ntmps202
          go_wp2_with fail
          refine (C1.out _).mono ?_
          rintro _ _ ⟨rfl, rfl⟩
          go_wp2_with fail
          refine (C2.out _).mono ?_
          rintro _ _ ⟨rfl, rfl⟩
          go_wp2_with fail
          refine (C3.out _).mono ?_
          rintro _ _ ⟨rfl, rfl⟩
          go_wp2_with fail
          refine (C4.out _).mono ?_
          rintro _ _ ⟨rfl, rfl⟩
          go_wp2_with fail
          go_ret
          exact ⟨rfl, (Stays.refl _ _).alloc _⟩
        · skip
          have hq := hp rfl rfl
          have hw : wrap64 (N * W) = P := by rw [hP]; unfold wrap64; omega
          by_cases hL : P ≤ 4194304
          · rw [decide_eq_true hL] at E
            rw [show plCheck N W R K = 0 from by rw [E.out]; rfl]
            have HP := Hd.mk hP
            clear hP hp E
            go_enter Tryz.func202, Tryz.ntmps202
            go_wp2_with fail
            refine (C1.out _).mono ?_
            rintro _ _ ⟨rfl, rfl⟩
            go_wp2_with fail
            refine (C2.out _).mono ?_
            rintro _ _ ⟨rfl, rfl⟩
            go_wp2_with fail
            refine (C3.out _).mono ?_
            rintro _ _ ⟨rfl, rfl⟩
            go_wp2_with fail
            refine (C4.out _).mono ?_
            rintro _ _ ⟨rfl, rfl⟩
            go_wp2_with fail
            go_ret
            exact ⟨rfl, (Stays.refl _ _).alloc _⟩
          · rw [decide_eq_false hL] at E
            rw [show plCheck N W R K = 1 from by rw [E.out]; rfl]
            have HP := Hd.mk hP
            clear hP hp E
            go_enter Tryz.func202, Tryz.ntmps202
            go_wp2_with fail
            refine (C1.out _).mono ?_
            rintro _ _ ⟨rfl, rfl⟩
            go_wp2_with fail
            refine (C2.out _).mono ?_
            rintro _ _ ⟨rfl, rfl⟩
            go_wp2_with fail
            refine (C3.out _).mono ?_
            rintro _ _ ⟨rfl, rfl⟩
            go_wp2_with fail
            refine (C4.out _).mono ?_
            rintro _ _ ⟨rfl, rfl⟩
            go_wp2_with fail
            go_ret
            exact ⟨rfl, (Stays.refl _ _).alloc _⟩
end Go.Proofs.YtadhdjldcpkfiaaGreatDoor
