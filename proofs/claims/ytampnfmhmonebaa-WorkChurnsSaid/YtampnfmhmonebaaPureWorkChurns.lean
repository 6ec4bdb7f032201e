/- The operations that are drawn by a rule are drawn alike: the pure statement of WorkChurns. -/
import Derived.Test.YtampnfmhmonebaaQWorkChurnsx2
namespace Go.Proofs.Ytampnfmhmonebaa.Pure
open Go.RowKit Go.Proofs.Ytampnfmhmonebaa.QWorkShapes Go.Proofs.YtampnfmhmonebaaW.PrintWords Go.Proofs.YtampnfmhmonebaaW.PrintLast
set_option maxRecDepth 100000

theorem ops_self (xs : List S34) (h : xs.length < 4611686018427387904) : ∀ (k i : Nat), i ≤ xs.length → xs.length - i < k → quitrentref28_Ops.l0 k xs xs i = some true := by
  intro k
  induction k with
  | zero => intro i _ hk; omega
  | succ k ih =>
    intro i hi hk
    unfold quitrentref28_Ops.l0
    by_cases c : i < xs.length
    · have ew : wrap64 ((i : Int) + 1) = ((i + 1 : Nat) : Int) := by unfold wrap64; omega
      rw [if_pos (show (i : Int) < (xs.length : Int) by omega), if_pos (show (0 : Int) ≤ (i : Int) by omega), if_pos (show (i : Int) < (xs.length : Int) by omega), if_neg (by simp), ew]
      exact ih (i + 1) (by omega) (by omega)
    · rw [if_neg (show ¬ (i : Int) < (xs.length : Int) by omega)]
theorem ops_alike (xs : List S34) (k : Nat) (hk : xs.length < k) (h : xs.length < 4611686018427387904) : quitrentref28_Ops.f k xs xs = some true := by
  unfold quitrentref28_Ops.f
  rw [if_pos rfl]
  exact ops_self xs h k 0 (Nat.zero_le _) (by omega)
theorem begun_at : quitrentlaw29_begun.f 20 = some true := by decide +kernel
theorem begun_ge (k : Nat) (h : 20 ≤ k) : quitrentlaw29_begun.f k = some true := by
  induction k with
  | zero => omega
  | succ k ih =>
    rcases Nat.lt_or_ge k 20 with h' | h'
    · obtain rfl : k = 19 := by omega
      exact begun_at
    · exact quitrentlaw29_begun.mono k _ (ih h')

theorem WorkChurns : quitrentlaw29_WorkChurns.Pure := by
  intro a0 a1 a2 w0 w1 w2
  refine ⟨6000, ?_⟩
  have hs : 0 ≤ a0 ∧ a0 < 18446744073709551616 := by
    have h : IntKind.u64.min ≤ a0 ∧ a0 ≤ IntKind.u64.max := by simpa [Lit.wf] using w0
    have e1 : IntKind.u64.min = 0 := rfl
    have e2 : IntKind.u64.max = 18446744073709551615 := rfl
    omega
  have hl : (churnAll a0 a1 a2).length ≤ 5000 := by
    have := clampI_range a1 (hi := 5000) (by decide)
    simp only [churnAll, chS_length]
    omega
  unfold quitrentlaw29_WorkChurns.f
  rw [begun_ge 6000 (by decide)]
  simp only [Option.bind_some, if_true]
  rw [show work_Churn.f a0 a1 a2 = some (churnAll a0 a1 a2) from if_pos hs, show quitrentref29_Churn.f a0 a1 a2 = some (churnAll a0 a1 a2) from if_pos hs]
  simp only [Option.bind_some]
  rw [ops_alike _ 6000 (by omega) (by omega)]
  rfl
end Go.Proofs.Ytampnfmhmonebaa.Pure
