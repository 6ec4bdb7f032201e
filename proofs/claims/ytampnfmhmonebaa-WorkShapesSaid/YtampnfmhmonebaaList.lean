/- What ratio.Clamp and work.List do. -/
import Derived.Test.YtampnfmhmonebaaNode
namespace Go.Proofs.Ytampnfmhmonebaa.QWorkShapes
open Go.RowKit Go.Proofs.YtampnfmhmonebaaW.PrintWords Go.Proofs.YtampnfmhmonebaaW.PrintLast Go.Proofs.YtampnfmhmonebaaW.PrintMore
set_option linter.unusedVariables false
set_option linter.unusedSimpArgs false
set_option maxRecDepth 100000
set_option maxHeartbeats 1600000

def clampI (n lo hi : Int) : Int := if hi < n then hi else max n lo
theorem clamp_calls (n lo hi : Int) (w : World) :
    Calls Try.prog 19 #[.int .i64 n, .int .i64 lo, .int .i64 hi] w fun e w' => e = .returned (.int .i64 (clampI n lo hi)) ∧ w = w' := by
  unfold clampI
  by_cases h : hi < n
  · have HH := Aside0.mk (show (if hi < n then hi else max n lo) = hi from if_pos h)
    go_enter Try.func19, Try.ntmps19
    go_wp2
    go_ret
    exact ⟨rfl, rfl⟩
  · have e : (if hi < n then hi else max n lo) = if n < lo then lo else n := by rw [if_neg h]; split <;> omega
    rw [e]
    clear e
    by_cases h2 : n < lo
    · rw [if_pos h2]
      go_enter Try.func19, Try.ntmps19
      go_wp2
      all_goals
        go_ret
        exact ⟨rfl, rfl⟩
    · rw [if_neg h2]
      go_enter Try.func19, Try.ntmps19
      go_wp2
      all_goals
        go_ret
        first | exact ⟨rfl, rfl⟩ | (obtain rfl : lo = n := by omega; exact ⟨rfl, rfl⟩)
theorem clampI_range (n : Int) {hi : Int} (h : 0 ≤ hi) : 0 ≤ clampI n 0 hi ∧ clampI n 0 hi ≤ hi := by unfold clampI; split <;> omega

/-- So many nodes. -/
def listN : Nat → List S34
  | 0 => []
  | k + 1 => listN k ++ nodeOps ((k : Int) + 1)
theorem listN_length (k : Nat) : (listN k).length = 4 * k := by
  induction k with
  | zero => rfl
  | succ k ih => simp [listN, nodeOps, ih]; omega

theorem List_calls (n : Int) (w : World) :
    Calls Try.prog 9 #[.int .i64 n] w fun e w' => ∃ v, e = .returned v ∧ Kd.R k34 34 w' w.heap.size (fun _ => True) v (listN (clampI n 0 1000).toNat ++ [⟨7, 1, 0, 0, 0⟩]) ∧ Below w.heap.size w w' := by
  obtain ⟨K, hK⟩ : ∃ K : Nat, clampI n 0 1000 = K := Int.eq_ofNat_of_zero_le (clampI_range n (by decide)).1
  have hK2 : K ≤ 1000 := by have := (clampI_range n (hi := 1000) (by decide)).2; omega
  rw [hK, Int.toNat_natCast]
  have HC : Aside0 (∀ w, Calls Try.prog 19 #[.int .i64 n, .int .i64 0, .int .i64 1000] w fun e w' => e = .returned (.int .i64 K) ∧ w = w') := ⟨fun w => hK ▸ clamp_calls n 0 1000 w⟩
  clear hK
  go_enter Try.func9, Try.ntmps9
  go_wp2_with fail
  refine (HC.out _).mono ?_
  rintro _ _ ⟨rfl, rfl⟩
  go_wp2_with fail
  go_loopw [7] (fun s wr => ∃ j : Nat, j ≤ K ∧ s = .int .i64 j ∧ Aside0 (Scr wr w.heap.size w.heap.size (listN j)) ∧ Aside0 (Below w.heap.size w wr)) (fun s _ => K - (intOf s).toNat)
  case atStart => exact ⟨0, by omega, rfl, ⟨⟨⟨.slice none 0 0, heap_alloc_new w _, Kd.R_nil _ _ _ _ _⟩⟩⟩, ⟨(Below.refl _ _).alloc (Nat.le_refl _) _⟩⟩
  case round =>
    obtain ⟨j, hj, rfl, HS, HB⟩ := hrel
    by_cases c : j < K
    · have cb : decide ((j : Int) < (K : Int)) = true := decide_eq_true (by omega)
      have ew : wrap64 ((j : Int) + 1) = (j : Int) + 1 := by unfold wrap64; omega
      go_wp2_with fail
      refine (node_calls HS.out (Nat.le_refl _) (by rw [listN_length]; omega) ((j : Int) + 1)).mono ?_
      rintro _ w1 ⟨rfl, H1, K1⟩
      go_wp2_with fail
      go_roundw
      case rel => exact ⟨j + 1, by omega, by first | rfl | simp, ⟨H1⟩, ⟨HB.out.trans K1⟩⟩
      case measure => simp [intOf]; omega
    · have cb : decide ((j : Int) < (K : Int)) = false := decide_eq_false (by omega)
      obtain rfl : j = K := by omega
      go_wp2_with fail
      refine (add1_calls (HS.out.alloc _) (Nat.le_refl _) (by rw [listN_length]; omega) 7 1 wr.heap.size (heap_alloc_new wr _)).mono ?_
      rintro _ w1 ⟨rfl, H1, K1⟩
      obtain ⟨v, hb, hR⟩ := H1.out
      have cv := row_cell hb 0
      obtain ⟨ad, q, cp, rfl⟩ := R_slice hR
      have HR := Aside0.mk (Kd.R_mono hR (ok' := fun _ => True) (fun _ _ => trivial))
      have KB := Aside0.mk ((HB.out.alloc HB.out.size _).trans K1)
      clear hb hR
      go_wp2_with fail
      go_ret
      exact ⟨_, rfl, HR.out, KB.out⟩
end Go.Proofs.Ytampnfmhmonebaa.QWorkShapes
