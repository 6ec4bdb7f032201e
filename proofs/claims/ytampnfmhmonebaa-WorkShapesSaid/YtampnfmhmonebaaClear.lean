/- What work.Clear does. -/
import Derived.Test.YtampnfmhmonebaaList
namespace Go.Proofs.Ytampnfmhmonebaa.QWorkShapes
open Go.RowKit Go.Proofs.YtampnfmhmonebaaW.PrintWords Go.Proofs.YtampnfmhmonebaaW.PrintLast Go.Proofs.YtampnfmhmonebaaW.PrintMore
set_option linter.unusedVariables false
set_option linter.unusedSimpArgs false
set_option maxRecDepth 100000
set_option maxHeartbeats 1600000

def dropsN : Nat → List S34
  | 0 => []
  | k + 1 => dropsN k ++ [⟨7, k, 0, 0, 0⟩]
theorem dropsN_length (k : Nat) : (dropsN k).length = k := by
  induction k with
  | zero => rfl
  | succ k ih => simp [dropsN, ih]
def ticksN : Nat → List S34
  | 0 => []
  | k + 1 => ticksN k ++ [⟨10, 0, 0, 0, 0⟩]
theorem ticksN_length (k : Nat) : (ticksN k).length = k := by
  induction k with
  | zero => rfl
  | succ k ih => simp [ticksN, ih]

def clearAll (n m : Int) : List S34 := dropsN (clampI n 0 4096).toNat ++ ticksN (clampI m 0 100000).toNat

theorem Clear_calls (n m : Int) (w : World) :
    Calls Try.prog 17 #[.int .i64 n, .int .i64 m] w fun e w' => ∃ v, e = .returned v ∧ Kd.R k34 34 w' w.heap.size (fun _ => True) v (clearAll n m) ∧ Below w.heap.size w w' := by
  unfold clearAll
  obtain ⟨K, hK⟩ : ∃ K : Nat, clampI n 0 4096 = K := Int.eq_ofNat_of_zero_le (clampI_range n (by decide)).1
  have hK2 : K ≤ 4096 := by have := (clampI_range n (hi := 4096) (by decide)).2; omega
  obtain ⟨M, hM⟩ : ∃ M : Nat, clampI m 0 100000 = M := Int.eq_ofNat_of_zero_le (clampI_range m (by decide)).1
  have hM2 : M ≤ 100000 := by have := (clampI_range m (hi := 100000) (by decide)).2; omega
  rw [hK, Int.toNat_natCast, hM, Int.toNat_natCast]
  have HC : Aside0 (∀ w, Calls Try.prog 19 #[.int .i64 n, .int .i64 0, .int .i64 4096] w fun e w' => e = .returned (.int .i64 K) ∧ w = w') := ⟨fun w => hK ▸ clamp_calls n 0 4096 w⟩
  have HC2 : Aside0 (∀ w, Calls Try.prog 19 #[.int .i64 m, .int .i64 0, .int .i64 100000] w fun e w' => e = .returned (.int .i64 M) ∧ w = w') := ⟨fun w => hM ▸ clamp_calls m 0 100000 w⟩
  clear hK hM
  go_enter Try.func17, Try.ntmps17
  go_wp2_with fail
  refine (HC.out _).mono ?_
  rintro _ _ ⟨rfl, rfl⟩
  go_wp2_with fail
  go_loopw [9] (fun s wr => ∃ j : Nat, j ≤ K ∧ s = .int .i64 j ∧ Aside0 (Scr wr w.heap.size w.heap.size (dropsN j)) ∧ Aside0 (Below w.heap.size w wr)) (fun s _ => K - (intOf s).toNat)
  case atStart => exact ⟨0, by omega, rfl, ⟨⟨⟨.slice none 0 0, heap_alloc_new w _, Kd.R_nil _ _ _ _ _⟩⟩⟩, ⟨(Below.refl _ _).alloc (Nat.le_refl _) _⟩⟩
  case round =>
    obtain ⟨j, hj, rfl, HS, HB⟩ := hrel
    by_cases c : j < K
    · have cb : decide ((j : Int) < (K : Int)) = true := decide_eq_true (by omega)
      have ew : wrap64 ((j : Int) + 1) = (j : Int) + 1 := by unfold wrap64; omega
      go_wp2_with fail
      refine (add1_calls (HS.out.alloc _) (Nat.le_refl _) (by rw [dropsN_length]; omega) 7 j wr.heap.size (heap_alloc_new wr _)).mono ?_
      rintro _ w1 ⟨rfl, H1, K1⟩
      go_wp2_with fail
      go_roundw
      case rel => exact ⟨j + 1, by omega, by first | rfl | simp, ⟨H1⟩, ⟨(HB.out.alloc HB.out.size _).trans K1⟩⟩
      case measure => simp [intOf]; omega
    · have cb : decide ((j : Int) < (K : Int)) = false := decide_eq_false (by omega)
      obtain rfl : j = K := by omega
      go_wp2_with fail
      refine (HC2.out _).mono ?_
      rintro _ _ ⟨rfl, rfl⟩
      go_wp2_with fail
      go_loopw [18] (fun s wx => ∃ i : Nat, i ≤ M ∧ s = .int .i64 i ∧ Aside0 (Scr wx w.heap.size w.heap.size (dropsN j ++ ticksN i)) ∧ Aside0 (Below w.heap.size w wx)) (fun s _ => M - (intOf s).toNat)
      case atStart => exact ⟨0, by omega, rfl, ⟨by simpa [ticksN] using HS.out⟩, HB⟩
      case round =>
        obtain ⟨i, hi, rfl, HT, HD⟩ := hrel
        by_cases c2 : i < M
        · have cb2 : decide ((i : Int) < (M : Int)) = true := decide_eq_true (by omega)
          have ew : wrap64 ((i : Int) + 1) = (i : Int) + 1 := by unfold wrap64; omega
          go_wp2_with fail
          refine (add0_calls HT.out (Nat.le_refl _) (by rw [List.length_append, dropsN_length, ticksN_length]; omega) 10).mono ?_
          rintro _ w1 ⟨rfl, H1, K1⟩
          go_wp2_with fail
          go_roundw
          case rel => exact ⟨i + 1, by omega, by first | rfl | simp, ⟨by simpa [ticksN, List.append_assoc] using H1⟩, ⟨HD.out.trans K1⟩⟩
          case measure => simp [intOf]; omega
        · have cb2 : decide ((i : Int) < (M : Int)) = false := decide_eq_false (by omega)
          obtain rfl : i = M := by omega
          obtain ⟨v, hb, hR⟩ := HT.out.out
          have cv := row_cell hb 0
          obtain ⟨ad, q, cp, rfl⟩ := R_slice hR
          have HR := Aside0.mk (Kd.R_mono hR (ok' := fun _ => True) (fun _ _ => trivial))
          clear hb hR
          go_wp2_with fail
          go_ret
          exact ⟨_, rfl, HR.out, HD.out⟩
end Go.Proofs.Ytampnfmhmonebaa.QWorkShapes
