/- What work.Array does. -/
import Derived.Test.YtampnfmhmonebaaList
namespace Go.Proofs.Ytampnfmhmonebaa.QWorkShapes
open Go.RowKit Go.Proofs.YtampnfmhmonebaaW.PrintWords Go.Proofs.YtampnfmhmonebaaW.PrintLast Go.Proofs.YtampnfmhmonebaaW.PrintMore
set_option linter.unusedVariables false
set_option linter.unusedSimpArgs false
set_option maxRecDepth 100000
set_option maxHeartbeats 1600000

def arrOne (M i : Int) : List S34 := [⟨1, 1, 0, M, 0⟩] ++ ((if 0 < M then [⟨5, 1, 0, 0, i % 4294967296⟩] else []) ++ [⟨3, 0, i, 1, 0⟩])
def arrN (K M : Int) : Nat → List S34
  | 0 => [⟨1, 0, K, 0, 0⟩]
  | k + 1 => arrN K M k ++ arrOne M k
theorem arrN_length (K M : Int) (k : Nat) : (arrN K M k).length ≤ 1 + 3 * k := by
  induction k with
  | zero => simp [arrN]
  | succ k ih =>
    simp only [arrN, arrOne, List.length_append, List.length_cons, List.length_nil]
    split <;> simp <;> omega

def arrAll (n m : Int) : List S34 := arrN (clampI n 0 100) (clampI m 0 100) (clampI n 0 100).toNat ++ [⟨7, 1, 0, 0, 0⟩]

theorem Array_calls (n m : Int) (w : World) :
    Calls Try.prog 15 #[.int .i64 n, .int .i64 m] w fun e w' => ∃ v, e = .returned v ∧ Kd.R k34 34 w' w.heap.size (fun _ => True) v (arrAll n m) ∧ Below w.heap.size w w' := by
  unfold arrAll
  obtain ⟨K, hK⟩ : ∃ K : Nat, clampI n 0 100 = K := Int.eq_ofNat_of_zero_le (clampI_range n (by decide)).1
  have hK2 : K ≤ 100 := by have := (clampI_range n (hi := 100) (by decide)).2; omega
  obtain ⟨M, hM⟩ : ∃ M : Int, clampI m 0 100 = M := ⟨_, rfl⟩
  rw [hK, Int.toNat_natCast, hM]
  have HC : Aside0 (∀ w, Calls Try.prog 19 #[.int .i64 n, .int .i64 0, .int .i64 100] w fun e w' => e = .returned (.int .i64 K) ∧ w = w') := ⟨fun w => hK ▸ clamp_calls n 0 100 w⟩
  have HC2 : Aside0 (∀ w, Calls Try.prog 19 #[.int .i64 m, .int .i64 0, .int .i64 100] w fun e w' => e = .returned (.int .i64 M) ∧ w = w') := ⟨fun w => hM ▸ clamp_calls m 0 100 w⟩
  clear hK hM
  have HS0 : Aside0 (Scr (w.alloc (.cells #[.slice none 0 0] 37)) w.heap.size w.heap.size []) := ⟨⟨⟨.slice none 0 0, heap_alloc_new w _, Kd.R_nil _ _ _ _ _⟩⟩⟩
  go_enter Try.func15, Try.ntmps15
  go_wp2_with fail
  refine (HC.out _).mono ?_
  rintro _ _ ⟨rfl, rfl⟩
  go_wp2_with fail
  refine (HC2.out _).mono ?_
  rintro _ _ ⟨rfl, rfl⟩
  go_wp2_with fail
  refine (add3_calls (HS0.out.alloc _) (Nat.le_refl _) (by simp) 1 0 K 0 (w.heap.size + 1) (by have := heap_alloc_new (w.alloc (.cells #[.slice none 0 0] 37)) (.cells #[.int .i64 0, .int .i64 K, .int .i64 0] 3); simpa using this)).mono ?_
  rintro _ w0 ⟨rfl, H0, K0⟩
  have HB0 : Aside0 (Below w.heap.size w w0) := ⟨(((Below.refl _ _).alloc (Nat.le_refl _) _).alloc (by simp) _).trans K0⟩
  have HA0 : Aside0 (Scr w0 w.heap.size w.heap.size (arrN K M 0)) := ⟨by simpa [arrN] using H0⟩
  clear H0 K0
  go_wp2_with fail
  go_loopw [17] (fun s wr => ∃ j : Nat, j ≤ K ∧ s = .int .i64 j ∧ Aside0 (Scr wr w.heap.size w.heap.size (arrN K M j)) ∧ Aside0 (Below w.heap.size w wr)) (fun s _ => K - (intOf s).toNat)
  case atStart => exact ⟨0, by omega, rfl, HA0, HB0⟩
  case round =>
    obtain ⟨j, hj, rfl, HS, HB⟩ := hrel
    have hlen := arrN_length K M j
    by_cases c : j < K
    · have cb : decide ((j : Int) < (K : Int)) = true := decide_eq_true (by omega)
      have ew : wrap64 ((j : Int) + 1) = (j : Int) + 1 := by unfold wrap64; omega
      by_cases hM : 0 < M
      · have hM1 : decide (0 < M) = true := decide_eq_true hM
        go_wp2_with fail
        refine (add3_calls (HS.out.alloc _) (Nat.le_refl _) (by omega) 1 1 0 M wr.heap.size (heap_alloc_new wr _)).mono ?_
        rintro _ w1 ⟨rfl, H1, K1⟩
        go_wp2_with fail
        refine (write_calls H1 (Nat.le_refl _) (by simp; omega) 1 j).mono ?_
        rintro _ w2 ⟨rfl, H2, K2⟩
        have HB2 := (((HB.out.alloc HB.out.size _).trans K1).trans K2)
        go_wp2_with fail
        refine (add3_calls (H2.alloc _) (Nat.le_refl _) (by simp; omega) 3 0 j 1 w2.heap.size (heap_alloc_new w2 _)).mono ?_
        rintro _ w3 ⟨rfl, H3, K3⟩
        go_wp2_with fail
        go_roundw
        case rel => exact ⟨j + 1, by omega, by first | rfl | simp, ⟨by simpa [arrN, arrOne, hM, List.append_assoc] using H3⟩, ⟨(HB2.alloc HB2.size _).trans K3⟩⟩
        case measure => simp [intOf]; omega
      · have hM1 : decide (0 < M) = false := decide_eq_false hM
        have ea : arrOne M j = [⟨1, 1, 0, M, 0⟩] ++ [⟨3, 0, j, 1, 0⟩] := by unfold arrOne; rw [if_neg hM]; rfl
        have HEA := Aside0.mk ea
        clear ea
        go_wp2_with fail
        refine (add3_calls (HS.out.alloc _) (Nat.le_refl _) (by omega) 1 1 0 M wr.heap.size (heap_alloc_new wr _)).mono ?_
        rintro _ w1 ⟨rfl, H1, K1⟩
        have HB2 := ((HB.out.alloc HB.out.size _).trans K1)
        go_wp2_with fail
        refine (add3_calls (H1.alloc _) (Nat.le_refl _) (by simp; omega) 3 0 j 1 w1.heap.size (heap_alloc_new w1 _)).mono ?_
        rintro _ w3 ⟨rfl, H3, K3⟩
        go_wp2_with fail
        go_roundw
        case rel => exact ⟨j + 1, by omega, by first | rfl | simp, ⟨by simpa [arrN, HEA.out, List.append_assoc] using H3⟩, ⟨(HB2.alloc HB2.size _).trans K3⟩⟩
        case measure => simp [intOf]; omega
    · have cb : decide ((j : Int) < (K : Int)) = false := decide_eq_false (by omega)
      obtain rfl : j = K := by omega
      go_wp2_with fail
      refine (add1_calls (HS.out.alloc _) (Nat.le_refl _) (by omega) 7 1 wr.heap.size (heap_alloc_new wr _)).mono ?_
      rintro _ w1 ⟨rfl, H1, K1⟩
      obtain ⟨v, hb, hR⟩ := H1.out
      have cv := row_cell hb 0
      obtain ⟨ad, q, cp, rfl⟩ := R_slice hR
      have HR := Aside0.mk (Kd.R_mono hR (ok' := fun _ => True) (fun _ _ => trivial))
      have KB := Aside0.mk ((HB.out.alloc HB.out.size _).trans K1)
      clear hb hR
      go_wp2_with fail
      go_ret
      exact ⟨_, rfl, HR.out, KB.out⟩
end Go.Proofs.Ytampnfmhmonebaa.QWorkShapes
