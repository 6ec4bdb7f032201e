/- What work.Tree does. -/
import Derived.Test.YtampnfmhmonebaaTree
namespace Go.Proofs.Ytampnfmhmonebaa.QWorkShapes
open Go.RowKit Go.Proofs.YtampnfmhmonebaaW.PrintWords Go.Proofs.YtampnfmhmonebaaW.PrintLast Go.Proofs.YtampnfmhmonebaaW.PrintMore
set_option linter.unusedVariables false
set_option linter.unusedSimpArgs false
set_option maxRecDepth 100000
set_option maxHeartbeats 1600000

/-- A tree of a depth, in slot 0. -/
def treeB : Nat → List S34
  | 0 => []
  | d + 1 => buildN d 0
theorem treeB_length (d : Nat) (h : d ≤ 8) : (treeB d).length ≤ 2048 := by
  cases d with
  | zero => simp [treeB]
  | succ d =>
    have := buildN_length d 0
    have h2 : 2 ^ d ≤ 2 ^ 7 := Nat.pow_le_pow_right (by decide) (by omega)
    simp only [treeB]
    omega
/-- The slots 1 .. are dropped. -/
def dropsUp : Nat → List S34
  | 0 => []
  | k + 1 => dropsUp k ++ [⟨7, (k : Int) + 1, 0, 0, 0⟩]
theorem dropsUp_length (k : Nat) : (dropsUp k).length = k := by
  induction k with
  | zero => rfl
  | succ k ih => simp [dropsUp, ih]
def treeAll (n : Int) : List S34 := treeB (clampI n 0 8).toNat ++ dropsUp ((clampI n 0 8).toNat - 1)

theorem Tree_calls (n : Int) (w : World) :
    Calls Try.prog 13 #[.int .i64 n] w fun e w' => ∃ v, e = .returned v ∧ Kd.R k34 34 w' w.heap.size (fun _ => True) v (treeAll n) ∧ Below w.heap.size w w' := by
  unfold treeAll
  obtain ⟨K, hK⟩ : ∃ K : Nat, clampI n 0 8 = K := Int.eq_ofNat_of_zero_le (clampI_range n (by decide)).1
  have hK2 : K ≤ 8 := by have := (clampI_range n (hi := 8) (by decide)).2; omega
  rw [hK, Int.toNat_natCast]
  have HC : Aside0 (∀ w, Calls Try.prog 19 #[.int .i64 n, .int .i64 0, .int .i64 8] w fun e w' => e = .returned (.int .i64 K) ∧ w = w') := ⟨fun w => hK ▸ clamp_calls n 0 8 w⟩
  clear hK
  have hl8 := treeB_length K hK2
  have HS0 : Aside0 (Scr (w.alloc (.cells #[.slice none 0 0] 37)) w.heap.size w.heap.size []) := ⟨⟨⟨.slice none 0 0, heap_alloc_new w _, Kd.R_nil _ _ _ _ _⟩⟩⟩
  have HB0 : Aside0 (Below w.heap.size w (w.alloc (.cells #[.slice none 0 0] 37))) := ⟨(Below.refl _ _).alloc (Nat.le_refl _) _⟩
  have loop : ∀ w1 : World, Aside0 (Scr w1 w.heap.size w.heap.size (treeB K)) → Aside0 (Below w.heap.size w w1) → True := fun _ _ _ => trivial
  clear loop
  rcases Nat.eq_zero_or_pos K with h0 | h0
  · subst h0
    have c1 : decide ((0 : Int) < 0) = false := rfl
    have c2 : decide ((1 : Int) < 0) = false := rfl
    change Aside0 (∀ w, Calls Try.prog 19 #[.int .i64 n, .int .i64 0, .int .i64 8] w fun e w' => e = .returned (.int .i64 0) ∧ w = w') at HC
    go_enter Try.func13, Try.ntmps13
    go_wp2_with fail
    refine (HC.out _).mono ?_
    rintro _ _ ⟨rfl, rfl⟩
    obtain ⟨v, hb, hR⟩ := HS0.out.out
    have cv := row_cell hb 0
    obtain ⟨ad, q, cp, rfl⟩ := R_slice hR
    have HR := Aside0.mk (Kd.R_mono hR (ok' := fun _ => True) (fun _ _ => trivial))
    clear hb hR
    go_wp2_with fail
    go_loopw [5] (fun s wr => s = .int .i64 1 ∧ wr = w.alloc (.cells #[.slice none 0 0] 37)) (fun s _ => 0)
    case atStart => exact ⟨rfl, rfl⟩
    case round =>
      obtain ⟨rfl, rfl⟩ := hrel
      go_wp2_with fail
      go_ret
      exact ⟨_, rfl, HR.out, HB0.out⟩
  · obtain ⟨d, rfl⟩ : ∃ d, K = d + 1 := ⟨K - 1, by omega⟩
    have hd : d ≤ 7 := by omega
    have c1 : decide (0 < (d : Int) + 1) = true := decide_eq_true (by omega)
    have hpw : 2 ^ d ≤ 2 ^ 7 := Nat.pow_le_pow_right (by decide) hd
    obtain ⟨P, hP⟩ : ∃ P, 8 * 2 ^ d = P := ⟨_, rfl⟩
    have hP2 : P ≤ 2048 := by rw [← hP]; omega
    have HBU := Aside0.mk (build_calls d (b := w.heap.size) HS0.out (Nat.le_refl _) 0 P hP (by simp; omega) (by decide) (by omega))
    clear hP hP2 hpw h0
    have e1 : ((d + 1 : Nat) : Int) = (d : Int) + 1 := by omega
    rw [e1] at HC
    have HL := Aside0.mk (show (treeB (d + 1)).length ≤ 2048 from hl8)
    clear hl8 e1
    go_enter Try.func13, Try.ntmps13
    go_wp2_with fail
    refine (HC.out _).mono ?_
    rintro _ _ ⟨rfl, rfl⟩
    go_wp2_with fail
    refine HBU.out.mono ?_
    rintro _ w1 ⟨rfl, H1, K1⟩
    have HS1 : Aside0 (Scr w1 w.heap.size w.heap.size (treeB (d + 1) ++ dropsUp 0)) := ⟨by simpa [treeB, dropsUp] using H1⟩
    have HB1 := Aside0.mk (HB0.out.trans K1)
    clear H1 K1 HBU
    go_wp2_with fail
    go_loopw [5] (fun s wr => ∃ j : Nat, j ≤ d ∧ s = .int .i64 ((j : Int) + 1) ∧ Aside0 (Scr wr w.heap.size w.heap.size (treeB (d + 1) ++ dropsUp j)) ∧ Aside0 (Below w.heap.size w wr)) (fun s _ => d + 1 - (intOf s).toNat)
    case atStart => exact ⟨0, by omega, rfl, HS1, HB1⟩
    case round =>
      obtain ⟨j, hj, rfl, HS, HB⟩ := hrel
      by_cases c : j < d
      · have cb : decide ((j : Int) + 1 < (d : Int) + 1) = true := decide_eq_true (by omega)
        have hj1 := Aside0.mk (show j + 1 ≤ d by omega)
        have hme := Aside0.mk (show d + 1 - ((j : Int) + 1 + 1).toNat < d + 1 - ((j : Int) + 1).toNat by omega)
        have hlen : (treeB (d + 1) ++ dropsUp j).length ≤ 1000000 := by
          have := HL.out
          rw [List.length_append, dropsUp_length]
          omega
        have ew : wrap64 ((j : Int) + 1 + 1) = (j : Int) + 1 + 1 := by unfold wrap64; omega
        go_wp2_with fail
        refine (add1_calls (HS.out.alloc _) (Nat.le_refl _) hlen 7 ((j : Int) + 1) wr.heap.size (heap_alloc_new wr _)).mono ?_
        rintro _ w2 ⟨rfl, H2, K2⟩
        go_wp2_with fail
        have HN : Aside0 (Scr w2 w.heap.size w.heap.size (treeB (d + 1) ++ dropsUp (j + 1))) := ⟨by simpa [dropsUp, List.append_assoc] using H2⟩
        have HBN : Aside0 (Below w.heap.size w w2) := ⟨(HB.out.alloc HB.out.size _).trans K2⟩
        go_roundw
        case rel => exact ⟨j + 1, hj1.out, by first | rfl | (rw [ew]; simp; done) | simp, HN, HBN⟩
        case measure =>
          first
            | exact hme.out
            | (simp only [intOf]; exact hme.out)
            | (rw [ew]; simp only [intOf]; exact hme.out)
      · have cb : decide ((j : Int) + 1 < (d : Int) + 1) = false := decide_eq_false (by omega)
        obtain rfl : j = d := by omega
        obtain ⟨v, hb, hR⟩ := HS.out.out
        have cv := row_cell hb 0
        obtain ⟨ad, q, cp, rfl⟩ := R_slice hR
        have HR := Aside0.mk (Kd.R_mono hR (ok' := fun _ => True) (fun _ _ => trivial))
        clear hb hR
        go_wp2_with fail
        go_ret
        exact ⟨_, rfl, HR.out, HB.out⟩
end Go.Proofs.Ytampnfmhmonebaa.QWorkShapes
