/- What (*script).build and work.Tree do. -/
import Derived.Test.YtampnfmhmonebaaList
namespace Go.Proofs.Ytampnfmhmonebaa.QWorkShapes
open Go.RowKit Go.Proofs.YtampnfmhmonebaaW.PrintWords Go.Proofs.YtampnfmhmonebaaW.PrintLast Go.Proofs.YtampnfmhmonebaaW.PrintMore
set_option linter.unusedVariables false
set_option linter.unusedSimpArgs false
set_option maxRecDepth 100000
set_option maxHeartbeats 1600000

def bHead (s d : Int) : List S34 := [⟨1, s, 2, 1, 0⟩, ⟨5, s, 0, 0, d % 4294967296⟩]
/-- A tree of depth d + 1. -/
def buildN : Nat → Int → List S34
  | 0, s => bHead s 1
  | d + 1, s => bHead s ((d : Int) + 2) ++ ((buildN d (s + 1) ++ [⟨3, s, 0, s + 1, 0⟩]) ++ (buildN d (s + 1) ++ [⟨3, s, 1, s + 1, 0⟩]))
theorem buildN_length (d : Nat) (s : Int) : (buildN d s).length + 4 ≤ 8 * 2 ^ d := by
  induction d generalizing s with
  | zero => simp [buildN, bHead]
  | succ d ih =>
    have := ih (s + 1)
    simp only [buildN, bHead, List.length_append, List.length_cons, List.length_nil, Nat.pow_succ]
    omega
/-- What the loop over the sides has done. -/
def sides (d : Nat) (s : Int) : Nat → List S34
  | 0 => []
  | k + 1 => sides d s k ++ (buildN d (s + 1) ++ [⟨3, s, k, s + 1, 0⟩])
theorem sides_length (d : Nat) (s : Int) (k : Nat) : (sides d s k).length + 3 * k ≤ k * (8 * 2 ^ d) := by
  induction k with
  | zero => simp [sides]
  | succ k ih =>
    have := buildN_length d (s + 1)
    have e : (k + 1) * (8 * 2 ^ d) = k * (8 * 2 ^ d) + 8 * 2 ^ d := Nat.succ_mul _ _
    rw [e]
    generalize 8 * 2 ^ d = X at *
    generalize k * X = Y at *
    simp only [sides, List.length_append, List.length_cons, List.length_nil]
    omega

theorem build_calls (d : Nat) : ∀ {w : World} {base b : Nat} {xs : List S34} (HS : Scr w base b xs) (hbase : base ≤ b) (slot : Int) (P : Nat) (hP : 8 * 2 ^ d = P) (hl : xs.length + P ≤ 900000) (h0 : 0 ≤ slot) (h1 : slot + d ≤ 1000),
    Calls Try.prog 27 #[.pointer (some ⟨b, 0, none⟩), .int .i64 slot, .int .i64 ((d : Int) + 1)] w fun e w' => e = .returned (.tuple #[]) ∧ Scr w' base b (xs ++ buildN d slot) ∧ Below base w w' := by
  induction d with
  | zero =>
    intro w base b xs HS hbase slot P hP hl h0 h1
    have hP8 : P = 8 := hP.symm.trans rfl
    subst hP8
    clear hP
    have c1 : decide ((1 : Int) < 2) = true := rfl
    have hlt := HS.lt
    change Calls Try.prog 27 #[.pointer (some ⟨b, 0, none⟩), .int .i64 slot, .int .i64 1] w _
    go_enter Try.func27, Try.ntmps27
    go_wp2_with fail
    refine (add3_calls (HS.alloc _) hbase (by omega) 1 slot 2 1 w.heap.size (heap_alloc_new w _)).mono ?_
    rintro _ w1 ⟨rfl, H1, K1⟩
    go_wp2_with fail
    refine (write_calls H1 hbase (by simp only [List.length_append, List.length_cons, List.length_nil]; omega) slot 1).mono ?_
    rintro _ w2 ⟨rfl, H2, K2⟩
    have H2 := Aside0.mk H2
    have KK := Aside0.mk ((((Below.refl base w).alloc (by omega) (.cells #[.int .i64 slot, .int .i64 2, .int .i64 1] 3)).trans K1).trans K2)
    go_wp2_with fail
    try simp only [Exit.inBlock, Exit.then]
    refine bodyPost_ret (results_none rfl _ _ _) rfl ?_
    exact ⟨rfl, by simpa [buildN, bHead, List.append_assoc] using H2.out, KK.out⟩
  | succ d ih =>
    intro w base b xs HS hbase slot P hP hl h0 h1
    obtain ⟨X, hX⟩ : ∃ X, 8 * 2 ^ d = X := ⟨_, rfl⟩
    have hp : P = 2 * X := by rw [← hP, ← hX, Nat.pow_succ]; omega
    have hX1 : 8 ≤ X := by rw [← hX]; have := Nat.one_le_two_pow (n := d); omega
    subst hp
    have hlt := HS.lt
    have hlen0 := sides_length d slot 0
    have hlen1 := sides_length d slot 1
    have hbl := buildN_length d (slot + 1)
    rw [hX] at hlen0 hlen1 hbl
    have IH := Aside0.mk (fun {w : World} {base b : Nat} {xs : List S34} (HS : Scr w base b xs) (hbase : base ≤ b) (slot : Int) (hl : xs.length + X ≤ 900000) (h0 : 0 ≤ slot) (h1 : slot + d ≤ 1000) => ih HS hbase slot X hX hl h0 h1)
    clear hP hX ih
    have ea : ((d + 1 : Nat) : Int) + 1 = (d : Int) + 2 := by omega
    rw [ea]
    clear ea
    have cd : decide ((d : Int) + 2 < 2) = false := decide_eq_false (by omega)
    have hlens : ∀ j : Nat, j < 2 → (sides d slot j).length + 2 ≤ X := by
      intro j hj
      obtain rfl | rfl : j = 0 ∨ j = 1 := by omega
      · omega
      · omega
    have HLs := Aside0.mk hlens
    clear hlen0 hlen1 hlens
    go_enter Try.func27, Try.ntmps27
    go_wp2_with fail
    refine (add3_calls (HS.alloc _) hbase (by omega) 1 slot 2 1 w.heap.size (heap_alloc_new w _)).mono ?_
    rintro _ w1 ⟨rfl, H1, K1⟩
    go_wp2_with fail
    refine (write_calls H1 hbase (by simp only [List.length_append, List.length_cons, List.length_nil]; omega) slot ((d : Int) + 2)).mono ?_
    rintro _ w2 ⟨rfl, H2, K2⟩
    have HA2 : Aside0 (Scr w2 base b (xs ++ bHead slot ((d : Int) + 2) ++ sides d slot 0)) := ⟨by simpa [bHead, sides, List.append_assoc] using H2⟩
    have KK : Aside0 (Below base w w2) := Aside0.mk ((((Below.refl base w).alloc (by omega) (.cells #[.int .i64 slot, .int .i64 2, .int .i64 1] 3)).trans K1).trans K2)
    clear H1 K1 H2 K2 HS
    go_wp2_with fail
    go_loopw [17] (fun s wr => ∃ j : Nat, j ≤ 2 ∧ s = .int .i64 j ∧ Aside0 (Scr wr base b (xs ++ bHead slot ((d : Int) + 2) ++ sides d slot j)) ∧ Aside0 (Below base w wr)) (fun s _ => 2 - (intOf s).toNat)
    case atStart => exact ⟨0, by omega, rfl, HA2, KK⟩
    case round =>
      obtain ⟨j, hj, rfl, HSj, HB⟩ := hrel
      by_cases c : j < 2
      · have cb : decide ((j : Int) < 2) = true := decide_eq_true (by omega)
        have hj1 := Aside0.mk (show j + 1 ≤ 2 by omega)
        have hme := Aside0.mk (show 2 - ((j : Int) + 1).toNat < 2 - (j : Int).toNat by omega)
        have hlj : (xs ++ bHead slot ((d : Int) + 2) ++ sides d slot j).length + X ≤ 900000 := by
          have := HLs.out j c
          simp only [List.length_append, bHead, List.length_cons, List.length_nil]
          omega
        have hlj2 : (xs ++ bHead slot ((d : Int) + 2) ++ sides d slot j ++ buildN d (slot + 1)).length ≤ 1000000 := by
          rw [List.length_append]
          omega
        have hs1 := Aside0.mk (show 0 ≤ slot + 1 ∧ slot + 1 + (d : Int) ≤ 1000 by omega)
        have ed : (d : Int) + 2 - 1 = (d : Int) + 1 := by omega
        have ED := Aside0.mk ed
        clear ed
        have es : wrap64 (slot + 1) = slot + 1 := by unfold wrap64; omega
        have ew : wrap64 ((j : Int) + 1) = (j : Int) + 1 := by clear es; unfold wrap64; omega
        generalize hY : xs ++ bHead slot ((d : Int) + 2) ++ sides d slot j = Y at *
        have hY := Aside0.mk hY
        go_wp2_with fail
        rw [ED.out]
        refine (IH.out HSj.out hbase (slot + 1) hlj hs1.out.1 hs1.out.2).mono ?_
        rintro _ w3 ⟨rfl, H3, K3⟩
        have H3 := Aside0.mk H3
        have K3 := Aside0.mk K3
        go_wp2_with fail
        refine (add3_calls (H3.out.alloc _) hbase hlj2 3 slot j (slot + 1) w3.heap.size (heap_alloc_new w3 _)).mono ?_
        rintro _ w4 ⟨rfl, H4, K4⟩
        have H4 := Aside0.mk H4
        have K4 := Aside0.mk K4
        have L3 := Aside0.mk H3.out.lt
        go_wp2_with fail
        have HN : Aside0 (Scr w4 base b (xs ++ bHead slot ((d : Int) + 2) ++ sides d slot (j + 1))) := ⟨by
          have e : xs ++ bHead slot ((d : Int) + 2) ++ sides d slot (j + 1) = Y ++ buildN d (slot + 1) ++ [⟨3, slot, j, slot + 1, 0⟩] := by
            rw [← hY.out, sides]
            simp only [List.append_assoc]
          rw [e]
          exact H4.out⟩
        have hb3 : base ≤ w3.heap.size := Nat.le_trans hbase (Nat.le_of_lt L3.out)
        have HBN : Aside0 (Below base w w4) := ⟨((HB.out.trans K3.out).alloc hb3 _).trans K4.out⟩
        go_roundw
        case rel => exact ⟨j + 1, hj1.out, by rw [ew]; simp, HN, HBN⟩
        case measure =>
          rw [ew]
          simp only [intOf]
          exact hme.out
      · have cb : decide ((j : Int) < 2) = false := decide_eq_false (by omega)
        obtain rfl : j = 2 := by omega
        go_wp2_with fail
        go_end0
        refine ⟨rfl, ?_, HB.out⟩
        have e : xs ++ buildN (d + 1) slot = xs ++ bHead slot ((d : Int) + 2) ++ sides d slot 2 := by
          simp only [buildN, sides, List.append_assoc, List.nil_append]
          rfl
        rw [e]
        exact HSj.out
end Go.Proofs.Ytampnfmhmonebaa.QWorkShapes
