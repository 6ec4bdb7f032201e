/- How many blocks an object has, and where its fields lie: the calls, at widths that may be. Nothing is asked but that the width may be. -/
import Derived.Test.YtadhdjldcpkfiaaGreatDoorC1
namespace Go.Proofs.YtadhdjldcpkfiaaGreatDoor
set_option linter.unusedVariables false
set_option linter.unusedSimpArgs false
open Go.RowKit
set_option maxRecDepth 100000
set_option maxHeartbeats 800000

theorem counts_c (n : Int) (w : World) (h0 : 0 ≤ n) (h1 : n ≤ 1125899906842624) :
    Calls Tryz.prog 215 #[.int .i64 n] w fun e w' => e = .returned (.int .i64 n) ∧ w = w' := by
  go_enter Tryz.func215, Tryz.ntmps215
  go_wp2
  go_ret
  exact ⟨by simp, rfl⟩
theorem by_c (n : Int) (w : World) (h0 : 1 ≤ n) (h1 : n ≤ 1125899906842624) :
    Calls Tryz.prog 235 #[.int .i64 n] w fun e w' => e = .returned (.int .i64 n) ∧ w = w' := by
  go_enter Tryz.func235, Tryz.ntmps235
  go_wp2_with fail
  refine (counts_c n _ (by omega) h1).mono ?_
  rintro _ _ ⟨rfl, rfl⟩
  go_wp2_with fail
  go_ret
  exact ⟨by simp, rfl⟩
theorem Up_c (a b : Int) (w : World) (a0 : 0 ≤ a) (a1 : a ≤ 1125899906842624) (h0 : 1 ≤ b) (h1 : b ≤ 1125899906842624) :
    Calls Tryz.prog 203 #[.int .i64 a, .int .i64 b] w fun e w' => e = .returned (.int .i64 ((a + b - 1) / b)) ∧ w = w' := by
  go_enter Tryz.func203, Tryz.ntmps203
  go_wp2_with fail
  refine (counts_c a _ a0 a1).mono ?_
  rintro _ _ ⟨rfl, rfl⟩
  go_wp2_with fail
  refine (by_c b _ h0 h1).mono ?_
  rintro _ _ ⟨rfl, rfl⟩
  go_wp2_with fail
  refine (by_c b _ h0 h1).mono ?_
  rintro _ _ ⟨rfl, rfl⟩
  go_wp2_with fail
  go_ret
  exact ⟨by simp, rfl⟩

/-! ### shape -/
def shMost (w : Int) : Int := (w - 8) * (w - 1)
theorem shMost_range {w : Int} (h0 : 16 ≤ w) (h1 : w ≤ 256) : 0 ≤ (w - 8) * (w - 1) ∧ (w - 8) * (w - 1) ≤ 63240 := by
  constructor
  · exact Int.mul_nonneg (by omega) (by omega)
  · exact Int.le_trans (Int.mul_le_mul (show w - 8 ≤ 248 by omega) (show w - 1 ≤ 255 by omega) (by omega) (by omega)) (by omega)
def shLeaves (w f : Int) : Int := if f ≤ w - 8 then 0 else (f + (w - 1) - 1) / (w - 1)
def shBlocks (w p d : Int) : Int × Int := if p < 0 then (0, 3) else if p > shMost w then (0, 3) else if d < 0 then (0, 3) else if d > shMost w - p then (0, 3) else (1 + shLeaves w (p + d), 0)
def shPlace (w f i : Int) : Int × Int × Int := if f < 0 then (0, 0, 3) else if f > shMost w then (0, 0, 3) else if i < 0 then (0, 0, 7) else if i ≥ f then (0, 0, 7) else if shLeaves w f = 0 then (-1, 8 + i, 0) else (i / (w - 1), 1 + i % (w - 1), 0)

theorem leaves_c (W f : Int) (w : World) (h0 : 16 ≤ W) (h1 : W ≤ 256) (f0 : 0 ≤ f) (f1 : f ≤ 63240) :
    Calls Tryz.prog 223 #[.int .i64 W, .int .i64 f] w fun e w' => e = .returned (.int .i64 (shLeaves W f)) ∧ w = w' := by
  unfold shLeaves
  by_cases c : f ≤ W - 8
  · rw [if_pos c]
    go_enter Tryz.func223, Tryz.ntmps223
    go_wp2
    go_ret
    exact ⟨rfl, rfl⟩
  · rw [if_neg c]
    go_enter Tryz.func223, Tryz.ntmps223
    go_wp2_with (first | (go_at_call 243; go_in) | (go_at_call 244; go_in) | (go_at_call 203; refine (Up_c f (W - 1) _ f0 (by omega) (by omega) (by omega)).mono ?_; rintro _ _ ⟨rfl, rfl⟩))
    go_ret
    exact ⟨rfl, rfl⟩
theorem most_c (W : Int) (w : World) (h0 : 16 ≤ W) (h1 : W ≤ 256) :
    Calls Tryz.prog 242 #[.int .i64 W] w fun e w' => e = .returned (.int .i64 (shMost W)) ∧ w = w' := by
  have hm := shMost_range h0 h1
  unfold shMost
  obtain ⟨m0, m1⟩ := hm
  go_enter Tryz.func242, Tryz.ntmps242
  go_wp2
  go_ret
  exact ⟨rfl, rfl⟩
/-- wrong, of two numbers of fields. -/
def shWrong2 (w p d : Int) : Int := if p < 0 then 3 else if p > shMost w then 3 else if d < 0 then 3 else if d > shMost w - p then 3 else 0
def shWrong1 (w p : Int) : Int := if p < 0 then 3 else if p > shMost w then 3 else 0
theorem wrong2_c (W p d : Int) (b : Nat) (w : World) (h0 : 16 ≤ W) (h1 : W ≤ 256) (c0 : w.cell? ⟨b, 0, none⟩ = some (.int .i64 p)) (c1 : w.cell? ⟨b, 1, none⟩ = some (.int .i64 d)) :
    Calls Tryz.prog 222 #[.int .i64 W, .slice (some ⟨b, 0, none⟩) 2 2] w fun e w' => e = .returned (.int .i64 (shWrong2 W p d)) ∧ w = w' := by
  have hm : 0 ≤ shMost W ∧ shMost W ≤ 63240 := shMost_range h0 h1
  have M := most_c W w h0 h1
  have HM := Hd.mk M
  clear M
  have hw : shWrong2 W p d = (if p < 0 then 3 else if p > shMost W then 3 else if d < 0 then 3 else if d > shMost W - p then 3 else 0 : Int) := rfl
  have HW := Hd.mk hw
  clear hw
  obtain ⟨m0, m1⟩ := hm
  generalize shMost W = m at *
  go_enter Tryz.func222, Tryz.ntmps222
  go_wp2_with (first | (go_at_call 241; go_in) | (go_at_call 242; refine HM.out.mono ?_; rintro _ _ ⟨rfl, rfl⟩))
  go_loop [5, 15] (fun l i => ∃ j : Nat, j ≤ 2 ∧ i = .int .i64 j ∧ (j = 0 ∧ l = .int .i64 m ∨ j = 1 ∧ l = .int .i64 (m - p) ∧ 0 ≤ p ∧ p ≤ m ∨ j = 2 ∧ 0 ≤ p ∧ p ≤ m ∧ 0 ≤ d ∧ d ≤ m - p)) (fun _ i => 2 - (intOf i).toNat)
  case atStart => exact ⟨0, by omega, rfl, Or.inl ⟨rfl, rfl⟩⟩
  case round =>
    obtain ⟨j, hj, rfl, hc⟩ := hrel
    rcases hc with ⟨rfl, rfl⟩ | ⟨rfl, rfl, p0, p1⟩ | ⟨rfl, p0, p1, d0, d1⟩
    · by_cases p0 : p < 0
      · go_wp2_with fail
        go_ret
        exact ⟨by rw [HW.out, if_pos p0]; rfl, rfl⟩
      · by_cases p1 : p > m
        · go_wp2_with fail
          go_ret
          exact ⟨by rw [HW.out, if_neg (by omega), if_pos (by omega)]; rfl, rfl⟩
        · go_wp2_with fail
          go_round
          case rel => exact ⟨1, by omega, rfl, Or.inr (Or.inl ⟨rfl, rfl, by omega, by omega⟩)⟩
          case measure => simp [intOf]
    · by_cases d0 : d < 0
      · go_wp2_with fail
        go_ret
        exact ⟨by rw [HW.out, if_neg (by omega), if_neg (by omega), if_pos (by omega)]; rfl, rfl⟩
      · by_cases d1 : d > m - p
        · go_wp2_with fail
          go_ret
          exact ⟨by rw [HW.out, if_neg (by omega), if_neg (by omega), if_neg (by omega), if_pos (by omega)]; rfl, rfl⟩
        · go_wp2_with fail
          go_round
          case rel => exact ⟨2, by omega, rfl, Or.inr (Or.inr ⟨rfl, by omega, by omega, by omega, by omega⟩)⟩
          case measure => simp [intOf]
    · go_wp2_with fail
      go_ret
      exact ⟨by rw [HW.out, if_neg (by omega), if_neg (by omega), if_neg (by omega), if_neg (by omega)]; rfl, rfl⟩
theorem wrong1_c (W p : Int) (b : Nat) (w : World) (h0 : 16 ≤ W) (h1 : W ≤ 256) (c0 : w.cell? ⟨b, 0, none⟩ = some (.int .i64 p)) :
    Calls Tryz.prog 222 #[.int .i64 W, .slice (some ⟨b, 0, none⟩) 1 1] w fun e w' => e = .returned (.int .i64 (shWrong1 W p)) ∧ w = w' := by
  have hm : 0 ≤ shMost W ∧ shMost W ≤ 63240 := shMost_range h0 h1
  have M := most_c W w h0 h1
  have HM := Hd.mk M
  clear M
  have hw : shWrong1 W p = (if p < 0 then 3 else if p > shMost W then 3 else 0 : Int) := rfl
  have HW := Hd.mk hw
  clear hw
  obtain ⟨m0, m1⟩ := hm
  generalize shMost W = m at *
  go_enter Tryz.func222, Tryz.ntmps222
  go_wp2_with (first | (go_at_call 241; go_in) | (go_at_call 242; refine HM.out.mono ?_; rintro _ _ ⟨rfl, rfl⟩))
  go_loop [5, 15] (fun l i => ∃ j : Nat, j ≤ 1 ∧ i = .int .i64 j ∧ (j = 0 ∧ l = .int .i64 m ∨ j = 1 ∧ 0 ≤ p ∧ p ≤ m)) (fun _ i => 1 - (intOf i).toNat)
  case atStart => exact ⟨0, by omega, rfl, Or.inl ⟨rfl, rfl⟩⟩
  case round =>
    obtain ⟨j, hj, rfl, hc⟩ := hrel
    rcases hc with ⟨rfl, rfl⟩ | ⟨rfl, p0, p1⟩
    · by_cases p0 : p < 0
      · go_wp2_with fail
        go_ret
        exact ⟨by rw [HW.out, if_pos p0]; rfl, rfl⟩
      · by_cases p1 : p > m
        · go_wp2_with fail
          go_ret
          exact ⟨by rw [HW.out, if_neg (by omega), if_pos (by omega)]; rfl, rfl⟩
        · go_wp2_with fail
          go_round
          case rel => exact ⟨1, by omega, rfl, Or.inr ⟨rfl, by omega, by omega⟩⟩
          case measure => simp [intOf]
    · go_wp2_with fail
      go_ret
      exact ⟨by rw [HW.out, if_neg (by omega), if_neg (by omega)]; rfl, rfl⟩

theorem shLeaves_range {W f : Int} (h0 : 16 ≤ W) (h1 : W ≤ 256) (f0 : 0 ≤ f) (f1 : f ≤ 63240) : 0 ≤ shLeaves W f ∧ shLeaves W f ≤ 63240 := by
  unfold shLeaves
  split
  · omega
  · constructor
    · exact Int.ediv_nonneg (by omega) (by omega)
    · have h : (f + (W - 1) - 1) / (W - 1) ≤ (f + (W - 1) - 1) / 15 ∨ (f + (W - 1) - 1) / (W - 1) ≤ 63240 := by
        right
        have := Int.ediv_le_self (a := f + (W - 1) - 1) (W - 1) (by omega)
        have h2 : (f + (W - 1) - 1) / (W - 1) * (W - 1) ≤ f + (W - 1) - 1 := Int.ediv_mul_le _ (by omega)
        rcases Int.lt_or_le 63240 ((f + (W - 1) - 1) / (W - 1)) with h3 | h3
        · exfalso
          have h4 : 63241 * (W - 1) ≤ (f + (W - 1) - 1) / (W - 1) * (W - 1) := Int.mul_le_mul_of_nonneg_right h3 (by omega)
          omega
        · exact h3
      rcases h with h | h <;> omega
theorem Blocks_c {W p d : Int} {n e0 : Int} (w : World) (h0 : 16 ≤ W) (h1 : W ≤ 256) (e : shBlocks W p d = (n, e0)) :
    Calls Tryz.prog 161 #[.int .i64 W, .int .i64 p, .int .i64 d] w (Made w (.tuple #[.int .i64 n, .int .i64 e0])) := by
  have hm : 0 ≤ shMost W ∧ shMost W ≤ 63240 := shMost_range h0 h1
  have c0 : (w.alloc (.cells #[.int .i64 p, .int .i64 d] 3)).cell? ⟨w.heap.size, 0, none⟩ = some (.int .i64 p) := (Blk.new w _ _).cell 0
  have c1 : (w.alloc (.cells #[.int .i64 p, .int .i64 d] 3)).cell? ⟨w.heap.size, 1, none⟩ = some (.int .i64 d) := (Blk.new w _ _).cell 1
  have M := wrong2_c W p d w.heap.size _ h0 h1 c0 c1
  have HM := Hd.mk M
  clear M c0 c1
  have hw : shWrong2 W p d = (if p < 0 then 3 else if p > shMost W then 3 else if d < 0 then 3 else if d > shMost W - p then 3 else 0 : Int) := rfl
  unfold shBlocks at e
  by_cases hg : 0 ≤ p ∧ p ≤ shMost W ∧ 0 ≤ d ∧ d ≤ shMost W - p
  · rw [if_neg (by omega), if_neg (by omega), if_neg (by omega), if_neg (by omega)] at e
    cases e
    have hz : shWrong2 W p d = 0 := by rw [hw, if_neg (by omega), if_neg (by omega), if_neg (by omega), if_neg (by omega)]
    rw [hz] at HM
    clear hw hz
    have hr := shLeaves_range (f := p + d) h0 h1 (by omega) (by omega)
    have L := Hd.mk (fun w => leaves_c W (p + d) w h0 h1 (by omega) (by omega))
    obtain ⟨p0, p1, d0, d1⟩ := hg
    obtain ⟨m0, m1⟩ := hm
    obtain ⟨r0, r1⟩ := hr
    go_enter Tryz.func161, Tryz.ntmps161
    go_wp2_with fail
    refine HM.out.mono ?_
    rintro _ _ ⟨rfl, rfl⟩
    go_wp2_with fail
    refine (L.out _).mono ?_
    rintro _ _ ⟨rfl, rfl⟩
    go_wp2_with fail
    go_ret2
    exact ⟨rfl, (Stays.refl _ _).alloc _⟩
  · have hz : shWrong2 W p d = 3 := by
      rw [hw]
      split
      · rfl
      · split
        · rfl
        · split
          · rfl
          · split
            · rfl
            · omega
    have he : (n, e0) = ((0 : Int), (3 : Int)) := by
      rw [← e]
      split
      · rfl
      · split
        · rfl
        · split
          · rfl
          · split
            · rfl
            · omega
    cases he
    rw [hz] at HM
    clear hw hz e hg hm
    go_enter Tryz.func161, Tryz.ntmps161
    go_wp2_with fail
    refine HM.out.mono ?_
    rintro _ _ ⟨rfl, rfl⟩
    go_wp2_with fail
    go_ret2
    exact ⟨rfl, (Stays.refl _ _).alloc _⟩
theorem inLeaf_c (W : Int) (w : World) (h0 : 16 ≤ W) (h1 : W ≤ 256) :
    Calls Tryz.prog 244 #[.int .i64 W] w fun e w' => e = .returned (.int .i64 (W - 1)) ∧ w' = w := by
  go_enter Tryz.func244, Tryz.ntmps244
  go_wp2
  go_ret
  exact ⟨rfl, rfl⟩
theorem Place_c {W f i : Int} {l a e0 : Int} (w : World) (h0 : 16 ≤ W) (h1 : W ≤ 256) (e : shPlace W f i = (l, a, e0)) :
    Calls Tryz.prog 226 #[.int .i64 W, .int .i64 f, .int .i64 i] w (Made w (.tuple #[.int .i64 l, .int .i64 a, .int .i64 e0])) := by
  have hm : 0 ≤ shMost W ∧ shMost W ≤ 63240 := shMost_range h0 h1
  have c0 : (w.alloc (.cells #[.int .i64 f] 3)).cell? ⟨w.heap.size, 0, none⟩ = some (.int .i64 f) := (Blk.new w _ _).cell 0
  have M := wrong1_c W f w.heap.size _ h0 h1 c0
  have HM := Hd.mk M
  clear M c0
  have hw : shWrong1 W f = (if f < 0 then 3 else if f > shMost W then 3 else 0 : Int) := rfl
  unfold shPlace at e
  by_cases hg : 0 ≤ f ∧ f ≤ shMost W
  · rw [if_neg (by omega), if_neg (by omega)] at e
    have hz : shWrong1 W f = 0 := by rw [hw, if_neg (by omega), if_neg (by omega)]
    rw [hz] at HM
    clear hw hz
    obtain ⟨f0, f1⟩ := hg
    obtain ⟨m0, m1⟩ := hm
    by_cases i0 : i < 0
    · rw [if_pos i0] at e
      cases e
      go_enter Tryz.func226, Tryz.ntmps226
      go_wp2_with fail
      refine HM.out.mono ?_
      rintro _ _ ⟨rfl, rfl⟩
      go_wp2_with fail
      go_ret3
      exact ⟨rfl, (Stays.refl _ _).alloc _⟩
    · rw [if_neg i0] at e
      by_cases i1 : i ≥ f
      · rw [if_pos i1] at e
        cases e
        go_enter Tryz.func226, Tryz.ntmps226
        go_wp2_with fail
        refine HM.out.mono ?_
        rintro _ _ ⟨rfl, rfl⟩
        go_wp2_with fail
        go_ret3
        exact ⟨rfl, (Stays.refl _ _).alloc _⟩
      · rw [if_neg i1] at e
        have L := Hd.mk (fun w => leaves_c W f w h0 h1 f0 (by omega))
        by_cases hl : shLeaves W f = 0
        · rw [if_pos hl] at e
          cases e
          rw [hl] at L
          clear hl
          go_enter Tryz.func226, Tryz.ntmps226
          go_wp2_with fail
          refine HM.out.mono ?_
          rintro _ _ ⟨rfl, rfl⟩
          go_wp2_with fail
          refine (L.out _).mono ?_
          rintro _ _ ⟨rfl, rfl⟩
          go_wp2_with fail
          go_ret3
          exact ⟨rfl, (Stays.refl _ _).alloc _⟩
        · rw [if_neg hl] at e
          cases e
          have hl' : (shLeaves W f == 0) = false := beq_eq_false_iff_ne.2 hl
          clear hl
          generalize shLeaves W f = lv at *
          have hne : ¬ W - 1 = 0 := by omega
          have hq0 : IntKind.i64.wrap (i.tdiv (W - 1)) = i / (W - 1) := IntWalk.i64_quo i (W - 1) (by omega)
          have hq1 : i.tmod (W - 1) = i % (W - 1) := IntWalk.rem_in i (W - 1) (by omega)
          have hm0 := Int.emod_nonneg i hne
          have hm1 := Int.emod_lt_of_pos i (show 0 < W - 1 by omega)
          have hq2 : IntKind.i64.wrap (i % (W - 1)) = i % (W - 1) := IntWalk.i64_in _ (by omega)
          have hq3 : IntKind.i64.wrap (1 + i % (W - 1)) = 1 + i % (W - 1) := IntWalk.i64_in _ (by omega)
          go_enter Tryz.func226, Tryz.ntmps226
          go_wp2_with fail
          refine HM.out.mono ?_
          rintro _ _ ⟨rfl, rfl⟩
          go_wp2_with fail
          refine (L.out _).mono ?_
          rintro _ _ ⟨rfl, rfl⟩
          go_wp2_with fail
          go_quiet ((go_at_call 244; exact Calls.quiet_of_same (inLeaf_c _ _ h0 h1)))
          go_wp2_with fail
          go_ret3
          exact ⟨rfl, ((Stays.refl _ _).alloc _).drewN _⟩
  · have hz : shWrong1 W f = 3 := by
      rw [hw]
      split
      · rfl
      · split
        · rfl
        · omega
    have he : (l, a, e0) = ((0 : Int), (0 : Int), (3 : Int)) := by
      rw [← e]
      split
      · rfl
      · split
        · rfl
        · omega
    cases he
    rw [hz] at HM
    clear hw hz e hg hm
    go_enter Tryz.func226, Tryz.ntmps226
    go_wp2_with fail
    refine HM.out.mono ?_
    rintro _ _ ⟨rfl, rfl⟩
    go_wp2_with fail
    go_ret3
    exact ⟨rfl, (Stays.refl _ _).alloc _⟩
end Go.Proofs.YtadhdjldcpkfiaaGreatDoor
