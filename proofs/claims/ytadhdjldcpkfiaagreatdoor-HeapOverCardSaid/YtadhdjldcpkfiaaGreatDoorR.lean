/- Sums and products of numbers that stay below the bound. Nothing is asked but that. -/
/- Whether a configuration may be. Nothing is asked. -/
/- The numbers of a configuration. -/
import Derived.Test.YtadhdjldcpkfiaaGreatDoorP
import Derived.Test.YtadhdjldcpkfiaaGreatDoorS
import Derived.Deep.DeepCutAuto
namespace Go.Proofs.YtadhdjldcpkfiaaGreatDoor
set_option linter.unusedVariables false
set_option linter.unusedSimpArgs false
open Go.RowKit
set_option maxRecDepth 100000
set_option maxHeartbeats 800000

theorem zero_c (n : Int) (w : World) (h0 : 0 ≤ n) (h1 : n ≤ 1125899906842624) :
    Calls Tryz.prog 217 #[.int .i64 n] w fun e w' => e = .returned (.bool (n == 0)) ∧ w = w' := by
  go_enter Tryz.func217, Tryz.ntmps217
  go_wp2_with fail
  refine (counts_c n _ h0 h1).mono ?_
  rintro _ _ ⟨rfl, rfl⟩
  by_cases hz : n = 0
  · subst hz
    go_wp2_with fail
    go_ret
    exact ⟨rfl, rfl⟩
  · have hb : (n == 0) = false := beq_eq_false_iff_ne.2 hz
    have HB := Hd.mk hb
    go_wp2_with fail
    go_ret
    exact ⟨by rw [HB.out]; rfl, rfl⟩
theorem take_sum (l : List Int) (j : Nat) (hj : j < l.length) : (l.take (j + 1)).sum = (l.take j).sum + l.getD j 0 := by
  rw [List.take_succ_eq_append_getElem hj, List.sum_append]
  simp [List.getD, hj]
theorem sum_nonneg (l : List Int) (h : ∀ x ∈ l, 0 ≤ x) : 0 ≤ l.sum := by
  induction l with
  | nil => simp
  | cons a l ih => have := ih (fun x hx => h x (by simp [hx])); have := h a (by simp); simp; omega
theorem sum_take_le (l : List Int) (h : ∀ x ∈ l, 0 ≤ x) (j : Nat) : 0 ≤ (l.take j).sum ∧ (l.take j).sum ≤ l.sum := by
  have h1 := sum_nonneg (l.take j) (fun x hx => h x (List.mem_of_mem_take hx))
  have h2 := sum_nonneg (l.drop j) (fun x hx => h x (List.mem_of_mem_drop hx))
  have h3 : (l.take j).sum + (l.drop j).sum = l.sum := by rw [← List.sum_append, List.take_append_drop]
  omega
theorem Add_c (l : List Int) (b c : Nat) (w : World) (hc : ∀ i, i < l.length → w.cell? ⟨b, i, none⟩ = some (.int .i64 (l.getD i 0))) (hl : ∀ x ∈ l, 0 ≤ x) (hs : l.sum ≤ 1125899906842624) (hn : l.length ≤ 100) :
    Calls Tryz.prog 148 #[.slice (some ⟨b, 0, none⟩) l.length c] w fun e w' => e = .returned (.int .i64 l.sum) ∧ w = w' := by
  have HC := Hd.mk hc
  have HL := Hd.mk hl
  have HT := Hd.mk (fun j => sum_take_le l hl j)
  clear hc hl
  obtain ⟨L, hL⟩ : ∃ L, L = l.length := ⟨_, rfl⟩
  rw [← hL] at hn ⊢
  have HLn := Hd.mk hL
  clear hL
  go_enter Tryz.func148, Tryz.ntmps148
  go_wp2_with fail
  go_loop [3, 8] (fun t i => ∃ j : Nat, j ≤ L ∧ i = .int .i64 j ∧ t = .int .i64 (l.take j).sum) (fun _ i => L - (intOf i).toNat)
  case atStart => exact ⟨0, by omega, rfl, by simp⟩
  case round =>
    obtain ⟨j, hj, rfl, rfl⟩ := hrel
    have hT := HT.out j
    have hLn := HLn.out
    by_cases hlt : j < L
    · have hg : (l.getD j 0) ∈ l := by
        have : j < l.length := by omega
        simp [List.getD, this]
      have g0 := HL.out _ hg
      have gc := HC.out j (by omega)
      have hT1 := HT.out (j + 1)
      have hS := take_sum l j (by omega)
      rw [hS] at hT1
      have HS := Hd.mk hS
      clear hS hg
      generalize hx : l.getD j 0 = x at *
      generalize hy : (l.take j).sum = y at *
      clear hx hy
      have HL' := Hd.mk hLn
      clear hLn
      go_wp2_with fail
      refine (counts_c x _ (by omega) (by omega)).mono ?_
      rintro _ _ ⟨rfl, rfl⟩
      go_wp2_with fail
      go_round
      case rel => exact ⟨j + 1, by omega, by go_num, by rw [HS.out]⟩
      case measure => simp [intOf]; omega
    · obtain rfl : j = L := by omega
      have e : l.take j = l := by rw [hLn]; exact List.take_length
      rw [e]
      go_wp2_with fail
      go_ret
      exact ⟨rfl, rfl⟩
theorem IndexFunc_c (l : List Int) (b c : Nat) (w : World) (hc : ∀ i, i < l.length → w.cell? ⟨b, i, none⟩ = some (.int .i64 (l.getD i 0))) (hl : ∀ x ∈ l, 0 ≤ x ∧ x ≤ 1125899906842624) (hn : l.length ≤ 100) :
    Calls Tryz.prog 239 #[.slice (some ⟨b, 0, none⟩) l.length c, .func (.func 217) #[] #[]] w fun e w' => (∃ r : Int, e = .returned (.int .i64 r) ∧ (0 ≤ r ∧ (0 : Int) ∈ l ∨ r = -1 ∧ ¬ (0 : Int) ∈ l)) ∧ w = w' := by
  have HC := Hd.mk hc
  have HL := Hd.mk hl
  clear hc hl
  obtain ⟨L, hL⟩ : ∃ L, L = l.length := ⟨_, rfl⟩
  rw [← hL] at hn ⊢
  have HLn := Hd.mk hL
  clear hL
  go_enter Tryz.func239, Tryz.ntmps239
  go_wp2_with fail
  go_loop [8] (fun i => ∃ j : Nat, j ≤ L ∧ i = .int .i64 j ∧ ¬ (0 : Int) ∈ l.take j) (fun i => L - (intOf i).toNat)
  case atStart => exact ⟨0, by omega, rfl, by simp⟩
  case round =>
    obtain ⟨j, hj, rfl, hz⟩ := hrel
    have hLn := HLn.out
    by_cases hlt : j < L
    · have hj' : j < l.length := by omega
      have hg : (l.getD j 0) ∈ l := by simp [List.getD, hj']
      have g0 := HL.out _ hg
      have gc := HC.out j hj'
      have hk : l.take (j + 1) = l.take j ++ [l.getD j 0] := by rw [List.take_succ_eq_append_getElem hj']; simp [List.getD, hj']
      have HK := Hd.mk hk
      have HG := Hd.mk hg
      have HZ := Hd.mk hz
      clear hk hg hz
      generalize hx : l.getD j 0 = x at *
      clear hx
      have HL' := Hd.mk hLn
      clear hLn
      obtain ⟨g0, g1⟩ := g0
      by_cases hx : x = 0
      · subst hx
        go_wp2_with fail
        refine (zero_c 0 _ (by omega) (by omega)).mono ?_
        rintro _ _ ⟨rfl, rfl⟩
        go_wp2_with fail
        go_ret
        exact ⟨⟨_, rfl, Or.inl ⟨by omega, HG.out⟩⟩, rfl⟩
      · have hb : (x == 0) = false := beq_eq_false_iff_ne.2 hx
        have Z := zero_c x w g0 g1
        rw [hb] at Z
        have hZ := Hd.mk Z
        have hX := Hd.mk hx
        clear Z hb hx
        go_wp2_with fail
        refine hZ.out.mono ?_
        rintro _ _ ⟨rfl, rfl⟩
        go_wp2_with fail
        go_round
        case rel => exact ⟨j + 1, by omega, by go_num, by rw [HK.out]; simp [HZ.out, Ne.symm hX.out]⟩
        case measure => simp [intOf]; omega
    · obtain rfl : j = L := by omega
      have e : l.take j = l := by rw [hLn]; exact List.take_length
      rw [e] at hz
      have HZ := Hd.mk hz
      clear hz e hLn
      go_wp2_with fail
      go_ret
      exact ⟨⟨_, rfl, Or.inr ⟨rfl, HZ.out⟩⟩, rfl⟩
theorem take_prod (l : List Int) (j : Nat) (hj : j < l.length) : (l.take (j + 1)).prod = (l.take j).prod * l.getD j 0 := by
  rw [List.take_succ_eq_append_getElem hj, List.prod_append]
  simp [List.getD, hj]
theorem prod_pos (l : List Int) (h : ∀ x ∈ l, 1 ≤ x) : 1 ≤ l.prod := by
  induction l with
  | nil => simp
  | cons a l ih =>
    have h1 := ih (fun x hx => h x (by simp [hx]))
    have h2 := h a (by simp)
    rw [List.prod_cons]
    have := Int.mul_le_mul h2 h1 (by omega) (by omega)
    omega
theorem prod_take_le (l : List Int) (h : ∀ x ∈ l, 1 ≤ x) (j : Nat) : 1 ≤ (l.take j).prod ∧ (l.take j).prod ≤ l.prod := by
  have h1 := prod_pos (l.take j) (fun x hx => h x (List.mem_of_mem_take hx))
  have h2 := prod_pos (l.drop j) (fun x hx => h x (List.mem_of_mem_drop hx))
  have h3 : (l.take j).prod * (l.drop j).prod = l.prod := by rw [← List.prod_append, List.take_append_drop]
  refine ⟨h1, ?_⟩
  rw [← h3]
  have := Int.mul_le_mul_of_nonneg_left h2 (show 0 ≤ (l.take j).prod by omega)
  omega
theorem prod_zero (l : List Int) (h : (0 : Int) ∈ l) : l.prod = 0 := by
  induction l with
  | nil => simp at h
  | cons a l ih =>
    rw [List.prod_cons]
    rcases List.mem_cons.1 h with h | h
    · rw [← h]; simp
    · rw [ih h]; simp
theorem ContainsFunc_c (l : List Int) (b c : Nat) (w : World) (hc : ∀ i, i < l.length → w.cell? ⟨b, i, none⟩ = some (.int .i64 (l.getD i 0))) (hl : ∀ x ∈ l, 0 ≤ x ∧ x ≤ 1125899906842624) (hn : l.length ≤ 100) :
    Calls Tryz.prog 216 #[.slice (some ⟨b, 0, none⟩) l.length c, .func (.func 217) #[] #[]] w fun e w' => (e = .returned (.bool true) ∧ (0 : Int) ∈ l ∨ e = .returned (.bool false) ∧ ¬ (0 : Int) ∈ l) ∧ w = w' := by
  have HI := Hd.mk (IndexFunc_c l b c w hc hl hn)
  clear hc hl
  go_enter Tryz.func216, Tryz.ntmps216
  go_wp2_with fail
  refine HI.out.mono ?_
  rintro _ _ ⟨⟨r, rfl, hr⟩, rfl⟩
  rcases hr with ⟨r0, hz⟩ | ⟨rfl, hz⟩
  · have HZ := Hd.mk hz
    clear hz
    go_wp2_with fail
    go_ret
    exact ⟨Or.inl ⟨rfl, HZ.out⟩, rfl⟩
  · have HZ := Hd.mk hz
    clear hz
    go_wp2_with fail
    go_ret
    exact ⟨Or.inr ⟨rfl, HZ.out⟩, rfl⟩
theorem Mul_c (l : List Int) (b c : Nat) (w : World) (hc : ∀ i, i < l.length → w.cell? ⟨b, i, none⟩ = some (.int .i64 (l.getD i 0))) (hl : ∀ x ∈ l, 0 ≤ x ∧ x ≤ 1125899906842624) (hs : l.prod ≤ 1125899906842624) (hn : l.length ≤ 100) :
    Calls Tryz.prog 149 #[.slice (some ⟨b, 0, none⟩) l.length c] w fun e w' => e = .returned (.int .i64 l.prod) ∧ w = w' := by
  have HI := Hd.mk (ContainsFunc_c l b c w hc hl hn)
  have HC := Hd.mk hc
  have HL := Hd.mk hl
  clear hc hl
  obtain ⟨L, hL⟩ : ∃ L, L = l.length := ⟨_, rfl⟩
  rw [← hL] at hn HI ⊢
  have HLn := Hd.mk hL
  clear hL
  go_enter Tryz.func149, Tryz.ntmps149
  go_wp2_with fail
  refine HI.out.mono ?_
  rintro _ _ ⟨⟨rfl, hz⟩ | ⟨rfl, hz⟩, rfl⟩
  · have HP := Hd.mk (prod_zero l hz)
    clear hz
    go_wp2_with fail
    go_ret
    exact ⟨by rw [HP.out]; rfl, rfl⟩
  · have HP : Hd (∀ x ∈ l, 1 ≤ x) := Hd.mk (fun x hx => by have := (HL.out x hx).1; by_cases h : x = 0; exact absurd (h ▸ hx) hz; omega)
    have HT := Hd.mk (fun j => prod_take_le l HP.out j)
    clear hz
    go_wp2_with fail
    go_loop [3, 11] (fun t i => ∃ j : Nat, j ≤ L ∧ i = .int .i64 j ∧ t = .int .i64 (l.take j).prod) (fun _ i => L - (intOf i).toNat)
    case atStart => exact ⟨0, by omega, rfl, by simp⟩
    case round =>
      obtain ⟨j, hj, rfl, rfl⟩ := hrel
      have hT := HT.out j
      have hLn := HLn.out
      by_cases hlt : j < L
      · have hj' : j < l.length := by omega
        have hg : (l.getD j 0) ∈ l := by simp [List.getD, hj']
        have g0 := HL.out _ hg
        have g1 := HP.out _ hg
        have gc := HC.out j hj'
        have hT1 := HT.out (j + 1)
        have hS := take_prod l j hj'
        rw [hS] at hT1
        have HS := Hd.mk hS
        clear hS hg
        generalize hx : l.getD j 0 = x at *
        generalize hy : (l.take j).prod = y at *
        clear hx hy
        have HL' := Hd.mk hLn
        clear hLn
        obtain ⟨g0, g2⟩ := g0
        obtain ⟨t0, t1⟩ := hT1
        obtain ⟨y0, y1⟩ := hT
        have hq : y ≤ 1125899906842624 / x := by
          rw [Int.le_ediv_iff_mul_le (by omega)]; omega
        generalize hz : y * x = z at *
        have HZ := Hd.mk hz
        clear hz
        go_wp2_with fail
        refine (counts_c x _ (by omega) (by omega)).mono ?_
        rintro _ _ ⟨rfl, rfl⟩
        go_wp2_with fail
        go_round
        case rel => exact ⟨j + 1, by omega, by go_num, by rw [HS.out, HZ.out]; exact congrArg (Value.int .i64) (by unfold wrap64; omega)⟩
        case measure => simp [intOf]; omega
      · obtain rfl : j = L := by omega
        have e : l.take j = l := by rw [hLn]; exact List.take_length
        rw [e]
        go_wp2_with fail
        go_ret
        exact ⟨rfl, rfl⟩
end Go.Proofs.YtadhdjldcpkfiaaGreatDoor
namespace Go.Proofs.YtadhdjldcpkfiaaGreatDoor
set_option linter.unusedVariables false
set_option linter.unusedSimpArgs false
open Go.RowKit
set_option maxRecDepth 100000
set_option maxHeartbeats 800000

theorem Clamp_c (n lo hi : Int) (w : World) :
    Calls Tryz.prog 129 #[.int .i64 n, .int .i64 lo, .int .i64 hi] w fun e w' => e = .returned (.int .i64 (if hi < n then hi else max n lo)) ∧ w = w' := by
  by_cases h : hi < n
  · have HH := Hd.mk (show (if hi < n then hi else max n lo) = hi from if_pos h)
    go_enter Tryz.func129, Tryz.ntmps129
    go_wp2
    go_ret
    exact ⟨rfl, rfl⟩
  · have e : (if hi < n then hi else max n lo) = if n < lo then lo else n := by rw [if_neg h]; split <;> omega
    rw [e]
    clear e
    by_cases h2 : n < lo
    · rw [if_pos h2]
      go_enter Tryz.func129, Tryz.ntmps129
      go_wp2
      all_goals
        go_ret
        exact ⟨rfl, rfl⟩
    · rw [if_neg h2]
      go_enter Tryz.func129, Tryz.ntmps129
      go_wp2
      all_goals
        go_ret
        first | exact ⟨rfl, rfl⟩ | (obtain rfl : lo = n := by omega; exact ⟨rfl, rfl⟩)
/-- n lies from lo to hi. -/
def inB (n lo hi : Int) : Bool := decide (lo ≤ n) && decide (n ≤ hi)
theorem plWithin_c (n lo hi : Int) (w : World) (h : lo ≤ hi) :
    Calls Tryz.prog 147 #[.int .i64 n, .int .i64 lo, .int .i64 hi] w fun e w' => e = .returned (.bool (inB n lo hi)) ∧ w = w' := by
  by_cases hb : lo ≤ n ∧ n ≤ hi
  · have e1 : (if hi < n then hi else max n lo) = n := by rw [if_neg (by omega)]; omega
    have e2 : inB n lo hi = true := by simp [inB, hb]
    have C := Clamp_c n lo hi w
    rw [e1] at C
    have HC := Hd.mk C
    have HB := Hd.mk e2
    clear C e1 e2
    go_enter Tryz.func147, Tryz.ntmps147
    go_wp2_with fail
    refine HC.out.mono ?_
    rintro _ _ ⟨rfl, rfl⟩
    go_wp2_with fail
    go_ret
    exact ⟨by rw [HB.out]; rfl, rfl⟩
  · have e1 : (if hi < n then hi else max n lo) ≠ n := by split <;> omega
    have e2 : inB n lo hi = false := by
      have : ¬ (lo ≤ n ∧ n ≤ hi) := hb
      cases h1 : inB n lo hi
      · rfl
      · simp [inB] at h1; exact absurd h1 hb
    have C := Clamp_c n lo hi w
    generalize (if hi < n then hi else max n lo) = m at *
    have hm : (m == n) = false := beq_eq_false_iff_ne.2 e1
    have HC := Hd.mk C
    have HB := Hd.mk e2
    clear C e1 e2
    go_enter Tryz.func147, Tryz.ntmps147
    go_wp2_with fail
    refine HC.out.mono ?_
    rintro _ _ ⟨rfl, rfl⟩
    go_wp2_with fail
    go_ret
    exact ⟨by rw [HB.out]; rfl, rfl⟩
/-- What Check tells. -/
def plCheck (N W R K : Int) : Int := if inB N 1 1048576 && inB W 16 256 && inB R 1 4096 && inB K 1 65536 && decide (N * W ≤ 4194304) then 0 else 1
theorem Check_c (N W R K : Int) (w : World) :
    Calls Tryz.prog 202 #[.agg #[.int .i64 N, .int .i64 W, .int .i64 R, .int .i64 K]] w (Made w (.int .i64 (plCheck N W R K))) := by
  have C1 := Hd.mk (fun w => plWithin_c N 1 1048576 w (by omega))
  have C2 := Hd.mk (fun w => plWithin_c W 16 256 w (by omega))
  have C3 := Hd.mk (fun w => plWithin_c R 1 4096 w (by omega))
  have C4 := Hd.mk (fun w => plWithin_c K 1 65536 w (by omega))
  have hp : inB N 1 1048576 = true → inB W 16 256 = true → 0 ≤ N * W ∧ N * W ≤ 268435456 := by
    intro h1 h2
    simp [inB] at h1 h2
    refine ⟨Int.mul_nonneg (by omega) (by omega), ?_⟩
    have := Int.mul_le_mul (show N ≤ 1048576 by omega) (show W ≤ 256 by omega) (by omega) (by omega)
    omega
  have e : plCheck N W R K = if inB N 1 1048576 && inB W 16 256 && inB R 1 4096 && inB K 1 65536 && decide (N * W ≤ 4194304) then 0 else 1 := rfl
  generalize inB N 1 1048576 = b1 at *
  generalize inB W 16 256 = b2 at *
  generalize inB R 1 4096 = b3 at *
  generalize inB K 1 65536 = b4 at *
  generalize hP : N * W = P at *
  have E := Hd.mk e
  clear e
  cases b1
  · rw [E.out]
    have HP := Hd.mk hP
    clear hP hp E
    go_enter Tryz.func202, Tryz.ntmps202
    go_wp2_with fail
    refine (C1.out _).mono ?_
    rintro _ _ ⟨rfl, rfl⟩
    go_wp2_with fail
    go_ret
    exact ⟨rfl, (Stays.refl _ _).alloc _⟩
  · skip
    cases b2
    · rw [E.out]
      have HP := Hd.mk hP
      clear hP hp E
      go_enter Tryz.func202, Tryz.ntmps202
      go_wp2_with fail
      refine (C1.out _).mono ?_
      rintro _ _ ⟨rfl, rfl⟩
      go_wp2_with fail
      refine (C2.out _).mono ?_
      rintro _ _ ⟨rfl, rfl⟩
      go_wp2_with fail
      go_ret
      exact ⟨rfl, (Stays.refl _ _).alloc _⟩
    · skip
      cases b3
      · rw [E.out]
        have HP := Hd.mk hP
        clear hP hp E
        go_enter Tryz.func202, Tryz.ntmps202
        go_wp2_with fail
        refine (C1.out _).mono ?_
        rintro _ _ ⟨rfl, rfl⟩
        go_wp2_with fail
        refine (C2.out _).mono ?_
        rintro _ _ ⟨rfl, rfl⟩
        go_wp2_with fail
        refine (C3.out _).mono ?_
        rintro _ _ ⟨rfl, rfl⟩
        go_wp2_with fail
        go_ret
        exact ⟨rfl, (Stays.refl _ _).alloc _⟩
      · skip
        cases b4
        · rw [E.out]
          have HP := Hd.mk hP
          clear hP hp E
          go_enter Tryz.func202, Tryz.ntmps202
          go_wp2_with fail
          refine (C1.out _).mono ?_
          rintro _ _ ⟨rfl, rfl⟩
          go_wp2_with fail
          refine (C2.out _).mono ?_
          rintro _ _ ⟨rfl, rfl⟩
          go_wp2_with fail
          refine (C3.out _).mono ?_
          rintro _ _ ⟨rfl, rfl⟩
          go_wp2_with fail
          refine (C4.out _).mono ?_
          rintro _ _ ⟨rfl, rfl⟩
          go_wp2_with fail
          go_ret
          exact ⟨rfl, (Stays.refl _ _).alloc _⟩
        · skip
          have hq := hp rfl rfl
          have hw : wrap64 (N * W) = P := by rw [hP]; unfold wrap64; omega
          by_cases hL : P ≤ 4194304
          · rw [decide_eq_true hL] at E
            rw [show plCheck N W R K = 0 from by rw [E.out]; rfl]
            have HP := Hd.mk hP
            clear hP hp E
            go_enter Tryz.func202, Tryz.ntmps202
            go_wp2_with fail
            refine (C1.out _).mono ?_
            rintro _ _ ⟨rfl, rfl⟩
            go_wp2_with fail
            refine (C2.out _).mono ?_
            rintro _ _ ⟨rfl, rfl⟩
            go_wp2_with fail
            refine (C3.out _).mono ?_
            rintro _ _ ⟨rfl, rfl⟩
            go_wp2_with fail
            refine (C4.out _).mono ?_
            rintro _ _ ⟨rfl, rfl⟩
            go_wp2_with fail
            go_ret
            exact ⟨rfl, (Stays.refl _ _).alloc _⟩
          · rw [decide_eq_false hL] at E
            rw [show plCheck N W R K = 1 from by rw [E.out]; rfl]
            have HP := Hd.mk hP
            clear hP hp E
            go_enter Tryz.func202, Tryz.ntmps202
            go_wp2_with fail
            refine (C1.out _).mono ?_
            rintro _ _ ⟨rfl, rfl⟩
            go_wp2_with fail
            refine (C2.out _).mono ?_
            rintro _ _ ⟨rfl, rfl⟩
            go_wp2_with fail
            refine (C3.out _).mono ?_
            rintro _ _ ⟨rfl, rfl⟩
            go_wp2_with fail
            refine (C4.out _).mono ?_
            rintro _ _ ⟨rfl, rfl⟩
            go_wp2_with fail
            go_ret
            exact ⟨rfl, (Stays.refl _ _).alloc _⟩
end Go.Proofs.YtadhdjldcpkfiaaGreatDoor
namespace Go.Proofs.YtadhdjldcpkfiaaGreatDoor
set_option linter.unusedVariables false
set_option linter.unusedSimpArgs false
open Go.RowKit
set_option maxRecDepth 100000
set_option maxHeartbeats 8000000

theorem Blk.new' (w : World) (t : TypeId) (cs : Array Value) (g : Nat) (h : g = w.heap.size) : Blk (w.alloc (.cells cs t)) g t cs := h ▸ Blk.new w t cs
def atv (w : World) (g i : Nat) : Value := (w.cell? ⟨g, i, none⟩).getD (.int .i64 0)
theorem atv_blk {w : World} {g i : Nat} {t : TypeId} {cs : Array Value} (h : Blk w g t cs) (hi : i < cs.size) : w.cell? ⟨g, i, none⟩ = some (atv w g i) := by
  unfold atv
  rw [h.cell i, Array.getElem?_eq_getElem hi]
  rfl
theorem Blk.set_to {w : World} {g i : Nat} {t : TypeId} {cs cs' : Array Value} {u : Value} (h : Blk w g t cs) (e : cs.setIfInBounds i u = cs') : Blk (w.setCell ⟨g, i, none⟩ u) g t cs' := e ▸ h.set_ i u
theorem plCheck_cases (N W R K : Int) : plCheck N W R K = 1 ∨ plCheck N W R K = 0 ∧ 1 ≤ N ∧ N ≤ 1048576 ∧ 16 ≤ W ∧ W ≤ 256 ∧ 1 ≤ R ∧ R ≤ 4096 ∧ 1 ≤ K ∧ K ≤ 65536 ∧ N * W ≤ 4194304 := by
  unfold plCheck
  split
  next h =>
    simp [inB] at h
    right
    refine ⟨rfl, ?_⟩
    omega
  next => left; rfl
theorem Of_bad (N W R K : Int) (w : World) (h : plCheck N W R K = 1) :
    Calls Tryz.prog 128 #[.agg #[.int .i64 N, .int .i64 W, .int .i64 R, .int .i64 K]] w (Made w (.tuple #[.agg #[.int .i64 0, .int .i64 0, .int .i64 0, .int .i64 0, .int .i64 0, .int .i64 0, .int .i64 0, .int .i64 0], .int .i64 1])) := by
  have HC := Hd.mk (fun w => h ▸ Check_c N W R K w)
  clear h
  go_enter Tryz.func128, Tryz.ntmps128
  go_wp2_with fail
  refine (HC.out _).mono ?_
  rintro _ w1 ⟨rfl, K1⟩
  have B1 : Blk w1 (w.heap.size + 1) 112 #[.int .i64 0, .int .i64 0, .int .i64 0, .int .i64 0, .int .i64 0, .int .i64 0, .int .i64 0, .int .i64 0] := Blk.stays (by simpa using Blk.new (w.alloc (.cells #[.int .i64 N, .int .i64 W, .int .i64 R, .int .i64 K] 46)) _ _) K1 (fun x => x)
  go_wp2_with (refine wpList_store_blk rfl _ _ _ rfl (w.heap.size + 1) rfl 112 _ _ rfl B1 (by kernel_rfl) rfl (by simp [Value.oneCell']) ?_; intro w2 B2 K2)
  refine bodyPost_ret (results_blk_tmp (fn := Tryz.f128) (p := 2) (u := 3) rfl _ _ _ _ _ _ rfl B2 Tryz.underlying112 rfl (by kernel_rfl)) rfl ⟨rfl, ?_⟩
  exact ((((Stays.refl _ _).alloc _).alloc _).trans K1).own K2 (by omega)
theorem UpV_c (a b u : Int) (w : World) (hu : u = (a + b - 1) / b) (a0 : 0 ≤ a) (a1 : a ≤ 1125899906842624) (h0 : 1 ≤ b) (h1 : b ≤ 1125899906842624) :
    Calls Tryz.prog 203 #[.int .i64 a, .int .i64 b] w fun e w' => e = .returned (.int .i64 u) ∧ w = w' := hu ▸ Up_c a b w a0 a1 h0 h1
theorem Mul2_c (x y : Int) (b : Nat) (w : World) (h0 : w.cell? ⟨b, 0, none⟩ = some (.int .i64 x)) (h1 : w.cell? ⟨b, 1, none⟩ = some (.int .i64 y)) (x0 : 0 ≤ x) (y0 : 0 ≤ y) (x1 : x ≤ 1125899906842624) (y1 : y ≤ 1125899906842624) (hp : x * y ≤ 1125899906842624) :
    Calls Tryz.prog 149 #[.slice (some ⟨b, 0, none⟩) 2 2] w fun e w' => e = .returned (.int .i64 (x * y)) ∧ w = w' := by
  have := Mul_c [x, y] b 2 w (by intro i hi; match i, hi with | 0, _ => exact h0 | 1, _ => exact h1) (by intro z hz; simp at hz; rcases hz with rfl | rfl <;> omega) (by simpa using hp) (by simp)
  simpa using this
theorem Add2_c (x y : Int) (b : Nat) (w : World) (h0 : w.cell? ⟨b, 0, none⟩ = some (.int .i64 x)) (h1 : w.cell? ⟨b, 1, none⟩ = some (.int .i64 y)) (x0 : 0 ≤ x) (y0 : 0 ≤ y) (hp : x + y ≤ 1125899906842624) :
    Calls Tryz.prog 148 #[.slice (some ⟨b, 0, none⟩) 2 2] w fun e w' => e = .returned (.int .i64 (x + y)) ∧ w = w' := by
  have := Add_c [x, y] b 2 w (by intro i hi; match i, hi with | 0, _ => exact h0 | 1, _ => exact h1) (by intro z hz; simp at hz; rcases hz with rfl | rfl <;> omega) (by simpa using hp) (by simp)
  simpa using this
theorem Add3_c (x y z : Int) (b : Nat) (w : World) (h0 : w.cell? ⟨b, 0, none⟩ = some (.int .i64 x)) (h1 : w.cell? ⟨b, 1, none⟩ = some (.int .i64 y)) (h2 : w.cell? ⟨b, 2, none⟩ = some (.int .i64 z)) (x0 : 0 ≤ x) (y0 : 0 ≤ y) (z0 : 0 ≤ z) (hp : x + (y + z) ≤ 1125899906842624) :
    Calls Tryz.prog 148 #[.slice (some ⟨b, 0, none⟩) 3 3] w fun e w' => e = .returned (.int .i64 (x + (y + z))) ∧ w = w' := by
  have := Add_c [x, y, z] b 3 w (by intro i hi; match i, hi with | 0, _ => exact h0 | 1, _ => exact h1 | 2, _ => exact h2) (by intro u hu; simp at hu; rcases hu with rfl | rfl | rfl <;> omega) (by simpa using hp) (by simp)
  simpa using this
theorem Mul2N_c (x y : Int) (b n : Nat) (w : World) (hn : n = 2) (h0 : w.cell? ⟨b, 0, none⟩ = some (.int .i64 x)) (h1 : w.cell? ⟨b, 1, none⟩ = some (.int .i64 y)) (x0 : 0 ≤ x) (y0 : 0 ≤ y) (x1 : x ≤ 1125899906842624) (y1 : y ≤ 1125899906842624) (hp : x * y ≤ 1125899906842624) :
    Calls Tryz.prog 149 #[.slice (some ⟨b, 0, none⟩) n n] w fun e w' => e = .returned (.int .i64 (x * y)) ∧ w = w' := by subst hn; exact Mul2_c x y b w h0 h1 x0 y0 x1 y1 hp
theorem Add2N_c (x y : Int) (b n : Nat) (w : World) (hn : n = 2) (h0 : w.cell? ⟨b, 0, none⟩ = some (.int .i64 x)) (h1 : w.cell? ⟨b, 1, none⟩ = some (.int .i64 y)) (x0 : 0 ≤ x) (y0 : 0 ≤ y) (hp : x + y ≤ 1125899906842624) :
    Calls Tryz.prog 148 #[.slice (some ⟨b, 0, none⟩) n n] w fun e w' => e = .returned (.int .i64 (x + y)) ∧ w = w' := by subst hn; exact Add2_c x y b w h0 h1 x0 y0 hp
theorem Add3N_c (x y z : Int) (b n : Nat) (w : World) (hn : n = 3) (h0 : w.cell? ⟨b, 0, none⟩ = some (.int .i64 x)) (h1 : w.cell? ⟨b, 1, none⟩ = some (.int .i64 y)) (h2 : w.cell? ⟨b, 2, none⟩ = some (.int .i64 z)) (x0 : 0 ≤ x) (y0 : 0 ≤ y) (z0 : 0 ≤ z) (hp : x + (y + z) ≤ 1125899906842624) :
    Calls Tryz.prog 148 #[.slice (some ⟨b, 0, none⟩) n n] w fun e w' => e = .returned (.int .i64 (x + (y + z))) ∧ w = w' := by subst hn; exact Add3_c x y z b w h0 h1 h2 x0 y0 z0 hp
theorem Of_ok (N W R K : Int) (w : World) (h : plCheck N W R K = 0) (n0 : 1 ≤ N) (n1 : N ≤ 1048576) (w0 : 16 ≤ W) (w1 : W ≤ 256) (r0 : 1 ≤ R) (r1 : R ≤ 4096) (k0 : 1 ≤ K) (k1 : K ≤ 65536) :
    Calls Tryz.prog 128 #[.agg #[.int .i64 N, .int .i64 W, .int .i64 R, .int .i64 K]] w (fun e w' => ∃ X : Int, X = N * (W + 1) ∧ Made w (.tuple #[.agg #[.int .i64 (24 + (R + N * W)), .int .i64 (W - 8), .int .i64 (W - 7), .int .i64 ((W - 8) * (W - 1)), .int .i64 (3 * X + 4), .int .i64 X, .int .i64 (2 * ((3 * X + 4 + K - 1) / K) + 2 * (W - 7)), .int .i64 (((((3 * X + 4) + ((3 * X + 4) + X)) + K - 1) / K) + 2)], .int .i64 0]) e w') := by
  have HC := Hd.mk (fun w => h ▸ Check_c N W R K w)
  clear h
  have E8 : Hd (IntKind.i64.wrap (W - 8) = W - 8) := ⟨IntWalk.i64_in _ (by omega)⟩
  have HP0 : Hd (0 ≤ N * W) := Hd.mk (Int.mul_nonneg (by omega) (by omega))
  have HP1 : Hd (24 + (R + N * W) ≤ 1125899906842624) := Hd.mk (by have := Int.mul_le_mul n1 w1 (by omega) (by omega); omega)
  have HP : Hd (N * W ≤ 1125899906842624) := Hd.mk (by have := Int.mul_le_mul n1 w1 (by omega) (by omega); omega)
  go_enter Tryz.func128, Tryz.ntmps128
  go_wp2_with fail
  refine (HC.out _).mono ?_
  rintro _ wa ⟨rfl, K1⟩
  have B0 : Blk wa w.heap.size 46 #[.int .i64 N, .int .i64 W, .int .i64 R, .int .i64 K] := Blk.stays ((Blk.new w 46 #[.int .i64 N, .int .i64 W, .int .i64 R, .int .i64 K]).alloc _) K1 (fun x => x)
  have c0 : wa.cell? ⟨w.heap.size, 0, none⟩ = some (.int .i64 N) := B0.cell 0
  have c1 : wa.cell? ⟨w.heap.size, 1, none⟩ = some (.int .i64 W) := B0.cell 1
  have c2 : wa.cell? ⟨w.heap.size, 2, none⟩ = some (.int .i64 R) := B0.cell 2
  have c3 : wa.cell? ⟨w.heap.size, 3, none⟩ = some (.int .i64 K) := B0.cell 3
  go_upto_region 4 with fail
  go_cut [5] (fun s5 wx => ∃ g : Nat, s5 = .pointer (some ⟨g, 0, none⟩) ∧ w.heap.size + 2 ≤ g ∧ Blk wx g 112 #[.int .i64 (24 + (R + N * W)), .int .i64 (W - 8), .int .i64 0, .int .i64 0, .int .i64 0, .int .i64 0, .int .i64 0, .int .i64 0] ∧ Stays (fun _ => False) wa wx)
  case first =>
   go_region_held3 (fun wx => wx.cell? ⟨w.heap.size, 0, none⟩ = some (.int .i64 N) ∧ wx.cell? ⟨w.heap.size, 1, none⟩ = some (.int .i64 W) ∧ wx.cell? ⟨w.heap.size, 2, none⟩ = some (.int .i64 R) ∧ wx.cell? ⟨w.heap.size, 3, none⟩ = some (.int .i64 K))
    (first | exact ⟨c0, c1, c2, c3⟩ | (refine ⟨Blk.cell (t := 46) (cs := #[.int .i64 N, .int .i64 W, .int .i64 R, .int .i64 K]) ?_ 0, Blk.cell (t := 46) (cs := #[.int .i64 N, .int .i64 W, .int .i64 R, .int .i64 K]) ?_ 1, Blk.cell (t := 46) (cs := #[.int .i64 N, .int .i64 W, .int .i64 R, .int .i64 K]) ?_ 2, Blk.cell (t := 46) (cs := #[.int .i64 N, .int .i64 W, .int .i64 R, .int .i64 K]) ?_ 3⟩ <;> (repeat (first | exact B0 | with_reducible apply zba | with_reducible apply zbd | with_reducible apply zbn)); done))
    (first | (go_at_call 149; refine (Mul2_c N W _ _ (Blk.cell (t := 3) (cs := #[.int .i64 N, .int .i64 W]) (by repeat (first | exact Blk.new' _ _ _ _ (by simp) | with_reducible apply Blk.alloc | with_reducible apply Blk.drew)) 0) (Blk.cell (t := 3) (cs := #[.int .i64 N, .int .i64 W]) (by repeat (first | exact Blk.new' _ _ _ _ (by simp) | with_reducible apply Blk.alloc | with_reducible apply Blk.drew)) 1) (by omega) (by omega) (by omega) (by omega) HP.out).mono ?_; rintro _ _ ⟨rfl, rfl⟩) | (go_at_call 148; refine (Add3_c 24 R (N * W) _ _ (Blk.cell (t := 3) (cs := #[.int .i64 24, .int .i64 R, .int .i64 (N * W)]) (by repeat (first | exact Blk.new' _ _ _ _ (by simp) | with_reducible apply Blk.alloc | with_reducible apply Blk.drew)) 0) (Blk.cell (t := 3) (cs := #[.int .i64 24, .int .i64 R, .int .i64 (N * W)]) (by repeat (first | exact Blk.new' _ _ _ _ (by simp) | with_reducible apply Blk.alloc | with_reducible apply Blk.drew)) 1) (Blk.cell (t := 3) (cs := #[.int .i64 24, .int .i64 R, .int .i64 (N * W)]) (by repeat (first | exact Blk.new' _ _ _ _ (by simp) | with_reducible apply Blk.alloc | with_reducible apply Blk.drew)) 2) (by omega) (by omega) HP0.out HP1.out).mono ?_; rintro _ _ ⟨rfl, rfl⟩))
   all_goals
    go_wp2_with fail
    go_meet
   all_goals
    rw [E8.out]
    exact ⟨_, rfl, by have := K1.size; simp at this ⊢; omega, by repeat (first | exact Blk.new' _ _ _ _ (by simp) | with_reducible apply Blk.alloc | with_reducible apply Blk.drew), by repeat (first | with_reducible exact Stays.refl _ _ | with_reducible apply Stays.drew | with_reducible apply Stays.alloc)⟩
  case rest =>
    obtain ⟨g, rfl, hg, B2, K2⟩ := hcut
    have D0 := B0.stays K2 (fun x => x)
    have K3 := K1.trans K2
    clear B0 c0 c1 c2 c3 K1 K2
    have hgw : Hd (w.heap.size ≠ g) := ⟨by omega⟩
    have hgs : Hd ((((w.alloc (.cells #[.int .i64 N, .int .i64 W, .int .i64 R, .int .i64 K] 46)).alloc (.cells #[.int .i64 0, .int .i64 0, .int .i64 0, .int .i64 0, .int .i64 0, .int .i64 0, .int .i64 0, .int .i64 0] 112))).heap.size ≤ g) := ⟨by simpa using hg⟩
    have E7 : IntKind.i64.wrap (W - 8 + 1) = W - 7 := (IntWalk.i64_in _ (by omega)).trans (by omega)
    have E1 : IntKind.i64.wrap (W - 1) = W - 1 := IntWalk.i64_in _ (by omega)
    have E2 : IntKind.i64.wrap (W + 1) = W + 1 := IntWalk.i64_in _ (by omega)
    have P1 : Hd ((W - 8) * (W - 1) ≤ 1125899906842624) := ⟨by have := Int.mul_le_mul (show W - 8 ≤ 248 by omega) (show W - 1 ≤ 255 by omega) (by omega) (by omega); omega⟩
    have P2 : Hd (0 ≤ N * (W + 1) ∧ N * (W + 1) ≤ 270000000) := ⟨by have := Int.mul_le_mul (show N ≤ 1048576 by omega) (show W + 1 ≤ 257 by omega) (by omega) (by omega); have := Int.mul_nonneg (show 0 ≤ N by omega) (show 0 ≤ W + 1 by omega); omega⟩
    have e1 : wc.cell? ⟨g, 1, none⟩ = some (.int .i64 (W - 8)) := B2.cell 1
    have e2 : wc.cell? ⟨g, 2, none⟩ = some (.int .i64 0) := B2.cell 2
    have g2 : wc.frozen? ⟨g, 2, none⟩ = false := B2.frozen 2
    go_upto_region 6 with fail
    have B3 : Blk (wc.setCell ⟨g, 2, none⟩ (.int .i64 (W - 7))) g 112 #[.int .i64 (24 + (R + N * W)), .int .i64 (W - 8), .int .i64 (W - 7), .int .i64 0, .int .i64 0, .int .i64 0, .int .i64 0, .int .i64 0] := B2.set_ 2 (.int .i64 (W - 7))
    have D1 := D0.far (p := ⟨g, 2, none⟩) hgw.out (.int .i64 (W - 7))
    have K4 := K3.setCell (p := ⟨g, 2, none⟩) (Or.inr hgs.out) (.int .i64 (W - 7))
    generalize wc.setCell ⟨g, 2, none⟩ (.int .i64 (W - 7)) = wd at B3 D1 K4 ⊢
    clear B2 D0 K3 e1 e2 g2
    have d1 : wd.cell? ⟨w.heap.size, 1, none⟩ = some (.int .i64 W) := D1.cell 1
    have e1 : wd.cell? ⟨g, 1, none⟩ = some (.int .i64 (W - 8)) := B3.cell 1
    have e3 : wd.cell? ⟨g, 3, none⟩ = some (.int .i64 0) := B3.cell 3
    have g3 : wd.frozen? ⟨g, 3, none⟩ = false := B3.frozen 3
    have e3_1 : ∀ o0 : Obj, (wd.alloc o0).cell? ⟨g, 3, none⟩ = some (.int .i64 0) := fun o0 => (B3.alloc o0).cell 3
    have g3_1 : ∀ o0 : Obj, (wd.alloc o0).frozen? ⟨g, 3, none⟩ = false := fun o0 => (B3.alloc o0).frozen 3
    go_wp2_with fail
    refine (Mul2_c (W - 8) (W - 1) _ _ (Blk.cell (t := 3) (cs := #[.int .i64 (W - 8), .int .i64 (W - 1)]) (Blk.new' _ _ _ _ (by simp)) 0) (Blk.cell (t := 3) (cs := #[.int .i64 (W - 8), .int .i64 (W - 1)]) (Blk.new' _ _ _ _ (by simp)) 1) (by omega) (by omega) (by omega) (by omega) P1.out).mono ?_
    rintro _ _ ⟨rfl, rfl⟩
    go_upto_region 7 with fail
    have B4 : Blk ((wd.alloc (.cells #[.int .i64 (W - 8), .int .i64 (W - 1)] 3)).setCell ⟨g, 3, none⟩ (.int .i64 ((W - 8) * (W - 1)))) g 112 #[.int .i64 (24 + (R + N * W)), .int .i64 (W - 8), .int .i64 (W - 7), .int .i64 ((W - 8) * (W - 1)), .int .i64 0, .int .i64 0, .int .i64 0, .int .i64 0] := (B3.alloc (.cells #[.int .i64 (W - 8), .int .i64 (W - 1)] 3)).set_ 3 (.int .i64 ((W - 8) * (W - 1)))
    have D2 := (D1.alloc (.cells #[.int .i64 (W - 8), .int .i64 (W - 1)] 3)).far (p := ⟨g, 3, none⟩) hgw.out (.int .i64 ((W - 8) * (W - 1)))
    have K5 := (K4.alloc (.cells #[.int .i64 (W - 8), .int .i64 (W - 1)] 3)).setCell (p := ⟨g, 3, none⟩) (Or.inr hgs.out) (.int .i64 ((W - 8) * (W - 1)))
    generalize (wd.alloc (.cells #[.int .i64 (W - 8), .int .i64 (W - 1)] 3)).setCell ⟨g, 3, none⟩ (.int .i64 ((W - 8) * (W - 1))) = we at B4 D2 K5 ⊢
    clear B3 D1 K4 e1 e3 g3 e3_1 g3_1 d1
    have d0 : we.cell? ⟨w.heap.size, 0, none⟩ = some (.int .i64 N) := D2.cell 0
    have d1 : we.cell? ⟨w.heap.size, 1, none⟩ = some (.int .i64 W) := D2.cell 1
    have e5 : we.cell? ⟨g, 5, none⟩ = some (.int .i64 0) := B4.cell 5
    have g5 : we.frozen? ⟨g, 5, none⟩ = false := B4.frozen 5
    have e5_1 : ∀ o0 : Obj, (we.alloc o0).cell? ⟨g, 5, none⟩ = some (.int .i64 0) := fun o0 => (B4.alloc o0).cell 5
    have g5_1 : ∀ o0 : Obj, (we.alloc o0).frozen? ⟨g, 5, none⟩ = false := fun o0 => (B4.alloc o0).frozen 5
    go_wp2_with fail
    refine (Mul2_c N (W + 1) _ _ (Blk.cell (t := 3) (cs := #[.int .i64 N, .int .i64 (W + 1)]) (Blk.new' _ _ _ _ (by simp)) 0) (Blk.cell (t := 3) (cs := #[.int .i64 N, .int .i64 (W + 1)]) (Blk.new' _ _ _ _ (by simp)) 1) (by omega) (by omega) (by omega) (by omega) (by have := P2.out; omega)).mono ?_
    rintro _ _ ⟨rfl, rfl⟩
    go_upto_region 8 with fail
    have B5 : Blk ((we.alloc (.cells #[.int .i64 N, .int .i64 (W + 1)] 3)).setCell ⟨g, 5, none⟩ (.int .i64 (N * (W + 1)))) g 112 #[.int .i64 (24 + (R + N * W)), .int .i64 (W - 8), .int .i64 (W - 7), .int .i64 ((W - 8) * (W - 1)), .int .i64 0, .int .i64 (N * (W + 1)), .int .i64 0, .int .i64 0] := (B4.alloc (.cells #[.int .i64 N, .int .i64 (W + 1)] 3)).set_ 5 (.int .i64 (N * (W + 1)))
    have D3 := (D2.alloc (.cells #[.int .i64 N, .int .i64 (W + 1)] 3)).far (p := ⟨g, 5, none⟩) hgw.out (.int .i64 (N * (W + 1)))
    have K6 := (K5.alloc (.cells #[.int .i64 N, .int .i64 (W + 1)] 3)).setCell (p := ⟨g, 5, none⟩) (Or.inr hgs.out) (.int .i64 (N * (W + 1)))
    generalize (we.alloc (.cells #[.int .i64 N, .int .i64 (W + 1)] 3)).setCell ⟨g, 5, none⟩ (.int .i64 (N * (W + 1))) = wf at B5 D3 K6 ⊢
    clear B4 D2 K5 e5 g5 e5_1 g5_1 d0 d1
    have P3 := P2.out
    obtain ⟨X, hX⟩ : ∃ X, X = N * (W + 1) := ⟨_, rfl⟩
    rw [← hX] at P3 B5 ⊢
    have HX := Hd.mk hX
    clear hX P2
    obtain ⟨p0, p1⟩ := P3
    have e5 : wf.cell? ⟨g, 5, none⟩ = some (.int .i64 X) := B5.cell 5
    have e4 : wf.cell? ⟨g, 4, none⟩ = some (.int .i64 0) := B5.cell 4
    have g4 : wf.frozen? ⟨g, 4, none⟩ = false := B5.frozen 4
    have e4_1 : ∀ o0 : Obj, (wf.alloc o0).cell? ⟨g, 4, none⟩ = some (.int .i64 0) := fun o0 => (B5.alloc o0).cell 4
    have g4_1 : ∀ o0 : Obj, (wf.alloc o0).frozen? ⟨g, 4, none⟩ = false := fun o0 => (B5.alloc o0).frozen 4
    have e4_2 : ∀ o0 o1 : Obj, ((wf.alloc o0).alloc o1).cell? ⟨g, 4, none⟩ = some (.int .i64 0) := fun o0 o1 => ((B5.alloc o0).alloc o1).cell 4
    have g4_2 : ∀ o0 o1 : Obj, ((wf.alloc o0).alloc o1).frozen? ⟨g, 4, none⟩ = false := fun o0 o1 => ((B5.alloc o0).alloc o1).frozen 4
    go_wp2_with fail
    refine (Mul2_c 3 X _ _ (Blk.cell (t := 3) (cs := #[.int .i64 3, .int .i64 X]) (Blk.new' _ _ _ _ (by simp)) 0) (Blk.cell (t := 3) (cs := #[.int .i64 3, .int .i64 X]) (Blk.new' _ _ _ _ (by simp)) 1) (by omega) (by omega) (by omega) (by omega) (by omega)).mono ?_
    rintro _ _ ⟨rfl, rfl⟩
    go_wp2_with fail
    refine (Add2_c (3 * X) 4 _ _ (Blk.cell (t := 3) (cs := #[.int .i64 (3 * X), .int .i64 4]) (Blk.new' _ _ _ _ (by simp)) 0) (Blk.cell (t := 3) (cs := #[.int .i64 (3 * X), .int .i64 4]) (Blk.new' _ _ _ _ (by simp)) 1) (by omega) (by omega) (by omega)).mono ?_
    rintro _ _ ⟨rfl, rfl⟩
    go_upto_region 9 with fail
    have B6 : Blk (((wf.alloc (.cells #[.int .i64 3, .int .i64 X] 3)).alloc (.cells #[.int .i64 (3 * X), .int .i64 4] 3)).setCell ⟨g, 4, none⟩ (.int .i64 (3 * X + 4))) g 112 #[.int .i64 (24 + (R + N * W)), .int .i64 (W - 8), .int .i64 (W - 7), .int .i64 ((W - 8) * (W - 1)), .int .i64 (3 * X + 4), .int .i64 X, .int .i64 0, .int .i64 0] := ((B5.alloc (.cells #[.int .i64 3, .int .i64 X] 3)).alloc (.cells #[.int .i64 (3 * X), .int .i64 4] 3)).set_ 4 (.int .i64 (3 * X + 4))
    have D4 := ((D3.alloc (.cells #[.int .i64 3, .int .i64 X] 3)).alloc (.cells #[.int .i64 (3 * X), .int .i64 4] 3)).far (p := ⟨g, 4, none⟩) hgw.out (.int .i64 (3 * X + 4))
    have K7 := ((K6.alloc (.cells #[.int .i64 3, .int .i64 X] 3)).alloc (.cells #[.int .i64 (3 * X), .int .i64 4] 3)).setCell (p := ⟨g, 4, none⟩) (Or.inr hgs.out) (.int .i64 (3 * X + 4))
    generalize ((wf.alloc (.cells #[.int .i64 3, .int .i64 X] 3)).alloc (.cells #[.int .i64 (3 * X), .int .i64 4] 3)).setCell ⟨g, 4, none⟩ (.int .i64 (3 * X + 4)) = wg at B6 D4 K7 ⊢
    clear B5 D3 K6 e5 e4 g4 e4_1 g4_1 e4_2 g4_2
    obtain ⟨Y, hY⟩ : ∃ Y, Y = 3 * X + 4 := ⟨_, rfl⟩
    rw [← hY] at B6 ⊢
    have y0 : 4 ≤ Y := by omega
    have y1 : Y ≤ 810000004 := by omega
    have HY := Hd.mk hY
    clear hY
    obtain ⟨U, hU⟩ : ∃ U, U = (Y + K - 1) / K := ⟨_, rfl⟩
    have u0 : 0 ≤ U := hU ▸ Int.ediv_nonneg (by omega) (by omega)
    have u1 : U ≤ Y + K - 1 := hU ▸ Int.ediv_le_self _ (by omega)
    have HU := Hd.mk hU
    clear hU
    obtain ⟨V, hV⟩ : ∃ V, V = (Y + (Y + X) + K - 1) / K := ⟨_, rfl⟩
    have v0 : 0 ≤ V := hV ▸ Int.ediv_nonneg (by omega) (by omega)
    have v1 : V ≤ Y + (Y + X) + K - 1 := hV ▸ Int.ediv_le_self _ (by omega)
    have HV := Hd.mk hV
    clear hV
    have a3 : wg.cell? ⟨w.heap.size, 3, none⟩ = some (.int .i64 K) := D4.cell 3
    have b4 : wg.cell? ⟨g, 4, none⟩ = some (.int .i64 Y) := B6.cell 4
    have b2 : wg.cell? ⟨g, 2, none⟩ = some (.int .i64 (W - 7)) := B6.cell 2
    have b6 : wg.cell? ⟨g, 6, none⟩ = some (atv wg g 6) := atv_blk B6 (by simp)
    have f6 : wg.frozen? ⟨g, 6, none⟩ = false := B6.frozen 6
    go_cut [] (fun wx => Blk wx g 112 #[.int .i64 (24 + (R + N * W)), .int .i64 (W - 8), .int .i64 (W - 7), .int .i64 ((W - 8) * (W - 1)), .int .i64 Y, .int .i64 X, .int .i64 (2 * U + 2 * (W - 7)), .int .i64 0] ∧ Blk wx w.heap.size 46 #[.int .i64 N, .int .i64 W, .int .i64 R, .int .i64 K] ∧ Stays (fun _ => False) ((w.alloc (.cells #[.int .i64 N, .int .i64 W, .int .i64 R, .int .i64 K] 46)).alloc (.cells #[.int .i64 0, .int .i64 0, .int .i64 0, .int .i64 0, .int .i64 0, .int .i64 0, .int .i64 0, .int .i64 0] 112)) wx)
    case first =>
     first
     | go_region_held3 (fun wx => wx.cell? ⟨w.heap.size, 3, none⟩ = some (.int .i64 K) ∧ wx.cell? ⟨g, 4, none⟩ = some (.int .i64 Y) ∧ wx.cell? ⟨g, 2, none⟩ = some (.int .i64 (W - 7)) ∧ wx.cell? ⟨g, 6, none⟩ = some (atv wx g 6) ∧ wx.frozen? ⟨g, 6, none⟩ = false)
      (first | with_reducible assumption | (refine ⟨Blk.cell (t := 46) (cs := #[.int .i64 N, .int .i64 W, .int .i64 R, .int .i64 K]) ?_ 3, Blk.cell (t := 112) (cs := #[.int .i64 (24 + (R + N * W)), .int .i64 (W - 8), .int .i64 (W - 7), .int .i64 ((W - 8) * (W - 1)), .int .i64 Y, .int .i64 X, .int .i64 0, .int .i64 0]) ?_ 4, Blk.cell (t := 112) (cs := #[.int .i64 (24 + (R + N * W)), .int .i64 (W - 8), .int .i64 (W - 7), .int .i64 ((W - 8) * (W - 1)), .int .i64 Y, .int .i64 X, .int .i64 0, .int .i64 0]) ?_ 2, atv_blk (t := 112) (cs := #[.int .i64 (24 + (R + N * W)), .int .i64 (W - 8), .int .i64 (W - 7), .int .i64 ((W - 8) * (W - 1)), .int .i64 Y, .int .i64 X, .int .i64 0, .int .i64 0]) ?_ (by simp), Blk.frozen (t := 112) (cs := #[.int .i64 (24 + (R + N * W)), .int .i64 (W - 8), .int .i64 (W - 7), .int .i64 ((W - 8) * (W - 1)), .int .i64 Y, .int .i64 X, .int .i64 0, .int .i64 0]) ?_ 6⟩ <;> (with_reducible repeat (first | exact D4 | exact B6 | apply zba | apply zbd | apply zbn)); done) | (refine ⟨Blk.cell (t := 46) (cs := #[.int .i64 N, .int .i64 W, .int .i64 R, .int .i64 K]) ?_ 3, Blk.cell (t := 112) (cs := #[.int .i64 (24 + (R + N * W)), .int .i64 (W - 8), .int .i64 (W - 7), .int .i64 ((W - 8) * (W - 1)), .int .i64 Y, .int .i64 X, .int .i64 (2 * U + 2 * (W - 7)), .int .i64 0]) ?_ 4, Blk.cell (t := 112) (cs := #[.int .i64 (24 + (R + N * W)), .int .i64 (W - 8), .int .i64 (W - 7), .int .i64 ((W - 8) * (W - 1)), .int .i64 Y, .int .i64 X, .int .i64 (2 * U + 2 * (W - 7)), .int .i64 0]) ?_ 2, atv_blk (t := 112) (cs := #[.int .i64 (24 + (R + N * W)), .int .i64 (W - 8), .int .i64 (W - 7), .int .i64 ((W - 8) * (W - 1)), .int .i64 Y, .int .i64 X, .int .i64 (2 * U + 2 * (W - 7)), .int .i64 0]) ?_ (by simp), Blk.frozen (t := 112) (cs := #[.int .i64 (24 + (R + N * W)), .int .i64 (W - 8), .int .i64 (W - 7), .int .i64 ((W - 8) * (W - 1)), .int .i64 Y, .int .i64 X, .int .i64 (2 * U + 2 * (W - 7)), .int .i64 0]) ?_ 6⟩ <;> (repeat (first | with_reducible exact D4 | with_reducible exact B6 | with_reducible apply Blk.alloc | with_reducible apply Blk.drew | with_reducible apply Blk.drewN | refine Blk.far ?_ hgw.out _ | refine Blk.set_to (cs := #[.int .i64 (24 + (R + N * W)), .int .i64 (W - 8), .int .i64 (W - 7), .int .i64 ((W - 8) * (W - 1)), .int .i64 Y, .int .i64 X, .int .i64 0, .int .i64 0]) ?_ rfl)); done) | fail)
      (first | (go_at_call 203; refine (UpV_c Y K U _ HU.out (by omega) (by omega) (by omega) (by omega)).mono ?_; rintro _ _ ⟨rfl, rfl⟩) | (go_at_call 149; refine (Mul2N_c 2 U _ _ _ ?_ ?_ ?_ (by omega) (by omega) (by omega) (by omega) (by omega)).mono ?_; (focus rfl); (focus (refine Blk.cell (t := 3) (cs := #[.int .i64 2, .int .i64 U]) ?_ 0; (repeat (first | (with_reducible refine Blk.new' _ _ _ _ ?_; simp; done) | with_reducible apply Blk.alloc | with_reducible apply Blk.drew)); done)); (focus (refine Blk.cell (t := 3) (cs := #[.int .i64 2, .int .i64 U]) ?_ 1; (repeat (first | (with_reducible refine Blk.new' _ _ _ _ ?_; simp; done) | with_reducible apply Blk.alloc | with_reducible apply Blk.drew)); done)); (rintro _ _ ⟨rfl, rfl⟩)) | (go_at_call 149; refine (Mul2N_c 2 (W - 7) _ _ _ ?_ ?_ ?_ (by omega) (by omega) (by omega) (by omega) (by omega)).mono ?_; (focus rfl); (focus (refine Blk.cell (t := 3) (cs := #[.int .i64 2, .int .i64 (W - 7)]) ?_ 0; (repeat (first | (with_reducible refine Blk.new' _ _ _ _ ?_; simp; done) | with_reducible apply Blk.alloc | with_reducible apply Blk.drew)); done)); (focus (refine Blk.cell (t := 3) (cs := #[.int .i64 2, .int .i64 (W - 7)]) ?_ 1; (repeat (first | (with_reducible refine Blk.new' _ _ _ _ ?_; simp; done) | with_reducible apply Blk.alloc | with_reducible apply Blk.drew)); done)); (rintro _ _ ⟨rfl, rfl⟩)) | (go_at_call 148; refine (Add2N_c (2 * U) (2 * (W - 7)) _ _ _ ?_ ?_ ?_ (by omega) (by omega) (by omega)).mono ?_; (focus rfl); (focus (refine Blk.cell (t := 3) (cs := #[.int .i64 (2 * U), .int .i64 (2 * (W - 7))]) ?_ 0; (repeat (first | (with_reducible refine Blk.new' _ _ _ _ ?_; simp; done) | with_reducible apply Blk.alloc | with_reducible apply Blk.drew)); done)); (focus (refine Blk.cell (t := 3) (cs := #[.int .i64 (2 * U), .int .i64 (2 * (W - 7))]) ?_ 1; (repeat (first | (with_reducible refine Blk.new' _ _ _ _ ?_; simp; done) | with_reducible apply Blk.alloc | with_reducible apply Blk.drew)); done)); (rintro _ _ ⟨rfl, rfl⟩)) | fail)
     | fail
     all_goals
      go_wp2_with fail
      go_meet
      refine ⟨?_, ?_, ?_⟩
      · repeat (first | with_reducible exact B6 | with_reducible apply Blk.alloc | with_reducible apply Blk.drew | with_reducible apply Blk.drewN | refine Blk.set_to (cs := #[.int .i64 (24 + (R + N * W)), .int .i64 (W - 8), .int .i64 (W - 7), .int .i64 ((W - 8) * (W - 1)), .int .i64 Y, .int .i64 X, .int .i64 0, .int .i64 0]) ?_ rfl)
      · repeat (first | with_reducible exact D4 | with_reducible apply Blk.alloc | with_reducible apply Blk.drew | with_reducible apply Blk.drewN | refine Blk.far ?_ hgw.out _)
      · repeat (first | with_reducible exact K7 | with_reducible apply Stays.alloc | with_reducible apply Stays.drew | with_reducible apply Stays.drewN | refine Stays.setCell ?_ (Or.inr hgs.out) _)
    case rest =>
     obtain ⟨B7, D5, K8⟩ := hcut
     clear B6 D4 K7 a3 b4 b2 b6 f6
     go_upto_region 10 with fail
     have a3 : wc.cell? ⟨w.heap.size, 3, none⟩ = some (.int .i64 K) := D5.cell 3
     have b4 : wc.cell? ⟨g, 4, none⟩ = some (.int .i64 Y) := B7.cell 4
     have b5 : wc.cell? ⟨g, 5, none⟩ = some (.int .i64 X) := B7.cell 5
     have b7 : wc.cell? ⟨g, 7, none⟩ = some (atv wc g 7) := atv_blk B7 (by simp)
     have f7 : wc.frozen? ⟨g, 7, none⟩ = false := B7.frozen 7
     go_cut [] (fun wx => Blk wx g 112 #[.int .i64 (24 + (R + N * W)), .int .i64 (W - 8), .int .i64 (W - 7), .int .i64 ((W - 8) * (W - 1)), .int .i64 Y, .int .i64 X, .int .i64 (2 * U + 2 * (W - 7)), .int .i64 (V + 2)] ∧ Blk wx w.heap.size 46 #[.int .i64 N, .int .i64 W, .int .i64 R, .int .i64 K] ∧ Stays (fun _ => False) ((w.alloc (.cells #[.int .i64 N, .int .i64 W, .int .i64 R, .int .i64 K] 46)).alloc (.cells #[.int .i64 0, .int .i64 0, .int .i64 0, .int .i64 0, .int .i64 0, .int .i64 0, .int .i64 0, .int .i64 0] 112)) wx)
     case first =>
      first
      | go_region_held3 (fun wx => wx.cell? ⟨w.heap.size, 3, none⟩ = some (.int .i64 K) ∧ wx.cell? ⟨g, 4, none⟩ = some (.int .i64 Y) ∧ wx.cell? ⟨g, 5, none⟩ = some (.int .i64 X) ∧ wx.cell? ⟨g, 7, none⟩ = some (atv wx g 7) ∧ wx.frozen? ⟨g, 7, none⟩ = false)
       (first | with_reducible assumption | (refine ⟨Blk.cell (t := 46) (cs := #[.int .i64 N, .int .i64 W, .int .i64 R, .int .i64 K]) ?_ 3, Blk.cell (t := 112) (cs := #[.int .i64 (24 + (R + N * W)), .int .i64 (W - 8), .int .i64 (W - 7), .int .i64 ((W - 8) * (W - 1)), .int .i64 Y, .int .i64 X, .int .i64 (2 * U + 2 * (W - 7)), .int .i64 0]) ?_ 4, Blk.cell (t := 112) (cs := #[.int .i64 (24 + (R + N * W)), .int .i64 (W - 8), .int .i64 (W - 7), .int .i64 ((W - 8) * (W - 1)), .int .i64 Y, .int .i64 X, .int .i64 (2 * U + 2 * (W - 7)), .int .i64 0]) ?_ 5, atv_blk (t := 112) (cs := #[.int .i64 (24 + (R + N * W)), .int .i64 (W - 8), .int .i64 (W - 7), .int .i64 ((W - 8) * (W - 1)), .int .i64 Y, .int .i64 X, .int .i64 (2 * U + 2 * (W - 7)), .int .i64 0]) ?_ (by simp), Blk.frozen (t := 112) (cs := #[.int .i64 (24 + (R + N * W)), .int .i64 (W - 8), .int .i64 (W - 7), .int .i64 ((W - 8) * (W - 1)), .int .i64 Y, .int .i64 X, .int .i64 (2 * U + 2 * (W - 7)), .int .i64 0]) ?_ 7⟩ <;> (with_reducible repeat (first | exact D5 | exact B7 | apply zba | apply zbd | apply zbn)); done) | (refine ⟨Blk.cell (t := 46) (cs := #[.int .i64 N, .int .i64 W, .int .i64 R, .int .i64 K]) ?_ 3, Blk.cell (t := 112) (cs := #[.int .i64 (24 + (R + N * W)), .int .i64 (W - 8), .int .i64 (W - 7), .int .i64 ((W - 8) * (W - 1)), .int .i64 Y, .int .i64 X, .int .i64 (2 * U + 2 * (W - 7)), .int .i64 (V + 2)]) ?_ 4, Blk.cell (t := 112) (cs := #[.int .i64 (24 + (R + N * W)), .int .i64 (W - 8), .int .i64 (W - 7), .int .i64 ((W - 8) * (W - 1)), .int .i64 Y, .int .i64 X, .int .i64 (2 * U + 2 * (W - 7)), .int .i64 (V + 2)]) ?_ 5, atv_blk (t := 112) (cs := #[.int .i64 (24 + (R + N * W)), .int .i64 (W - 8), .int .i64 (W - 7), .int .i64 ((W - 8) * (W - 1)), .int .i64 Y, .int .i64 X, .int .i64 (2 * U + 2 * (W - 7)), .int .i64 (V + 2)]) ?_ (by simp), Blk.frozen (t := 112) (cs := #[.int .i64 (24 + (R + N * W)), .int .i64 (W - 8), .int .i64 (W - 7), .int .i64 ((W - 8) * (W - 1)), .int .i64 Y, .int .i64 X, .int .i64 (2 * U + 2 * (W - 7)), .int .i64 (V + 2)]) ?_ 7⟩ <;> (repeat (first | with_reducible exact D5 | with_reducible exact B7 | with_reducible apply Blk.alloc | with_reducible apply Blk.drew | with_reducible apply Blk.drewN | refine Blk.far ?_ hgw.out _ | refine Blk.set_to (cs := #[.int .i64 (24 + (R + N * W)), .int .i64 (W - 8), .int .i64 (W - 7), .int .i64 ((W - 8) * (W - 1)), .int .i64 Y, .int .i64 X, .int .i64 (2 * U + 2 * (W - 7)), .int .i64 0]) ?_ rfl)); done) | fail)
       (first | (go_at_call 148; refine (Add3N_c Y Y X _ _ _ ?_ ?_ ?_ ?_ (by omega) (by omega) (by omega) (by omega)).mono ?_; (focus rfl); (focus (refine Blk.cell (t := 3) (cs := #[.int .i64 Y, .int .i64 Y, .int .i64 X]) ?_ 0; (repeat (first | (with_reducible refine Blk.new' _ _ _ _ ?_; simp; done) | with_reducible apply Blk.alloc | with_reducible apply Blk.drew)); done)); (focus (refine Blk.cell (t := 3) (cs := #[.int .i64 Y, .int .i64 Y, .int .i64 X]) ?_ 1; (repeat (first | (with_reducible refine Blk.new' _ _ _ _ ?_; simp; done) | with_reducible apply Blk.alloc | with_reducible apply Blk.drew)); done)); (focus (refine Blk.cell (t := 3) (cs := #[.int .i64 Y, .int .i64 Y, .int .i64 X]) ?_ 2; (repeat (first | (with_reducible refine Blk.new' _ _ _ _ ?_; simp; done) | with_reducible apply Blk.alloc | with_reducible apply Blk.drew)); done)); (rintro _ _ ⟨rfl, rfl⟩)) | (go_at_call 203; refine (UpV_c (Y + (Y + X)) K V _ HV.out (by omega) (by omega) (by omega) (by omega)).mono ?_; rintro _ _ ⟨rfl, rfl⟩) | (go_at_call 148; refine (Add2N_c V 2 _ _ _ ?_ ?_ ?_ (by omega) (by omega) (by omega)).mono ?_; (focus rfl); (focus (refine Blk.cell (t := 3) (cs := #[.int .i64 V, .int .i64 2]) ?_ 0; (repeat (first | (with_reducible refine Blk.new' _ _ _ _ ?_; simp; done) | with_reducible apply Blk.alloc | with_reducible apply Blk.drew)); done)); (focus (refine Blk.cell (t := 3) (cs := #[.int .i64 V, .int .i64 2]) ?_ 1; (repeat (first | (with_reducible refine Blk.new' _ _ _ _ ?_; simp; done) | with_reducible apply Blk.alloc | with_reducible apply Blk.drew)); done)); (rintro _ _ ⟨rfl, rfl⟩)) | fail)
      | fail
      all_goals
       go_wp2_with fail
       go_meet
       refine ⟨?_, ?_, ?_⟩
       · repeat (first | with_reducible exact B7 | with_reducible apply Blk.alloc | with_reducible apply Blk.drew | with_reducible apply Blk.drewN | refine Blk.set_to (cs := #[.int .i64 (24 + (R + N * W)), .int .i64 (W - 8), .int .i64 (W - 7), .int .i64 ((W - 8) * (W - 1)), .int .i64 Y, .int .i64 X, .int .i64 (2 * U + 2 * (W - 7)), .int .i64 0]) ?_ rfl)
       · repeat (first | with_reducible exact D5 | with_reducible apply Blk.alloc | with_reducible apply Blk.drew | with_reducible apply Blk.drewN | refine Blk.far ?_ hgw.out _)
       · repeat (first | with_reducible exact K8 | with_reducible apply Stays.alloc | with_reducible apply Stays.drew | with_reducible apply Stays.drewN | refine Stays.setCell ?_ (Or.inr hgs.out) _)
     case rest =>
      obtain ⟨B8, D6, K9⟩ := hcut
      have B9 : Blk wc (w.heap.size + 1) 112 #[.int .i64 0, .int .i64 0, .int .i64 0, .int .i64 0, .int .i64 0, .int .i64 0, .int .i64 0, .int .i64 0] := Blk.stays (by simpa using Blk.new (w.alloc (.cells #[.int .i64 N, .int .i64 W, .int .i64 R, .int .i64 K] 46)) _ _) K9 (fun x => x)
      clear B7 D5 K8 a3 b4 b5 b7 f7
      have n0 := B8.cell 0
      have n1 := B8.cell 1
      have n2 := B8.cell 2
      have n3 := B8.cell 3
      have n4 := B8.cell 4
      have n5 := B8.cell 5
      have n6 := B8.cell 6
      have n7 := B8.cell 7
      go_wp2_with (refine wpList_store_blk rfl _ _ _ rfl (w.heap.size + 1) rfl 112 _ _ rfl B9 (by kernel_rfl) rfl (by simp [Value.oneCell']) ?_; intro w2 B10 K10)
      refine bodyPost_ret (results_blk_tmp (fn := Tryz.f128) (p := 2) (u := 3) rfl _ _ _ _ _ _ rfl B10 Tryz.underlying112 rfl (by kernel_rfl)) rfl ⟨X, HX.out, ?_⟩
      rw [← HY.out, ← HU.out, ← HV.out]
      exact ⟨rfl, (((Stays.refl _ _).alloc _).alloc _ |>.trans K9).own K10 (by omega)⟩
end Go.Proofs.YtadhdjldcpkfiaaGreatDoor
