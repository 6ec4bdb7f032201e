/- Sums and products of numbers that stay below the bound. Nothing is asked but that. -/
import Derived.Test.YtadhdjldcpkfiaaGreatDoorP
namespace Go.Proofs.YtadhdjldcpkfiaaGreatDoor
set_option linter.unusedVariables false
set_option linter.unusedSimpArgs false
open Go.RowKit
set_option maxRecDepth 100000
set_option maxHeartbeats 800000

theorem zero_c (n : Int) (w : World) (h0 : 0 ≤ n) (h1 : n ≤ 1125899906842624) :
    Calls Tryz.prog 217 #[.int .i64 n] w fun e w' => e = .returned (.bool (n == 0)) ∧ w = w' := by
  go_enter Tryz.func217, Tryz.ntmps217
  go_wp2_with fail
  refine (counts_c n _ h0 h1).mono ?_
  rintro _ _ ⟨rfl, rfl⟩
  by_cases hz : n = 0
  · subst hz
    go_wp2_with fail
    go_ret
    exact ⟨rfl, rfl⟩
  · have hb : (n == 0) = false := beq_eq_false_iff_ne.2 hz
    have HB := Hd.mk hb
    go_wp2_with fail
    go_ret
    exact ⟨by rw [HB.out]; rfl, rfl⟩
theorem take_sum (l : List Int) (j : Nat) (hj : j < l.length) : (l.take (j + 1)).sum = (l.take j).sum + l.getD j 0 := by
  rw [List.take_succ_eq_append_getElem hj, List.sum_append]
  simp [List.getD, hj]
theorem sum_nonneg (l : List Int) (h : ∀ x ∈ l, 0 ≤ x) : 0 ≤ l.sum := by
  induction l with
  | nil => simp
  | cons a l ih => have := ih (fun x hx => h x (by simp [hx])); have := h a (by simp); simp; omega
theorem sum_take_le (l : List Int) (h : ∀ x ∈ l, 0 ≤ x) (j : Nat) : 0 ≤ (l.take j).sum ∧ (l.take j).sum ≤ l.sum := by
  have h1 := sum_nonneg (l.take j) (fun x hx => h x (List.mem_of_mem_take hx))
  have h2 := sum_nonneg (l.drop j) (fun x hx => h x (List.mem_of_mem_drop hx))
  have h3 : (l.take j).sum + (l.drop j).sum = l.sum := by rw [← List.sum_append, List.take_append_drop]
  omega
theorem Add_c (l : List Int) (b c : Nat) (w : World) (hc : ∀ i, i < l.length → w.cell? ⟨b, i, none⟩ = some (.int .i64 (l.getD i 0))) (hl : ∀ x ∈ l, 0 ≤ x) (hs : l.sum ≤ 1125899906842624) (hn : l.length ≤ 100) :
    Calls Tryz.prog 148 #[.slice (some ⟨b, 0, none⟩) l.length c] w fun e w' => e = .returned (.int .i64 l.sum) ∧ w = w' := by
  have HC := Hd.mk hc
  have HL := Hd.mk hl
  have HT := Hd.mk (fun j => sum_take_le l hl j)
  clear hc hl
  obtain ⟨L, hL⟩ : ∃ L, L = l.length := ⟨_, rfl⟩
  rw [← hL] at hn ⊢
  have HLn := Hd.mk hL
  clear hL
  go_enter Tryz.func148, Tryz.ntmps148
  go_wp2_with fail
  go_loop [3, 8] (fun t i => ∃ j : Nat, j ≤ L ∧ i = .int .i64 j ∧ t = .int .i64 (l.take j).sum) (fun _ i => L - (intOf i).toNat)
  case atStart => exact ⟨0, by omega, rfl, by simp⟩
  case round =>
    obtain ⟨j, hj, rfl, rfl⟩ := hrel
    have hT := HT.out j
    have hLn := HLn.out
    by_cases hlt : j < L
    · have hg : (l.getD j 0) ∈ l := by
        have : j < l.length := by omega
        simp [List.getD, this]
      have g0 := HL.out _ hg
      have gc := HC.out j (by omega)
      have hT1 := HT.out (j + 1)
      have hS := take_sum l j (by omega)
      rw [hS] at hT1
      have HS := Hd.mk hS
      clear hS hg
      generalize hx : l.getD j 0 = x at *
      generalize hy : (l.take j).sum = y at *
      clear hx hy
      have HL' := Hd.mk hLn
      clear hLn
      go_wp2_with fail
      refine (counts_c x _ (by omega) (by omega)).mono ?_
      rintro _ _ ⟨rfl, rfl⟩
      go_wp2_with fail
      go_round
      case rel => exact ⟨j + 1, by omega, by go_num, by rw [HS.out]⟩
      case measure => simp [intOf]; omega
    · obtain rfl : j = L := by omega
      have e : l.take j = l := by rw [hLn]; exact List.take_length
      rw [e]
      go_wp2_with fail
      go_ret
      exact ⟨rfl, rfl⟩
theorem IndexFunc_c (l : List Int) (b c : Nat) (w : World) (hc : ∀ i, i < l.length → w.cell? ⟨b, i, none⟩ = some (.int .i64 (l.getD i 0))) (hl : ∀ x ∈ l, 0 ≤ x ∧ x ≤ 1125899906842624) (hn : l.length ≤ 100) :
    Calls Tryz.prog 239 #[.slice (some ⟨b, 0, none⟩) l.length c, .func (.func 217) #[] #[]] w fun e w' => (∃ r : Int, e = .returned (.int .i64 r) ∧ (0 ≤ r ∧ (0 : Int) ∈ l ∨ r = -1 ∧ ¬ (0 : Int) ∈ l)) ∧ w = w' := by
  have HC := Hd.mk hc
  have HL := Hd.mk hl
  clear hc hl
  obtain ⟨L, hL⟩ : ∃ L, L = l.length := ⟨_, rfl⟩
  rw [← hL] at hn ⊢
  have HLn := Hd.mk hL
  clear hL
  go_enter Tryz.func239, Tryz.ntmps239
  go_wp2_with fail
  go_loop [8] (fun i => ∃ j : Nat, j ≤ L ∧ i = .int .i64 j ∧ ¬ (0 : Int) ∈ l.take j) (fun i => L - (intOf i).toNat)
  case atStart => exact ⟨0, by omega, rfl, by simp⟩
  case round =>
    obtain ⟨j, hj, rfl, hz⟩ := hrel
    have hLn := HLn.out
    by_cases hlt : j < L
    · have hj' : j < l.length := by omega
      have hg : (l.getD j 0) ∈ l := by simp [List.getD, hj']
      have g0 := HL.out _ hg
      have gc := HC.out j hj'
      have hk : l.take (j + 1) = l.take j ++ [l.getD j 0] := by rw [List.take_succ_eq_append_getElem hj']; simp [List.getD, hj']
      have HK := Hd.mk hk
      have HG := Hd.mk hg
      have HZ := Hd.mk hz
      clear hk hg hz
      generalize hx : l.getD j 0 = x at *
      clear hx
      have HL' := Hd.mk hLn
      clear hLn
      obtain ⟨g0, g1⟩ := g0
      by_cases hx : x = 0
      · subst hx
        go_wp2_with fail
        refine (zero_c 0 _ (by omega) (by omega)).mono ?_
        rintro _ _ ⟨rfl, rfl⟩
        go_wp2_with fail
        go_ret
        exact ⟨⟨_, rfl, Or.inl ⟨by omega, HG.out⟩⟩, rfl⟩
      · have hb : (x == 0) = false := beq_eq_false_iff_ne.2 hx
        have Z := zero_c x w g0 g1
        rw [hb] at Z
        have hZ := Hd.mk Z
        have hX := Hd.mk hx
        clear Z hb hx
        go_wp2_with fail
        refine hZ.out.mono ?_
        rintro _ _ ⟨rfl, rfl⟩
        go_wp2_with fail
        go_round
        case rel => exact ⟨j + 1, by omega, by go_num, by rw [HK.out]; simp [HZ.out, Ne.symm hX.out]⟩
        case measure => simp [intOf]; omega
    · obtain rfl : j = L := by omega
      have e : l.take j = l := by rw [hLn]; exact List.take_length
      rw [e] at hz
      have HZ := Hd.mk hz
      clear hz e hLn
      go_wp2_with fail
      go_ret
      exact ⟨⟨_, rfl, Or.inr ⟨rfl, HZ.out⟩⟩, rfl⟩
theorem take_prod (l : List Int) (j : Nat) (hj : j < l.length) : (l.take (j + 1)).prod = (l.take j).prod * l.getD j 0 := by
  rw [List.take_succ_eq_append_getElem hj, List.prod_append]
  simp [List.getD, hj]
theorem prod_pos (l : List Int) (h : ∀ x ∈ l, 1 ≤ x) : 1 ≤ l.prod := by
  induction l with
  | nil => simp
  | cons a l ih =>
    have h1 := ih (fun x hx => h x (by simp [hx]))
    have h2 := h a (by simp)
    rw [List.prod_cons]
    have := Int.mul_le_mul h2 h1 (by omega) (by omega)
    omega
theorem prod_take_le (l : List Int) (h : ∀ x ∈ l, 1 ≤ x) (j : Nat) : 1 ≤ (l.take j).prod ∧ (l.take j).prod ≤ l.prod := by
  have h1 := prod_pos (l.take j) (fun x hx => h x (List.mem_of_mem_take hx))
  have h2 := prod_pos (l.drop j) (fun x hx => h x (List.mem_of_mem_drop hx))
  have h3 : (l.take j).prod * (l.drop j).prod = l.prod := by rw [← List.prod_append, List.take_append_drop]
  refine ⟨h1, ?_⟩
  rw [← h3]
  have := Int.mul_le_mul_of_nonneg_left h2 (show 0 ≤ (l.take j).prod by omega)
  omega
theorem prod_zero (l : List Int) (h : (0 : Int) ∈ l) : l.prod = 0 := by
  induction l with
  | nil => simp at h
  | cons a l ih =>
    rw [List.prod_cons]
    rcases List.mem_cons.1 h with h | h
    · rw [← h]; simp
    · rw [ih h]; simp
theorem ContainsFunc_c (l : List Int) (b c : Nat) (w : World) (hc : ∀ i, i < l.length → w.cell? ⟨b, i, none⟩ = some (.int .i64 (l.getD i 0))) (hl : ∀ x ∈ l, 0 ≤ x ∧ x ≤ 1125899906842624) (hn : l.length ≤ 100) :
    Calls Tryz.prog 216 #[.slice (some ⟨b, 0, none⟩) l.length c, .func (.func 217) #[] #[]] w fun e w' => (e = .returned (.bool true) ∧ (0 : Int) ∈ l ∨ e = .returned (.bool false) ∧ ¬ (0 : Int) ∈ l) ∧ w = w' := by
  have HI := Hd.mk (IndexFunc_c l b c w hc hl hn)
  clear hc hl
  go_enter Tryz.func216, Tryz.ntmps216
  go_wp2_with fail
  refine HI.out.mono ?_
  rintro _ _ ⟨⟨r, rfl, hr⟩, rfl⟩
  rcases hr with ⟨r0, hz⟩ | ⟨rfl, hz⟩
  · have HZ := Hd.mk hz
    clear hz
    go_wp2_with fail
    go_ret
    exact ⟨Or.inl ⟨rfl, HZ.out⟩, rfl⟩
  · have HZ := Hd.mk hz
    clear hz
    go_wp2_with fail
    go_ret
    exact ⟨Or.inr ⟨rfl, HZ.out⟩, rfl⟩
theorem Mul_c (l : List Int) (b c : Nat) (w : World) (hc : ∀ i, i < l.length → w.cell? ⟨b, i, none⟩ = some (.int .i64 (l.getD i 0))) (hl : ∀ x ∈ l, 0 ≤ x ∧ x ≤ 1125899906842624) (hs : l.prod ≤ 1125899906842624) (hn : l.length ≤ 100) :
    Calls Tryz.prog 149 #[.slice (some ⟨b, 0, none⟩) l.length c] w fun e w' => e = .returned (.int .i64 l.prod) ∧ w = w' := by
  have HI := Hd.mk (ContainsFunc_c l b c w hc hl hn)
  have HC := Hd.mk hc
  have HL := Hd.mk hl
  clear hc hl
  obtain ⟨L, hL⟩ : ∃ L, L = l.length := ⟨_, rfl⟩
  rw [← hL] at hn HI ⊢
  have HLn := Hd.mk hL
  clear hL
  go_enter Tryz.func149, Tryz.ntmps149
  go_wp2_with fail
  refine HI.out.mono ?_
  rintro _ _ ⟨⟨rfl, hz⟩ | ⟨rfl, hz⟩, rfl⟩
  · have HP := Hd.mk (prod_zero l hz)
    clear hz
    go_wp2_with fail
    go_ret
    exact ⟨by rw [HP.out]; rfl, rfl⟩
  · have HP : Hd (∀ x ∈ l, 1 ≤ x) := Hd.mk (fun x hx => by have := (HL.out x hx).1; by_cases h : x = 0; exact absurd (h ▸ hx) hz; omega)
    have HT := Hd.mk (fun j => prod_take_le l HP.out j)
    clear hz
    go_wp2_with fail
    go_loop [3, 11] (fun t i => ∃ j : Nat, j ≤ L ∧ i = .int .i64 j ∧ t = .int .i64 (l.take j).prod) (fun _ i => L - (intOf i).toNat)
    case atStart => exact ⟨0, by omega, rfl, by simp⟩
    case round =>
      obtain ⟨j, hj, rfl, rfl⟩ := hrel
      have hT := HT.out j
      have hLn := HLn.out
      by_cases hlt : j < L
      · have hj' : j < l.length := by omega
        have hg : (l.getD j 0) ∈ l := by simp [List.getD, hj']
        have g0 := HL.out _ hg
        have g1 := HP.out _ hg
        have gc := HC.out j hj'
        have hT1 := HT.out (j + 1)
        have hS := take_prod l j hj'
        rw [hS] at hT1
        have HS := Hd.mk hS
        clear hS hg
        generalize hx : l.getD j 0 = x at *
        generalize hy : (l.take j).prod = y at *
        clear hx hy
        have HL' := Hd.mk hLn
        clear hLn
        obtain ⟨g0, g2⟩ := g0
        obtain ⟨t0, t1⟩ := hT1
        obtain ⟨y0, y1⟩ := hT
        have hq : y ≤ 1125899906842624 / x := by
          rw [Int.le_ediv_iff_mul_le (by omega)]; omega
        generalize hz : y * x = z at *
        have HZ := Hd.mk hz
        clear hz
        go_wp2_with fail
        refine (counts_c x _ (by omega) (by omega)).mono ?_
        rintro _ _ ⟨rfl, rfl⟩
        go_wp2_with fail
        go_round
        case rel => exact ⟨j + 1, by omega, by go_num, by rw [HS.out, HZ.out]; exact congrArg (Value.int .i64) (by unfold wrap64; omega)⟩
        case measure => simp [intOf]; omega
      · obtain rfl : j = L := by omega
        have e : l.take j = l := by rw [hLn]; exact List.take_length
        rw [e]
        go_wp2_with fail
        go_ret
        exact ⟨rfl, rfl⟩
end Go.Proofs.YtadhdjldcpkfiaaGreatDoor
