/- The operations of lists, rings, trees, arrays and of clearing are the document's: the pure statement of WorkShapes. -/
import Derived.Test.YtampnfmhmonebaaQWorkShapesx4
namespace Go.Proofs.Ytampnfmhmonebaa.Pure
open Go.RowKit Go.Proofs.Ytampnfmhmonebaa.QWorkShapes Go.Proofs.YtampnfmhmonebaaW.PrintWords Go.Proofs.YtampnfmhmonebaaW.PrintLast
set_option maxRecDepth 100000
set_option linter.unusedSimpArgs false

theorem ops_self (xs : List S34) (h : xs.length < 4611686018427387904) : ∀ (k i : Nat), i ≤ xs.length → xs.length - i < k → quitrentref28_Ops.l0 k xs xs i = some true := by
  intro k
  induction k with
  | zero => intro i _ hk; omega
  | succ k ih =>
    intro i hi hk
    unfold quitrentref28_Ops.l0
    by_cases c : i < xs.length
    · have ew : wrap64 ((i : Int) + 1) = ((i + 1 : Nat) : Int) := by unfold wrap64; omega
      rw [if_pos (show (i : Int) < (xs.length : Int) by omega), if_pos (show (0 : Int) ≤ (i : Int) by omega), if_pos (show (i : Int) < (xs.length : Int) by omega), if_neg (by simp), ew]
      exact ih (i + 1) (by omega) (by omega)
    · rw [if_neg (show ¬ (i : Int) < (xs.length : Int) by omega)]
theorem ops_alike (xs : List S34) (k : Nat) (hk : xs.length < k) (h : xs.length < 4611686018427387904) : quitrentref28_Ops.f k xs xs = some true := by
  unfold quitrentref28_Ops.f
  rw [if_pos rfl]
  exact ops_self xs h k 0 (Nat.zero_le _) (by omega)
theorem begun_at : quitrentlaw29_begun.f 20 = some true := by decide +kernel
theorem begun_ge (k : Nat) (h : 20 ≤ k) : quitrentlaw29_begun.f k = some true := by
  induction k with
  | zero => omega
  | succ k ih =>
    rcases Nat.lt_or_ge k 20 with h' | h'
    · obtain rfl : k = 19 := by omega
      exact begun_at
    · exact quitrentlaw29_begun.mono k _ (ih h')
theorem within_f (n lo hi : Int) (h : lo ≤ hi) : quitrentref29_Within.f n lo hi = some (clampI n lo hi) := by
  unfold quitrentref29_Within.f clampI
  repeat' split
  all_goals first | rfl | (congr 1; omega) | omega

theorem rows_list (K : Nat) (hK : K ≤ 1000) : ∀ (k j : Nat), j ≤ K → K - j < k → quitrentref29_rows.l0 k K false (listN j) ((j : Int) + 1) = some (listN K ++ [⟨7, 1, 0, 0, 0⟩]) := by
  intro k
  induction k with
  | zero => intro j _ h; omega
  | succ k ih =>
    intro j hj hk
    unfold quitrentref29_rows.l0
    by_cases c : j < K
    · have ew : wrap64 ((j : Int) + 1 + 1) = ((j + 1 : Nat) : Int) + 1 := by unfold wrap64; omega
      have hlen := listN_length j
      rw [if_pos (show (j : Int) + 1 ≤ (K : Int) by omega)]
      simp only [quitrentref29_o.f, quitrentref29_write.f, Option.bind_some, Bool.false_eq_true, if_false, ite_self, ew]
      rw [if_pos (show (listN j).length + _ < 3518437208883 by simp [hlen]; omega)]
      exact ih (j + 1) (by omega) (by omega)
    · obtain rfl : j = K := by omega
      have hlen := listN_length j
      rw [if_neg (show ¬ (j : Int) + 1 ≤ (j : Int) by omega)]
      simp only [quitrentref29_o.f, Option.bind_some]
      rw [if_pos (by omega)]
theorem list_f (n : Int) (k : Nat) (hk : 1001 < k) : quitrentref29_List.f k n = some (listAll n) := by
  unfold quitrentref29_List.f quitrentref29_rows.f
  have hr := clampI_range n (hi := 1000) (by decide)
  obtain ⟨K, hK⟩ : ∃ K : Nat, clampI n 0 1000 = K := Int.eq_ofNat_of_zero_le hr.1
  rw [within_f n 0 1000 (by decide)]
  simp only [Option.bind_some]
  unfold listAll
  rw [hK, Int.toNat_natCast]
  have h := rows_list K (by omega) k 0 (by omega) (by omega)
  simp only [listN, Int.ofNat_zero, Int.zero_add, Int.natCast_zero] at h
  rw [show quitrentref29_rows.l0 k (K : Int) false [] 1 = _ from h]
  rfl

/-- A ring's nodes: the first is kept. -/
def ringN (j : Nat) : List S34 := if j = 0 then [] else (listN j).take 4 ++ [⟨6, 2, 0, 0, 0⟩] ++ (listN j).drop 4
theorem ringN_succ (j : Nat) (h : 1 ≤ j) : ringN (j + 1) = ringN j ++ nodeOps ((j : Int) + 1) := by
  unfold ringN
  rw [if_neg (by omega), if_neg (by omega)]
  have hlen := listN_length j
  simp only [listN]
  rw [List.take_append_of_le_length (by omega), List.drop_append_of_le_length (by omega)]
  simp only [List.append_assoc]
theorem ringN_length (j : Nat) : (ringN j).length ≤ 4 * j + 1 := by
  unfold ringN
  have hlen := listN_length j
  split
  · simp
  · simp only [List.length_append, List.length_take, List.length_drop, List.length_cons, List.length_nil]
    omega
theorem rows_ring (K : Nat) (hK : K ≤ 1000) : ∀ (k j : Nat), j ≤ K → K - j < k → quitrentref29_rows.l0 k K true (ringN j) ((j : Int) + 1) = some (ringN K ++ [⟨7, 1, 0, 0, 0⟩]) := by
  intro k
  induction k with
  | zero => intro j _ h; omega
  | succ k ih =>
    intro j hj hk
    unfold quitrentref29_rows.l0
    have hlen := ringN_length j
    by_cases c : j < K
    · have ew : wrap64 ((j : Int) + 1 + 1) = ((j + 1 : Nat) : Int) + 1 := by unfold wrap64; omega
      rw [if_pos (show (j : Int) + 1 ≤ (K : Int) by omega)]
      simp only [quitrentref29_o.f, quitrentref29_write.f, Option.bind_some, if_true, ew]
      rw [if_pos (show (ringN j).length + _ < 3518437208883 by simp; omega)]
      by_cases c0 : j = 0
      · subst c0
        rw [if_pos (by decide), if_pos (by simp [ringN])]
        exact ih 1 (by omega) (by omega)
      · rw [if_neg (by omega)]
        have e := ringN_succ j (by omega)
        unfold nodeOps at e
        rw [← e]
        exact ih (j + 1) (by omega) (by omega)
    · obtain rfl : j = K := by omega
      rw [if_neg (show ¬ (j : Int) + 1 ≤ (j : Int) by omega)]
      simp only [quitrentref29_o.f, Option.bind_some]
      rw [if_pos (by omega)]
theorem ring_f (n : Int) (k : Nat) (hk : 1001 < k) : quitrentref29_Ring.f k n = some (ringAll n) := by
  unfold quitrentref29_Ring.f quitrentref29_rows.f
  have hr := clampI_range n (hi := 1000) (by decide)
  obtain ⟨K, hK⟩ : ∃ K : Nat, clampI n 0 1000 = K := Int.eq_ofNat_of_zero_le hr.1
  rw [within_f n 0 1000 (by decide)]
  simp only [Option.bind_some]
  unfold ringAll listAll
  rw [hK, Int.toNat_natCast]
  have h := rows_ring K (by omega) k 0 (by omega) (by omega)
  simp only [ringN, if_true, Int.ofNat_zero, Int.zero_add, Int.natCast_zero] at h
  rw [show quitrentref29_rows.l0 k (K : Int) true [] 1 = _ from h]
  simp only [Option.bind_some]
  rcases Nat.eq_zero_or_pos K with h0 | h0
  · subst h0
    have hn : n < 1 := by unfold clampI at hK; split at hK <;> omega
    rw [if_neg (by decide), if_pos hn]
    rfl
  · have hn : ¬ n < 1 := by unfold clampI at hK; split at hK <;> omega
    have hlen := listN_length K
    rw [if_pos (by omega), if_neg hn, if_neg (by omega)]
    simp only [quitrentref29_o.f, Option.bind_some]
    rw [if_pos (by simp only [List.length_append, List.length_take, List.length_drop, List.length_cons, List.length_nil]; omega)]
    rw [List.take_append_of_le_length (by omega), List.drop_append_of_le_length (by omega)]
    simp only [List.append_assoc, List.cons_append, List.nil_append]

theorem build_f (d : Nat) : ∀ (k : Nat) (l : List S34) (s : Int) (X : Nat), 8 * 2 ^ d = X → d < k → l.length + X ≤ 900000 → 0 ≤ s → s + d ≤ 1000 → quitrentref29_build.f k l s ((d : Int) + 1) = some (l ++ buildN d s) := by
  induction d with
  | zero =>
    intro k l s X hX hk hl h0 h1
    obtain ⟨k, rfl⟩ : ∃ j, k = j + 1 := ⟨k - 1, by omega⟩
    unfold quitrentref29_build.f
    simp only [quitrentref29_o.f, quitrentref29_write.f, Option.bind_some]
    rw [if_pos (by simp; omega), if_neg (by decide)]
    rfl
  | succ d ih =>
    intro k l s X hX hk hl h0 h1
    obtain ⟨k, rfl⟩ : ∃ j, k = j + 1 := ⟨k - 1, by omega⟩
    obtain ⟨Y, hY⟩ : ∃ Y, 8 * 2 ^ d = Y := ⟨_, rfl⟩
    have hXY : X = 2 * Y := by rw [← hX, ← hY, Nat.pow_succ]; omega
    have hY8 : 8 ≤ Y := by rw [← hY]; have := Nat.one_le_two_pow (n := d); omega
    have hb := buildN_length d (s + 1)
    rw [hY] at hb
    have e1 : wrap64 (s + 1) = s + 1 := by unfold wrap64; omega
    have e2 : wrap64 ((d : Int) + 2 - 1) = (d : Int) + 1 := by clear e1; unfold wrap64; omega
    have e3 : ((d + 1 : Nat) : Int) + 1 = (d : Int) + 2 := by omega
    have hk' : d < k := by omega
    have h1' : s + 1 + (d : Int) ≤ 1000 := by omega
    have h0' : 0 ≤ s + 1 := by omega
    have hgt : (d : Int) + 2 > 1 := by omega
    have hl1 : (l ++ bHead s ((d : Int) + 2)).length + Y ≤ 900000 := by
      simp only [List.length_append, bHead, List.length_cons, List.length_nil]
      omega
    have hl2 : (l ++ bHead s ((d : Int) + 2) ++ buildN d (s + 1) ++ [(⟨3, s, 0, s + 1, 0⟩ : S34)]).length + Y ≤ 900000 := by
      simp only [List.length_append, bHead, List.length_cons, List.length_nil]
      omega
    have g1 : l.length + 2 < 3518437208883 := by omega
    have g2 : (l ++ bHead s ((d : Int) + 2) ++ buildN d (s + 1)).length < 3518437208883 := by
      rw [List.length_append]
      omega
    have g3 : (l ++ bHead s ((d : Int) + 2) ++ buildN d (s + 1) ++ [(⟨3, s, 0, s + 1, 0⟩ : S34)] ++ buildN d (s + 1)).length < 3518437208883 := by
      rw [List.length_append]
      omega
    clear hX hXY hk hl h0 h1 hb
    unfold quitrentref29_build.f
    simp only [quitrentref29_o.f, quitrentref29_write.f, Option.bind_some, e1, e2, e3]
    rw [if_pos (by simpa using g1), if_pos hgt]
    have i1 := ih k (l ++ bHead s ((d : Int) + 2)) (s + 1) Y hY hk' hl1 h0' h1'
    unfold bHead at i1
    rw [i1]
    simp only [Option.bind_some]
    unfold bHead at g2
    rw [if_pos g2]
    have i2 := ih k _ (s + 1) Y hY hk' hl2 h0' h1'
    unfold bHead at i2
    rw [i2]
    simp only [Option.bind_some]
    unfold bHead at g3
    rw [if_pos g3]
    simp only [buildN, bHead, List.append_assoc, List.cons_append, List.nil_append]
theorem tree_l0 (K : Nat) (hK : K ≤ 8) (B : List S34) (hB : B.length ≤ 2048) : ∀ (k j : Nat), j ≤ K - 1 → K - j < k → quitrentref29_Tree.l0 k K (B ++ dropsUp j) ((j : Int) + 1) = some (B ++ dropsUp (K - 1)) := by
  intro k
  induction k with
  | zero => intro j _ h; omega
  | succ k ih =>
    intro j hj hk
    unfold quitrentref29_Tree.l0
    by_cases c : j < K - 1
    · have ew : wrap64 ((j : Int) + 1 + 1) = ((j + 1 : Nat) : Int) + 1 := by unfold wrap64; omega
      have hlen := dropsUp_length j
      rw [if_pos (show (j : Int) + 1 < (K : Int) by omega)]
      simp only [quitrentref29_o.f, Option.bind_some, ew]
      rw [if_pos (by rw [List.length_append]; omega), List.append_assoc]
      exact ih (j + 1) (by omega) (by omega)
    · rw [if_neg (show ¬ (j : Int) + 1 < (K : Int) by omega)]
      obtain rfl : j = K - 1 := by omega
      rfl
theorem tree_f (n : Int) (k : Nat) (hk : 20 < k) : quitrentref29_Tree.f k n = some (treeAll n) := by
  unfold quitrentref29_Tree.f
  have hr := clampI_range n (hi := 8) (by decide)
  obtain ⟨K, hK⟩ : ∃ K : Nat, clampI n 0 8 = K := Int.eq_ofNat_of_zero_le hr.1
  rw [within_f n 0 8 (by decide)]
  simp only [Option.bind_some]
  unfold treeAll
  rw [hK, Int.toNat_natCast]
  have hK8 : K ≤ 8 := by omega
  obtain ⟨k, rfl⟩ : ∃ j, k = j + 1 := ⟨k - 1, by omega⟩
  have hl := treeB_length K hK8
  have h := tree_l0 K hK8 (treeB K) hl k 0 (by omega) (by omega)
  simp only [dropsUp, List.append_nil, Int.ofNat_zero, Int.zero_add, Int.natCast_zero] at h
  rcases Nat.eq_zero_or_pos K with h0 | h0
  · subst h0
    rw [if_neg (by decide)]
    unfold quitrentref29_Tree.j0
    exact h
  · obtain ⟨d, rfl⟩ : ∃ d, K = d + 1 := ⟨K - 1, by omega⟩
    rw [if_pos (by omega)]
    have hp : 8 * 2 ^ d ≤ 8 * 2 ^ 7 := Nat.mul_le_mul_left _ (Nat.pow_le_pow_right (by decide) (by omega))
    have hb := build_f d (k + 1) [] 0 (8 * 2 ^ d) rfl (by omega) (by simp; omega) (by decide) (by omega)
    rw [show (((d + 1 : Nat)) : Int) = (d : Int) + 1 by omega] at *
    rw [hb]
    simp only [Option.bind_some, List.nil_append]
    unfold quitrentref29_Tree.j0
    exact h

theorem arr_l0 (K : Nat) (M : Int) (hK : K ≤ 100) : ∀ (k j : Nat), j ≤ K → K - j < k → quitrentref29_Array.l0 k K M (arrN K M j) j = some (arrN K M K ++ [⟨7, 1, 0, 0, 0⟩]) := by
  intro k
  induction k with
  | zero => intro j _ h; omega
  | succ k ih =>
    intro j hj hk
    unfold quitrentref29_Array.l0
    have hlen := arrN_length K M j
    by_cases c : j < K
    · have ew : wrap64 ((j : Int) + 1) = ((j + 1 : Nat) : Int) := by unfold wrap64; omega
      rw [if_pos (show (j : Int) < (K : Int) by omega)]
      simp only [quitrentref29_o.f, quitrentref29_write.f, Option.bind_some, ew]
      rw [if_pos (by omega)]
      have hi := ih (j + 1) (by omega) (by omega)
      by_cases hM : 0 < M
      · rw [if_pos (show M > 0 from hM), if_pos (by rw [List.length_append]; simp; omega), if_pos (by rw [List.length_append, List.length_append]; simp; omega)]
        simp only [arrN, arrOne, if_pos hM, List.append_assoc] at hi ⊢
        exact hi
      · rw [if_neg (show ¬ M > 0 from hM), if_pos (by rw [List.length_append]; simp; omega)]
        simp only [arrN, arrOne, if_neg hM, List.append_assoc, List.nil_append] at hi ⊢
        exact hi
    · obtain rfl : j = K := by omega
      rw [if_neg (show ¬ (j : Int) < (j : Int) by omega)]
      simp only [quitrentref29_o.f, Option.bind_some]
      rw [if_pos (by omega)]
theorem array_f (n m : Int) (k : Nat) (hk : 101 < k) : quitrentref29_Array.f k n m = some (arrAll n m) := by
  unfold quitrentref29_Array.f
  have hr := clampI_range n (hi := 100) (by decide)
  obtain ⟨K, hK⟩ : ∃ K : Nat, clampI n 0 100 = K := Int.eq_ofNat_of_zero_le hr.1
  rw [within_f n 0 100 (by decide), within_f m 0 100 (by decide)]
  simp only [Option.bind_some, quitrentref29_o.f]
  unfold arrAll
  rw [hK, Int.toNat_natCast]
  exact arr_l0 K _ (by omega) k 0 (by omega) (by omega)

theorem clear_l1 (a : Int) (M : Nat) (hM : clampI a 0 100000 = M) (hM2 : M ≤ 100000) (D : List S34) (hD : D.length ≤ 4096) : ∀ (k j : Nat), j ≤ M → M - j < k → quitrentref29_Clear.l1 k a (D ++ ticksN j) j = some (D ++ ticksN M) := by
  intro k
  induction k with
  | zero => intro j _ h; omega
  | succ k ih =>
    intro j hj hk
    unfold quitrentref29_Clear.l1
    rw [within_f a 0 100000 (by decide), hM]
    simp only [Option.bind_some]
    have hlen := ticksN_length j
    by_cases c : j < M
    · have ew : wrap64 ((j : Int) + 1) = ((j + 1 : Nat) : Int) := by unfold wrap64; omega
      rw [if_pos (show (j : Int) < (M : Int) by omega)]
      simp only [quitrentref29_o.f, Option.bind_some, ew]
      rw [if_pos (by rw [List.length_append]; omega), List.append_assoc]
      exact ih (j + 1) (by omega) (by omega)
    · obtain rfl : j = M := by omega
      rw [if_neg (show ¬ (j : Int) < (j : Int) by omega)]
theorem clear_l0 (a b : Int) (K M : Nat) (hK : clampI a 0 4096 = K) (hK2 : K ≤ 4096) (hM : clampI b 0 100000 = M) (hM2 : M ≤ 100000) : ∀ (k j : Nat), j ≤ K → K - j + M + 1 < k → quitrentref29_Clear.l0 k a b (dropsN j) j = some (dropsN K ++ ticksN M) := by
  intro k
  induction k with
  | zero => intro j _ h; omega
  | succ k ih =>
    intro j hj hk
    unfold quitrentref29_Clear.l0
    rw [within_f a 0 4096 (by decide), hK]
    simp only [Option.bind_some]
    have hlen := dropsN_length j
    by_cases c : j < K
    · have ew : wrap64 ((j : Int) + 1) = ((j + 1 : Nat) : Int) := by unfold wrap64; omega
      rw [if_pos (show (j : Int) < (K : Int) by omega)]
      simp only [quitrentref29_o.f, Option.bind_some, ew]
      rw [if_pos (by omega)]
      exact ih (j + 1) (by omega) (by omega)
    · obtain rfl : j = K := by omega
      rw [if_neg (show ¬ (j : Int) < (j : Int) by omega)]
      have h := clear_l1 b M hM hM2 (dropsN j) (by omega) k 0 (by omega) (by omega)
      simp only [ticksN, List.append_nil] at h
      exact h
theorem clear_f (n m : Int) (k : Nat) (hk : 105000 < k) : quitrentref29_Clear.f k n m = some (clearAll n m) := by
  unfold quitrentref29_Clear.f
  have hr := clampI_range n (hi := 4096) (by decide)
  have hr2 := clampI_range m (hi := 100000) (by decide)
  obtain ⟨K, hK⟩ : ∃ K : Nat, clampI n 0 4096 = K := Int.eq_ofNat_of_zero_le hr.1
  obtain ⟨M, hM⟩ : ∃ M : Nat, clampI m 0 100000 = M := Int.eq_ofNat_of_zero_le hr2.1
  unfold clearAll
  rw [hK, hM, Int.toNat_natCast, Int.toNat_natCast]
  exact clear_l0 n m K M hK (by omega) hM (by omega) k 0 (by omega) (by omega)

theorem ringAll_length (n : Int) : (ringAll n).length ≤ 5000 := by
  have := listAll_length n
  unfold ringAll
  split
  · omega
  · simp only [List.length_append, List.length_take, List.length_drop, List.length_cons, List.length_nil]
    omega
theorem treeAll_length (n : Int) : (treeAll n).length ≤ 5000 := by
  have hr := clampI_range n (hi := 8) (by decide)
  have := treeB_length (clampI n 0 8).toNat (by omega)
  unfold treeAll
  rw [List.length_append, dropsUp_length]
  omega
theorem arrAll_length (n m : Int) : (arrAll n m).length ≤ 5000 := by
  have hr := clampI_range n (hi := 100) (by decide)
  have := arrN_length (clampI n 0 100) (clampI m 0 100) (clampI n 0 100).toNat
  unfold arrAll
  rw [List.length_append, List.length_cons, List.length_nil]
  omega
theorem clearAll_length (n m : Int) : (clearAll n m).length ≤ 104096 := by
  have hr := clampI_range n (hi := 4096) (by decide)
  have hr2 := clampI_range m (hi := 100000) (by decide)
  unfold clearAll
  rw [List.length_append, dropsN_length, ticksN_length]
  omega

theorem WorkShapes : quitrentlaw29_WorkShapes.Pure := by
  intro a0 a1 a2 w0 w1 w2
  obtain ⟨k, hk⟩ : ∃ k, 200000 ≤ k := ⟨200000, Nat.le_refl _⟩
  refine ⟨k, ?_⟩
  have h1 := listAll_length a0
  have h2 := ringAll_length a0
  have h3 := treeAll_length (wrap64 a2)
  have h4 := arrAll_length a0 a1
  have h5 := clearAll_length a1 a0
  unfold quitrentlaw29_WorkShapes.f
  rw [begun_ge k (by omega)]
  simp only [Option.bind_some, if_true]
  rw [show work_List.f a0 = some (listAll a0) from rfl, list_f a0 k (by omega)]
  simp only [Option.bind_some]
  rw [ops_alike _ k (by omega) (by omega)]
  simp only [Option.bind_some, if_true]
  rw [show work_Ring.f a0 = some (ringAll a0) from rfl, ring_f a0 k (by omega)]
  simp only [Option.bind_some]
  rw [ops_alike _ k (by omega) (by omega)]
  simp only [Option.bind_some, if_true]
  rw [show work_Tree.f (wrap64 a2) = some (treeAll (wrap64 a2)) from rfl, tree_f _ k (by omega)]
  simp only [Option.bind_some]
  rw [ops_alike _ k (by omega) (by omega)]
  simp only [Option.bind_some, if_true]
  rw [show work_Array.f a0 a1 = some (arrAll a0 a1) from rfl, array_f _ _ k (by omega)]
  simp only [Option.bind_some]
  rw [ops_alike _ k (by omega) (by omega)]
  simp only [Option.bind_some, if_true]
  rw [show work_Clear.f a1 a0 = some (clearAll a1 a0) from rfl, clear_f _ _ k (by omega)]
  simp only [Option.bind_some]
  rw [ops_alike _ k (by omega) (by omega)]
  rfl
end Go.Proofs.Ytampnfmhmonebaa.Pure
