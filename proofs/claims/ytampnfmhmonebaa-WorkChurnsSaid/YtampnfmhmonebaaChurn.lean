/- What work.Churn does. -/
import Derived.Test.YtampnfmhmonebaaDraw
namespace Go.Proofs.Ytampnfmhmonebaa.QWorkShapes
open Go.RowKit Go.Proofs.YtampnfmhmonebaaW.PrintWords Go.Proofs.YtampnfmhmonebaaW.PrintLast Go.Proofs.YtampnfmhmonebaaW.PrintMore
set_option linter.unusedVariables false
set_option linter.unusedSimpArgs false
set_option maxRecDepth 100000
set_option maxHeartbeats 1600000

/-- One operation that is drawn, and the number behind. -/
def chOp (k x : Int) : S34 × Int :=
  if dr (nx x) 10 ≤ 2 then (⟨1, dr (nx (nx x)) k, dr (nx (nx (nx x))) 3, dr (nx (nx (nx (nx x)))) 3, 0⟩, nx (nx (nx (nx x))))
  else if dr (nx x) 10 ≤ 4 then (⟨2, dr (nx (nx x)) k, dr (nx (nx (nx x))) k, dr (nx (nx (nx (nx x)))) 2, 0⟩, nx (nx (nx (nx x))))
  else if dr (nx x) 10 ≤ 7 then (⟨3, dr (nx (nx x)) k, dr (nx (nx (nx x))) 2, dr (nx (nx (nx (nx x)))) k, 0⟩, nx (nx (nx (nx x))))
  else if dr (nx x) 10 ≤ 8 then (⟨6, dr (nx (nx x)) k, dr (nx (nx (nx x))) k, 0, 0⟩, nx (nx (nx x)))
  else (⟨7, dr (nx (nx x)) k, 0, 0, 0⟩, nx (nx x))
def chS (k seed : Int) : Nat → List S34 × Int
  | 0 => ([], seed)
  | j + 1 => ((chS k seed j).1 ++ [(chOp k (chS k seed j).2).1], (chOp k (chS k seed j).2).2)
theorem chS_length (k seed : Int) (j : Nat) : (chS k seed j).1.length = j := by
  induction j with
  | zero => rfl
  | succ j ih => simp [chS, ih]

/-- The number in its box, the script in its own. -/
structure Ch (w0 w : World) (b : Nat) (x : Int) (xs : List S34) : Prop where
  HG : w.heap[w0.heap.size]? = some (.cells #[.int .u64 x] 35 (0, 0))
  hx : 0 ≤ x ∧ x < 18446744073709551616
  HS : Scr w (w0.heap.size + 1) b xs
  hb : w0.heap.size + 1 ≤ b
  HB : Below w0.heap.size w0 w
theorem Ch.below {w0 w : World} {b : Nat} {x : Int} {xs : List S34} (h : Ch w0 w b x xs) (k : Int) (hk : 0 < k ∧ k ≤ 5000) :
    Calls Try.prog 20 #[.pointer (some ⟨w0.heap.size, 0, none⟩), .int .i64 k] w fun e w' => e = .returned (.int .i64 (dr (nx x) k)) ∧ Ch w0 w' b (nx x) xs := by
  refine (below_calls h.HG h.hx k hk).mono ?_
  rintro _ _ ⟨rfl, rfl⟩
  refine ⟨rfl, row_set h.HG 0 _ rfl, nx_range x, ?_, h.hb, h.HB.setCell (Nat.le_refl _) _⟩
  obtain ⟨v, hb, hR⟩ := h.HS.out
  have hne := h.hb
  refine ⟨v, row_far hb (by simp only; omega) _, ?_⟩
  refine Kd.R_mono (Kd.R_far (Kd.R_bound hR) (p := ⟨w0.heap.size, 0, none⟩) (fun q hq => ?_) _) (fun q hq => hq.1)
  have := hq.2.1
  simp only
  omega
theorem Ch.grow {w0 w w1 w' : World} {b : Nat} {x : Int} {xs ys : List S34} (h : Ch w0 w b x xs) (o : Obj) (hw : w1 = w.alloc o) (hs : Scr w' (w0.heap.size + 1) b ys) (K : Below (w0.heap.size + 1) w1 w') : Ch w0 w' b x ys := by
  subst hw
  have hlt : w0.heap.size < w.heap.size := by
    have := h.HS.lt
    have := h.hb
    omega
  refine ⟨?_, h.hx, hs, h.hb, (h.HB.alloc h.HB.size _).trans (K.mono (by omega))⟩
  exact (K.block _ (by omega)).trans ((Below.heap_alloc w o _ hlt).trans h.HG)
theorem Ch.add3 {w0 w : World} {b : Nat} {x : Int} {xs : List S34} (h : Ch w0 w b x xs) (hl : xs.length ≤ 1000000) (kind a0 a1 a2 : Int) :
    Calls Try.prog 21 #[.pointer (some ⟨b, 0, none⟩), .int .i64 kind, .slice (some ⟨w.heap.size, 0, none⟩) 3 3] (w.alloc (.cells #[.int .i64 a0, .int .i64 a1, .int .i64 a2] 3)) fun e w' => e = .returned (.tuple #[]) ∧ Ch w0 w' b x (xs ++ [⟨kind, a0, a1, a2, 0⟩]) := by
  refine (add3_calls (h.HS.alloc _) h.hb hl kind a0 a1 a2 w.heap.size (heap_alloc_new w _)).mono ?_
  rintro _ w1 ⟨rfl, H1, K1⟩
  exact ⟨rfl, h.grow _ rfl H1 K1⟩
theorem Ch.add2 {w0 w : World} {b : Nat} {x : Int} {xs : List S34} (h : Ch w0 w b x xs) (hl : xs.length ≤ 1000000) (kind a0 a1 : Int) :
    Calls Try.prog 21 #[.pointer (some ⟨b, 0, none⟩), .int .i64 kind, .slice (some ⟨w.heap.size, 0, none⟩) 2 2] (w.alloc (.cells #[.int .i64 a0, .int .i64 a1] 3)) fun e w' => e = .returned (.tuple #[]) ∧ Ch w0 w' b x (xs ++ [⟨kind, a0, a1, 0, 0⟩]) := by
  refine (add2_calls (h.HS.alloc _) h.hb hl kind a0 a1 w.heap.size (heap_alloc_new w _)).mono ?_
  rintro _ w1 ⟨rfl, H1, K1⟩
  exact ⟨rfl, h.grow _ rfl H1 K1⟩
theorem Ch.add1 {w0 w : World} {b : Nat} {x : Int} {xs : List S34} (h : Ch w0 w b x xs) (hl : xs.length ≤ 1000000) (kind a0 : Int) :
    Calls Try.prog 21 #[.pointer (some ⟨b, 0, none⟩), .int .i64 kind, .slice (some ⟨w.heap.size, 0, none⟩) 1 1] (w.alloc (.cells #[.int .i64 a0] 3)) fun e w' => e = .returned (.tuple #[]) ∧ Ch w0 w' b x (xs ++ [⟨kind, a0, 0, 0, 0⟩]) := by
  refine (add1_calls (h.HS.alloc _) h.hb hl kind a0 w.heap.size (heap_alloc_new w _)).mono ?_
  rintro _ w1 ⟨rfl, H1, K1⟩
  exact ⟨rfl, h.grow _ rfl H1 K1⟩
theorem chOp_at (k x c : Int) (e : dr (nx x) 10 = c) : chOp k x =
  if c ≤ 2 then (⟨1, dr (nx (nx x)) k, dr (nx (nx (nx x))) 3, dr (nx (nx (nx (nx x)))) 3, 0⟩, nx (nx (nx (nx x))))
  else if c ≤ 4 then (⟨2, dr (nx (nx x)) k, dr (nx (nx (nx x))) k, dr (nx (nx (nx (nx x)))) 2, 0⟩, nx (nx (nx (nx x))))
  else if c ≤ 7 then (⟨3, dr (nx (nx x)) k, dr (nx (nx (nx x))) 2, dr (nx (nx (nx (nx x)))) k, 0⟩, nx (nx (nx (nx x))))
  else if c ≤ 8 then (⟨6, dr (nx (nx x)) k, dr (nx (nx (nx x))) k, 0, 0⟩, nx (nx (nx x)))
  else (⟨7, dr (nx (nx x)) k, 0, 0, 0⟩, nx (nx x)) := by
  subst e
  rfl
theorem clampI_range1 (n : Int) {hi : Int} (h : 1 ≤ hi) : 1 ≤ clampI n 1 hi ∧ clampI n 1 hi ≤ hi := by unfold clampI; split <;> omega

def churnAll (seed n m : Int) : List S34 := (chS (clampI m 1 4096) seed (clampI n 0 5000).toNat).1

theorem Churn_calls (seed n m : Int) (hseed : 0 ≤ seed ∧ seed < 18446744073709551616) (w : World) :
    Calls Try.prog 7 #[.int .u64 seed, .int .i64 n, .int .i64 m] w fun e w' => ∃ v, e = .returned v ∧ Kd.R k34 34 w' w.heap.size (fun _ => True) v (chS (clampI m 1 4096) seed (clampI n 0 5000).toNat).1 ∧ Below w.heap.size w w' := by
  obtain ⟨N, hN⟩ : ∃ N : Nat, clampI n 0 5000 = N := Int.eq_ofNat_of_zero_le (clampI_range n (by decide)).1
  have hN2 : N ≤ 5000 := by have := (clampI_range n (hi := 5000) (by decide)).2; omega
  have hk := clampI_range1 m (hi := 4096) (by decide)
  obtain ⟨k, hK⟩ : ∃ k : Int, clampI m 1 4096 = k := ⟨_, rfl⟩
  rw [hN, Int.toNat_natCast, hK]
  rw [hK] at hk
  have HK := Aside0.mk (show 0 < k ∧ k ≤ 5000 by omega)
  have HC : Aside0 (∀ w, Calls Try.prog 19 #[.int .i64 n, .int .i64 0, .int .i64 5000] w fun e w' => e = .returned (.int .i64 N) ∧ w = w') := ⟨fun w => hN ▸ clamp_calls n 0 5000 w⟩
  have HC2 : Aside0 (∀ w, Calls Try.prog 19 #[.int .i64 m, .int .i64 1, .int .i64 4096] w fun e w' => e = .returned (.int .i64 k) ∧ w = w') := ⟨fun w => hK ▸ clamp_calls m 1 4096 w⟩
  have HSE := Aside0.mk hseed
  clear hN hK hk hseed
  obtain ⟨w1, e1⟩ : ∃ w1, w1 = (w.alloc (.cells #[.int .u64 seed] 35)).alloc (.cells #[.slice none 0 0] 37) := ⟨_, rfl⟩
  have H0 : Aside0 (Ch w w1 (w.heap.size + 1) seed (chS k seed 0).1) := ⟨by
    subst e1
    refine ⟨(Below.heap_alloc _ _ _ (by simp)).trans (heap_alloc_new w _), HSE.out, ⟨⟨.slice none 0 0, ?_, Kd.R_nil _ _ _ _ _⟩⟩, Nat.le_refl _, ((Below.refl _ _).alloc (Nat.le_refl _) _).alloc (by simp) _⟩
    have := heap_alloc_new (w.alloc (.cells #[.int .u64 seed] 35)) (.cells #[.slice none 0 0] 37)
    simpa using this⟩
  go_enter Try.func7, Try.ntmps7
  go_wp2_with fail
  refine (HC2.out _).mono ?_
  rintro _ _ ⟨rfl, rfl⟩
  go_wp2_with fail
  refine (HC.out _).mono ?_
  rintro _ _ ⟨rfl, rfl⟩
  rw [← e1]
  clear e1
  go_wp2_with fail
  go_loopw [26] (fun s wr => ∃ j : Nat, j ≤ N ∧ s = .int .i64 j ∧ Aside0 (Ch w wr (w.heap.size + 1) (chS k seed j).2 (chS k seed j).1)) (fun s _ => N - (intOf s).toNat)
  case atStart => exact ⟨0, by omega, rfl, H0⟩
  case round =>
    obtain ⟨j, hj, rfl, H⟩ := hrel
    by_cases c : j < N
    · have cb : decide ((j : Int) < (N : Int)) = true := decide_eq_true (by omega)
      have hj1 := Aside0.mk (show j + 1 ≤ N by omega)
      have hme := Aside0.mk (show N - ((j : Int) + 1).toNat < N - (j : Int).toNat by omega)
      have hlen := Aside0.mk (show (chS k seed j).1.length ≤ 1000000 by rw [chS_length]; omega)
      have ew : wrap64 ((j : Int) + 1) = (j : Int) + 1 := by unfold wrap64; omega
      have hr := dr_range (nx_range (chS k seed j).2) (k := 10) (by decide)
      go_wp2_with fail
      refine (H.out.below 10 (by decide)).mono ?_
      rintro _ wc ⟨rfl, Hc⟩
      have Hc := Aside0.mk Hc
      obtain ⟨cc, hc⟩ : ∃ cc, dr (nx (chS k seed j).2) 10 = cc := ⟨_, rfl⟩
      rw [hc] at hr ⊢
      have hten : cc = 0 ∨ cc = 1 ∨ cc = 2 ∨ cc = 3 ∨ cc = 4 ∨ cc = 5 ∨ cc = 6 ∨ cc = 7 ∨ cc = 8 ∨ cc = 9 := by omega
      clear hr
      rcases hten with rfl | rfl | rfl | rfl | rfl | rfl | rfl | rfl | rfl | rfl
      · have hop : Aside0 (chOp k (chS k seed j).2 = _) := ⟨chOp_at k _ 0 hc⟩
        clear hc
        go_wp2_with fail
        refine (Hc.out.below k HK.out).mono ?_
        rintro _ wd0 ⟨rfl, Hd0⟩
        have Hd0 := Aside0.mk Hd0
        go_wp2_with fail
        refine (Hd0.out.below 3 (by decide)).mono ?_
        rintro _ wd1 ⟨rfl, Hd1⟩
        have Hd1 := Aside0.mk Hd1
        go_wp2_with fail
        refine (Hd1.out.below 3 (by decide)).mono ?_
        rintro _ wd2 ⟨rfl, Hd2⟩
        have Hd2 := Aside0.mk Hd2
        go_wp2_with fail
        refine (Hd2.out.add3 hlen.out 1 (dr (nx (nx (chS k seed j).2)) k) (dr (nx (nx (nx (chS k seed j).2))) 3) (dr (nx (nx (nx (nx (chS k seed j).2)))) 3)).mono ?_
        rintro _ we ⟨rfl, He⟩
        have He := Aside0.mk He
        go_wp2_with fail
        have HN : Aside0 (Ch w we (w.heap.size + 1) (chS k seed (j + 1)).2 (chS k seed (j + 1)).1) := ⟨by
          simp only [chS, hop.out]
          exact He.out⟩
        go_roundw
        case rel => exact ⟨j + 1, hj1.out, by first | rfl | simp | (rw [ew]; simp; done), HN⟩
        case measure =>
          first
            | exact hme.out
            | (simp only [intOf]; exact hme.out)
            | (rw [ew]; simp only [intOf]; exact hme.out)
      · have hop : Aside0 (chOp k (chS k seed j).2 = _) := ⟨chOp_at k _ 1 hc⟩
        clear hc
        go_wp2_with fail
        refine (Hc.out.below k HK.out).mono ?_
        rintro _ wd0 ⟨rfl, Hd0⟩
        have Hd0 := Aside0.mk Hd0
        go_wp2_with fail
        refine (Hd0.out.below 3 (by decide)).mono ?_
        rintro _ wd1 ⟨rfl, Hd1⟩
        have Hd1 := Aside0.mk Hd1
        go_wp2_with fail
        refine (Hd1.out.below 3 (by decide)).mono ?_
        rintro _ wd2 ⟨rfl, Hd2⟩
        have Hd2 := Aside0.mk Hd2
        go_wp2_with fail
        refine (Hd2.out.add3 hlen.out 1 (dr (nx (nx (chS k seed j).2)) k) (dr (nx (nx (nx (chS k seed j).2))) 3) (dr (nx (nx (nx (nx (chS k seed j).2)))) 3)).mono ?_
        rintro _ we ⟨rfl, He⟩
        have He := Aside0.mk He
        go_wp2_with fail
        have HN : Aside0 (Ch w we (w.heap.size + 1) (chS k seed (j + 1)).2 (chS k seed (j + 1)).1) := ⟨by
          simp only [chS, hop.out]
          exact He.out⟩
        go_roundw
        case rel => exact ⟨j + 1, hj1.out, by first | rfl | simp | (rw [ew]; simp; done), HN⟩
        case measure =>
          first
            | exact hme.out
            | (simp only [intOf]; exact hme.out)
            | (rw [ew]; simp only [intOf]; exact hme.out)
      · have hop : Aside0 (chOp k (chS k seed j).2 = _) := ⟨chOp_at k _ 2 hc⟩
        clear hc
        go_wp2_with fail
        refine (Hc.out.below k HK.out).mono ?_
        rintro _ wd0 ⟨rfl, Hd0⟩
        have Hd0 := Aside0.mk Hd0
        go_wp2_with fail
        refine (Hd0.out.below 3 (by decide)).mono ?_
        rintro _ wd1 ⟨rfl, Hd1⟩
        have Hd1 := Aside0.mk Hd1
        go_wp2_with fail
        refine (Hd1.out.below 3 (by decide)).mono ?_
        rintro _ wd2 ⟨rfl, Hd2⟩
        have Hd2 := Aside0.mk Hd2
        go_wp2_with fail
        refine (Hd2.out.add3 hlen.out 1 (dr (nx (nx (chS k seed j).2)) k) (dr (nx (nx (nx (chS k seed j).2))) 3) (dr (nx (nx (nx (nx (chS k seed j).2)))) 3)).mono ?_
        rintro _ we ⟨rfl, He⟩
        have He := Aside0.mk He
        go_wp2_with fail
        have HN : Aside0 (Ch w we (w.heap.size + 1) (chS k seed (j + 1)).2 (chS k seed (j + 1)).1) := ⟨by
          simp only [chS, hop.out]
          exact He.out⟩
        go_roundw
        case rel => exact ⟨j + 1, hj1.out, by first | rfl | simp | (rw [ew]; simp; done), HN⟩
        case measure =>
          first
            | exact hme.out
            | (simp only [intOf]; exact hme.out)
            | (rw [ew]; simp only [intOf]; exact hme.out)
      · have hop : Aside0 (chOp k (chS k seed j).2 = _) := ⟨chOp_at k _ 3 hc⟩
        clear hc
        go_wp2_with fail
        refine (Hc.out.below k HK.out).mono ?_
        rintro _ wd0 ⟨rfl, Hd0⟩
        have Hd0 := Aside0.mk Hd0
        go_wp2_with fail
        refine (Hd0.out.below k HK.out).mono ?_
        rintro _ wd1 ⟨rfl, Hd1⟩
        have Hd1 := Aside0.mk Hd1
        go_wp2_with fail
        refine (Hd1.out.below 2 (by decide)).mono ?_
        rintro _ wd2 ⟨rfl, Hd2⟩
        have Hd2 := Aside0.mk Hd2
        go_wp2_with fail
        refine (Hd2.out.add3 hlen.out 2 (dr (nx (nx (chS k seed j).2)) k) (dr (nx (nx (nx (chS k seed j).2))) k) (dr (nx (nx (nx (nx (chS k seed j).2)))) 2)).mono ?_
        rintro _ we ⟨rfl, He⟩
        have He := Aside0.mk He
        go_wp2_with fail
        have HN : Aside0 (Ch w we (w.heap.size + 1) (chS k seed (j + 1)).2 (chS k seed (j + 1)).1) := ⟨by
          simp only [chS, hop.out]
          exact He.out⟩
        go_roundw
        case rel => exact ⟨j + 1, hj1.out, by first | rfl | simp | (rw [ew]; simp; done), HN⟩
        case measure =>
          first
            | exact hme.out
            | (simp only [intOf]; exact hme.out)
            | (rw [ew]; simp only [intOf]; exact hme.out)
      · have hop : Aside0 (chOp k (chS k seed j).2 = _) := ⟨chOp_at k _ 4 hc⟩
        clear hc
        go_wp2_with fail
        refine (Hc.out.below k HK.out).mono ?_
        rintro _ wd0 ⟨rfl, Hd0⟩
        have Hd0 := Aside0.mk Hd0
        go_wp2_with fail
        refine (Hd0.out.below k HK.out).mono ?_
        rintro _ wd1 ⟨rfl, Hd1⟩
        have Hd1 := Aside0.mk Hd1
        go_wp2_with fail
        refine (Hd1.out.below 2 (by decide)).mono ?_
        rintro _ wd2 ⟨rfl, Hd2⟩
        have Hd2 := Aside0.mk Hd2
        go_wp2_with fail
        refine (Hd2.out.add3 hlen.out 2 (dr (nx (nx (chS k seed j).2)) k) (dr (nx (nx (nx (chS k seed j).2))) k) (dr (nx (nx (nx (nx (chS k seed j).2)))) 2)).mono ?_
        rintro _ we ⟨rfl, He⟩
        have He := Aside0.mk He
        go_wp2_with fail
        have HN : Aside0 (Ch w we (w.heap.size + 1) (chS k seed (j + 1)).2 (chS k seed (j + 1)).1) := ⟨by
          simp only [chS, hop.out]
          exact He.out⟩
        go_roundw
        case rel => exact ⟨j + 1, hj1.out, by first | rfl | simp | (rw [ew]; simp; done), HN⟩
        case measure =>
          first
            | exact hme.out
            | (simp only [intOf]; exact hme.out)
            | (rw [ew]; simp only [intOf]; exact hme.out)
      · have hop : Aside0 (chOp k (chS k seed j).2 = _) := ⟨chOp_at k _ 5 hc⟩
        clear hc
        go_wp2_with fail
        refine (Hc.out.below k HK.out).mono ?_
        rintro _ wd0 ⟨rfl, Hd0⟩
        have Hd0 := Aside0.mk Hd0
        go_wp2_with fail
        refine (Hd0.out.below 2 (by decide)).mono ?_
        rintro _ wd1 ⟨rfl, Hd1⟩
        have Hd1 := Aside0.mk Hd1
        go_wp2_with fail
        refine (Hd1.out.below k HK.out).mono ?_
        rintro _ wd2 ⟨rfl, Hd2⟩
        have Hd2 := Aside0.mk Hd2
        go_wp2_with fail
        refine (Hd2.out.add3 hlen.out 3 (dr (nx (nx (chS k seed j).2)) k) (dr (nx (nx (nx (chS k seed j).2))) 2) (dr (nx (nx (nx (nx (chS k seed j).2)))) k)).mono ?_
        rintro _ we ⟨rfl, He⟩
        have He := Aside0.mk He
        go_wp2_with fail
        have HN : Aside0 (Ch w we (w.heap.size + 1) (chS k seed (j + 1)).2 (chS k seed (j + 1)).1) := ⟨by
          simp only [chS, hop.out]
          exact He.out⟩
        go_roundw
        case rel => exact ⟨j + 1, hj1.out, by first | rfl | simp | (rw [ew]; simp; done), HN⟩
        case measure =>
          first
            | exact hme.out
            | (simp only [intOf]; exact hme.out)
            | (rw [ew]; simp only [intOf]; exact hme.out)
      · have hop : Aside0 (chOp k (chS k seed j).2 = _) := ⟨chOp_at k _ 6 hc⟩
        clear hc
        go_wp2_with fail
        refine (Hc.out.below k HK.out).mono ?_
        rintro _ wd0 ⟨rfl, Hd0⟩
        have Hd0 := Aside0.mk Hd0
        go_wp2_with fail
        refine (Hd0.out.below 2 (by decide)).mono ?_
        rintro _ wd1 ⟨rfl, Hd1⟩
        have Hd1 := Aside0.mk Hd1
        go_wp2_with fail
        refine (Hd1.out.below k HK.out).mono ?_
        rintro _ wd2 ⟨rfl, Hd2⟩
        have Hd2 := Aside0.mk Hd2
        go_wp2_with fail
        refine (Hd2.out.add3 hlen.out 3 (dr (nx (nx (chS k seed j).2)) k) (dr (nx (nx (nx (chS k seed j).2))) 2) (dr (nx (nx (nx (nx (chS k seed j).2)))) k)).mono ?_
        rintro _ we ⟨rfl, He⟩
        have He := Aside0.mk He
        go_wp2_with fail
        have HN : Aside0 (Ch w we (w.heap.size + 1) (chS k seed (j + 1)).2 (chS k seed (j + 1)).1) := ⟨by
          simp only [chS, hop.out]
          exact He.out⟩
        go_roundw
        case rel => exact ⟨j + 1, hj1.out, by first | rfl | simp | (rw [ew]; simp; done), HN⟩
        case measure =>
          first
            | exact hme.out
            | (simp only [intOf]; exact hme.out)
            | (rw [ew]; simp only [intOf]; exact hme.out)
      · have hop : Aside0 (chOp k (chS k seed j).2 = _) := ⟨chOp_at k _ 7 hc⟩
        clear hc
        go_wp2_with fail
        refine (Hc.out.below k HK.out).mono ?_
        rintro _ wd0 ⟨rfl, Hd0⟩
        have Hd0 := Aside0.mk Hd0
        go_wp2_with fail
        refine (Hd0.out.below 2 (by decide)).mono ?_
        rintro _ wd1 ⟨rfl, Hd1⟩
        have Hd1 := Aside0.mk Hd1
        go_wp2_with fail
        refine (Hd1.out.below k HK.out).mono ?_
        rintro _ wd2 ⟨rfl, Hd2⟩
        have Hd2 := Aside0.mk Hd2
        go_wp2_with fail
        refine (Hd2.out.add3 hlen.out 3 (dr (nx (nx (chS k seed j).2)) k) (dr (nx (nx (nx (chS k seed j).2))) 2) (dr (nx (nx (nx (nx (chS k seed j).2)))) k)).mono ?_
        rintro _ we ⟨rfl, He⟩
        have He := Aside0.mk He
        go_wp2_with fail
        have HN : Aside0 (Ch w we (w.heap.size + 1) (chS k seed (j + 1)).2 (chS k seed (j + 1)).1) := ⟨by
          simp only [chS, hop.out]
          exact He.out⟩
        go_roundw
        case rel => exact ⟨j + 1, hj1.out, by first | rfl | simp | (rw [ew]; simp; done), HN⟩
        case measure =>
          first
            | exact hme.out
            | (simp only [intOf]; exact hme.out)
            | (rw [ew]; simp only [intOf]; exact hme.out)
      · have hop : Aside0 (chOp k (chS k seed j).2 = _) := ⟨chOp_at k _ 8 hc⟩
        clear hc
        go_wp2_with fail
        refine (Hc.out.below k HK.out).mono ?_
        rintro _ wd0 ⟨rfl, Hd0⟩
        have Hd0 := Aside0.mk Hd0
        go_wp2_with fail
        refine (Hd0.out.below k HK.out).mono ?_
        rintro _ wd1 ⟨rfl, Hd1⟩
        have Hd1 := Aside0.mk Hd1
        go_wp2_with fail
        refine (Hd1.out.add2 hlen.out 6 (dr (nx (nx (chS k seed j).2)) k) (dr (nx (nx (nx (chS k seed j).2))) k)).mono ?_
        rintro _ we ⟨rfl, He⟩
        have He := Aside0.mk He
        go_wp2_with fail
        have HN : Aside0 (Ch w we (w.heap.size + 1) (chS k seed (j + 1)).2 (chS k seed (j + 1)).1) := ⟨by
          simp only [chS, hop.out]
          exact He.out⟩
        go_roundw
        case rel => exact ⟨j + 1, hj1.out, by first | rfl | simp | (rw [ew]; simp; done), HN⟩
        case measure =>
          first
            | exact hme.out
            | (simp only [intOf]; exact hme.out)
            | (rw [ew]; simp only [intOf]; exact hme.out)
      · have hop : Aside0 (chOp k (chS k seed j).2 = _) := ⟨chOp_at k _ 9 hc⟩
        clear hc
        go_wp2_with fail
        refine (Hc.out.below k HK.out).mono ?_
        rintro _ wd0 ⟨rfl, Hd0⟩
        have Hd0 := Aside0.mk Hd0
        go_wp2_with fail
        refine (Hd0.out.add1 hlen.out 7 (dr (nx (nx (chS k seed j).2)) k)).mono ?_
        rintro _ we ⟨rfl, He⟩
        have He := Aside0.mk He
        go_wp2_with fail
        have HN : Aside0 (Ch w we (w.heap.size + 1) (chS k seed (j + 1)).2 (chS k seed (j + 1)).1) := ⟨by
          simp only [chS, hop.out]
          exact He.out⟩
        go_roundw
        case rel => exact ⟨j + 1, hj1.out, by first | rfl | simp | (rw [ew]; simp; done), HN⟩
        case measure =>
          first
            | exact hme.out
            | (simp only [intOf]; exact hme.out)
            | (rw [ew]; simp only [intOf]; exact hme.out)
    · have cb : decide ((j : Int) < (N : Int)) = false := decide_eq_false (by omega)
      obtain rfl : j = N := by omega
      obtain ⟨v, hb, hR⟩ := H.out.HS.out
      have cv := row_cell hb 0
      obtain ⟨ad, q, cp, rfl⟩ := R_slice hR
      have HR := Aside0.mk (Kd.R_lower (Kd.R_mono hR (ok' := fun _ => True) (fun _ _ => trivial)) (Nat.le_succ w.heap.size))
      clear hb hR
      go_wp2_with fail
      go_ret
      exact ⟨_, rfl, HR.out, H.out.HB⟩
end Go.Proofs.Ytampnfmhmonebaa.QWorkShapes
