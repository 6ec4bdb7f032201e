/- What quitrentref29.Churn does. -/
import Derived.Test.YtampnfmhmonebaaChurn
namespace Go.Proofs.Ytampnfmhmonebaa.QWorkShapes
open Go.RowKit Go.Proofs.YtampnfmhmonebaaW.PrintWords Go.Proofs.YtampnfmhmonebaaW.PrintLast Go.Proofs.YtampnfmhmonebaaW.PrintMore
set_option linter.unusedVariables false
set_option linter.unusedSimpArgs false
set_option maxRecDepth 100000
set_option maxHeartbeats 1600000

theorem within_calls (n lo hi : Int) (hlh : lo ≤ hi) (w : World) :
    Calls Try.prog 22 #[.int .i64 n, .int .i64 lo, .int .i64 hi] w fun e w' => e = .returned (.int .i64 (clampI n lo hi)) ∧ w = w' := by
  by_cases h : n < lo
  · have e : clampI n lo hi = lo := by unfold clampI; split <;> omega
    rw [e]
    clear e
    go_enter Try.func22, Try.ntmps22
    go_wp2
    all_goals
      go_ret
      exact ⟨rfl, rfl⟩
  · by_cases h2 : hi < n
    · have e : clampI n lo hi = hi := by unfold clampI; split <;> omega
      rw [e]
      clear e
      go_enter Try.func22, Try.ntmps22
      go_wp2
      all_goals
        go_ret
        exact ⟨rfl, rfl⟩
    · have e : clampI n lo hi = n := by unfold clampI; split <;> omega
      rw [e]
      clear e
      go_enter Try.func22, Try.ntmps22
      go_wp2
      all_goals
        go_ret
        exact ⟨rfl, rfl⟩
def own_o.f (a0 : Int) (a1 : Int) (a2 : Int) (a3 : Int) : Option (Int × Int × Int × Int × Int) := some (a0, a1, a2, a3, 0)
set_option maxRecDepth 100000 in
theorem own_o.calls (a0 : Int) (a1 : Int) (a2 : Int) (a3 : Int) (r1 : Int) (r2 : Int) (r3 : Int) (r4 : Int) (r5 : Int) (w : World) (h : own_o.f a0 a1 a2 a3 = some (r1, r2, r3, r4, r5)) :
    Calls Try.prog 24 #[.int .i64 a0, .int .i64 a1, .int .i64 a2, .int .i64 a3] w fun e w' => e = .returned (.agg #[.int .i64 r1, .int .i64 r2, .int .i64 r3, .int .i64 r4, .int .u32 r5]) ∧ Below w.heap.size w w' := by
  have hu34 := Try.underlying34
  have HB := Aside0.mk (Below.refl w.heap.size w)
  have H : (some (a0, a1, a2, a3, 0)) = some (r1, r2, r3, r4, r5) := h
  clear h
  simp only [Option.some.injEq, Prod.mk.injEq] at H
  obtain ⟨rfl, rfl, rfl, rfl, rfl⟩ := H
  go_enter Try.func24, Try.ntmps24
  go_wp2_with (first | ((with_reducible refine gate_dst (N := 8) rfl ?_); refine box_event ?hg (N := 8) ?hd (cs := #[.int .i64 0, .int .i64 0, .int .i64 0, .int .i64 0, .int .u32 0]) (t := 34) ?hr ?_; (case hd => rfl); (case hg => rfl); (case hr => first | (go_simp; done) | (go_simp; rfl)); intro gb120 hg w5 hbox hb; have n0_ := Aside0.mk (below_step (by repeat (first | (with_reducible first | exact HB.out | apply below_alloc | apply pw_below_drewN | apply below_drew1) | exact HB.out)) hb); have n1_ := Aside0.mk (hbox); have n2_ := Aside0.mk ((by rw [hg]; exact (below_size (by repeat (first | (with_reducible first | exact HB.out | apply below_alloc | apply pw_below_drewN | apply below_drew1) | exact HB.out))) : w.heap.size ≤ gb120)); have n3_ := Aside0.mk ((by rw [hg]; exact (below_size (by repeat (first | (with_reducible first | exact HB.out | apply below_alloc | apply pw_below_drewN | apply below_drew1) | exact HB.out))) : w.heap.size ≤ gb120)); clear HB; have HB := n0_; have BK120 := n1_; have GW120 := n2_; have GE120 := n3_; clear n0_ n1_ n2_ n3_; clear hb hbox hg; have hcz6_0 : w5.cell? ⟨gb120, 0, none⟩ = some (.int .i64 0) := (blk_cell BK120.out 0).trans rfl; have hcz6_1 : w5.cell? ⟨gb120, 1, none⟩ = some (.int .i64 0) := (blk_cell BK120.out 1).trans rfl; have hcz6_2 : w5.cell? ⟨gb120, 2, none⟩ = some (.int .i64 0) := (blk_cell BK120.out 2).trans rfl; have hcz6_3 : w5.cell? ⟨gb120, 3, none⟩ = some (.int .i64 0) := (blk_cell BK120.out 3).trans rfl; have hcz6_4 : w5.cell? ⟨gb120, 4, none⟩ = some (.int .u32 0) := (blk_cell BK120.out 4).trans rfl; have hfz6_0 := blk_frozen BK120.out 0; have hfz6_1 := blk_frozen BK120.out 1; have hfz6_2 := blk_frozen BK120.out 2; have hfz6_3 := blk_frozen BK120.out 3; have hfz6_4 := blk_frozen BK120.out 4))
  refine bodyPost_ret (results_cell_row rfl _ _ gb120 34 #[.int .i64 a0, .int .i64 a1, .int .i64 a2, .int .i64 a3, .int .u32 0] (0, 0) _ rfl (by (with_reducible repeat (first | refine blk_drewN ?_ _ | refine blk_drew ?_ | refine blk_alloc ?_ _)); refine blk_put (cs := #[.int .i64 a0, .int .i64 a1, .int .i64 a2, .int .i64 a3, .int .u32 0]) ?_ 4 _ rfl; (with_reducible repeat (first | refine blk_drewN ?_ _ | refine blk_drew ?_ | refine blk_alloc ?_ _)); refine blk_put (cs := #[.int .i64 a0, .int .i64 a1, .int .i64 a2, .int .i64 0, .int .u32 0]) ?_ 3 _ rfl; (with_reducible repeat (first | refine blk_drewN ?_ _ | refine blk_drew ?_ | refine blk_alloc ?_ _)); refine blk_put (cs := #[.int .i64 a0, .int .i64 a1, .int .i64 0, .int .i64 0, .int .u32 0]) ?_ 2 _ rfl; (with_reducible repeat (first | refine blk_drewN ?_ _ | refine blk_drew ?_ | refine blk_alloc ?_ _)); refine blk_put (cs := #[.int .i64 a0, .int .i64 0, .int .i64 0, .int .i64 0, .int .u32 0]) ?_ 1 _ rfl; (with_reducible repeat (first | refine blk_drewN ?_ _ | refine blk_drew ?_ | refine blk_alloc ?_ _)); refine blk_put (cs := #[.int .i64 0, .int .i64 0, .int .i64 0, .int .i64 0, .int .u32 0]) ?_ 0 _ rfl; (with_reducible repeat (first | refine blk_drewN ?_ _ | refine blk_drew ?_ | refine blk_alloc ?_ _)); exact BK120.out) Try.underlying34 rfl (by kernel_rfl)) rfl ?_
  exact ⟨by first | rfl | (simp [errW_none, errW_some] <;> rfl) | (simp [*, errW_none, errW_some] <;> rfl), by repeat (first | (with_reducible first | exact HB.out | apply below_alloc | apply pw_below_drewN | apply below_drew1 | refine below_set ?_ GE120.out) | exact HB.out)⟩

theorem o_calls (a b c d : Int) (w : World) :
    Calls Try.prog 24 #[.int .i64 a, .int .i64 b, .int .i64 c, .int .i64 d] w fun e w' => e = .returned (.agg #[.int .i64 a, .int .i64 b, .int .i64 c, .int .i64 d, .int .u32 0]) ∧ Below w.heap.size w w' := own_o.calls a b c d a b c d 0 w rfl

theorem RChurn_calls (seed n m : Int) (hseed : 0 ≤ seed ∧ seed < 18446744073709551616) (w : World) :
    Calls Try.prog 8 #[.int .u64 seed, .int .i64 n, .int .i64 m] w fun e w' => ∃ v, e = .returned v ∧ Kd.R k34 34 w' w.heap.size (fun _ => True) v (chS (clampI m 1 4096) seed (clampI n 0 5000).toNat).1 ∧ Below w.heap.size w w' := by
  obtain ⟨N, hN⟩ : ∃ N : Nat, clampI n 0 5000 = N := Int.eq_ofNat_of_zero_le (clampI_range n (by decide)).1
  have hN2 : N ≤ 5000 := by have := (clampI_range n (hi := 5000) (by decide)).2; omega
  have hk := clampI_range1 m (hi := 4096) (by decide)
  obtain ⟨k, hK⟩ : ∃ k : Int, clampI m 1 4096 = k := ⟨_, rfl⟩
  rw [hN, Int.toNat_natCast, hK]
  rw [hK] at hk
  have HK := Aside0.mk (show 0 < k ∧ k ≤ 5000 by omega)
  have HC : Aside0 (∀ w, Calls Try.prog 22 #[.int .i64 n, .int .i64 0, .int .i64 5000] w fun e w' => e = .returned (.int .i64 N) ∧ w = w') := ⟨fun w => hN ▸ within_calls n 0 5000 (by decide) w⟩
  have HC2 : Aside0 (∀ w, Calls Try.prog 22 #[.int .i64 m, .int .i64 1, .int .i64 4096] w fun e w' => e = .returned (.int .i64 k) ∧ w = w') := ⟨fun w => hK ▸ within_calls m 1 4096 (by decide) w⟩
  have HSE := Aside0.mk hseed
  clear hN hK hk hseed
  have hR0 : Aside0 (Kd.R k34 34 w w.heap.size (fun _ => True) (.slice none 0 0) (chS k seed 0).1) := ⟨Kd.R_nil _ _ _ _ _⟩
  go_enter Try.func8, Try.ntmps8
  go_wp2_with fail
  refine (HC2.out _).mono ?_
  rintro _ _ ⟨rfl, rfl⟩
  go_wp2_with fail
  go_loopw [7, 9, 10] (fun x l i wr => ∃ j : Nat, j ≤ N ∧ i = .int .i64 j ∧ x = .int .u64 (chS k seed j).2 ∧ Aside0 (0 ≤ (chS k seed j).2 ∧ (chS k seed j).2 < 18446744073709551616) ∧ Aside0 (Kd.R k34 34 wr w.heap.size (fun _ => True) l (chS k seed j).1) ∧ Aside0 (Below w.heap.size w wr)) (fun _ _ i _ => N - (intOf i).toNat)
  case atStart => exact ⟨0, by omega, rfl, rfl, HSE, hR0, ⟨Below.refl _ _⟩⟩
  case round =>
    obtain ⟨j, hj, rfl, rfl, HX, HR, HB⟩ := hrel
    obtain ⟨ad, q, cp, rfl⟩ := R_slice HR.out
    go_wp2_with fail
    refine (HC.out _).mono ?_
    rintro _ _ ⟨rfl, rfl⟩
    by_cases c : j < N
    · have cb : decide ((j : Int) < (N : Int)) = true := decide_eq_true (by omega)
      have hj1 := Aside0.mk (show j + 1 ≤ N by omega)
      have hme := Aside0.mk (show N - ((j : Int) + 1).toNat < N - (j : Int).toNat by omega)
      have hlen := Aside0.mk (show ((chS k seed j).1.length + 1) * 40 ≤ 140737488355328 by rw [chS_length]; omega)
      have ew : wrap64 ((j : Int) + 1) = (j : Int) + 1 := by unfold wrap64; omega
      have hr := dr_range (nx_range (chS k seed j).2) (k := 10) (by decide)
      have hst : Aside0 (chS k seed (j + 1) = ((chS k seed j).1 ++ [(chOp k (chS k seed j).2).1], (chOp k (chS k seed j).2).2)) := ⟨rfl⟩
      generalize (chS k seed j).1 = xs at *
      generalize (chS k seed j).2 = x0 at *
      go_wp2_with fail
      refine (Draw_calls _ _ HX.out 10 (by decide)).mono ?_
      rintro _ wd ⟨rfl, rfl⟩
      obtain ⟨cc, hc⟩ : ∃ cc, dr (nx x0) 10 = cc := ⟨_, rfl⟩
      rw [hc] at hr ⊢
      have hten : (cc ≤ 2) ∨ (2 < cc ∧ cc ≤ 4) ∨ (4 < cc ∧ cc ≤ 7) ∨ cc = 8 ∨ cc = 9 := by omega
      clear hr
      rcases hten with h | h | h | h | h
      · have d8 : decide (8 < cc) = false := decide_eq_false (by omega)
        have d7 : decide (7 < cc) = false := decide_eq_false (by omega)
        have d4 : decide (4 < cc) = false := decide_eq_false (by omega)
        have d2 : decide (2 < cc) = false := decide_eq_false (by omega)
        have hop : Aside0 (chOp k x0 = (⟨1, (dr (nx (nx x0)) k), (dr (nx (nx (nx x0))) 3), (dr (nx (nx (nx (nx x0)))) 3), 0⟩, (nx (nx (nx (nx x0)))))) := ⟨by
          rw [chOp_at k x0 cc hc]
          simp only [show (cc ≤ 2) from by omega, if_true, if_false]⟩
        clear h hc
        have Hgb : Aside0 (((wd.alloc (.cells #[.int .i64 k, .int .i64 3, .int .i64 3] 3)).alloc (.cells #[.int .i64 0, .int .i64 0, .int .i64 0] 43)).heap[wd.heap.size]? = some (.cells #[.int .i64 k, .int .i64 3, .int .i64 3] 3 (0, 0))) := ⟨by
          refine (Below.heap_alloc _ _ _ (by simp)).trans ?_
          exact heap_alloc_new wd _⟩
        have Hga : Aside0 (((wd.alloc (.cells #[.int .i64 k, .int .i64 3, .int .i64 3] 3)).alloc (.cells #[.int .i64 0, .int .i64 0, .int .i64 0] 43)).heap[wd.heap.size + 1]? = some (.cells #[.int .i64 0, .int .i64 0, .int .i64 0] 43 (0, 0))) := ⟨by
          have := heap_alloc_new (wd.alloc (.cells #[.int .i64 k, .int .i64 3, .int .i64 3] 3)) (.cells #[.int .i64 0, .int .i64 0, .int .i64 0] 43)
          simpa using this⟩
        have Hbe : Aside0 (Below wd.heap.size wd ((wd.alloc (.cells #[.int .i64 k, .int .i64 3, .int .i64 3] 3)).alloc (.cells #[.int .i64 0, .int .i64 0, .int .i64 0] 43))) := ⟨((Below.refl _ _).alloc (Nat.le_refl _) _).alloc (by simp) _⟩
        go_wp2_with fail
        go_loopw [7, 15] (fun xx jj wq => ((jj = .int .i64 0 ∧ xx = .int .u64 (nx x0) ∧ Aside0 (wq.heap[wd.heap.size + 1]? = some (.cells #[.int .i64 0, .int .i64 0, .int .i64 0] 43 (0, 0)))) ∨ (jj = .int .i64 1 ∧ xx = .int .u64 (nx (nx x0)) ∧ Aside0 (wq.heap[wd.heap.size + 1]? = some (.cells #[.int .i64 (dr (nx (nx x0)) k), .int .i64 0, .int .i64 0] 43 (0, 0)))) ∨ (jj = .int .i64 2 ∧ xx = .int .u64 (nx (nx (nx x0))) ∧ Aside0 (wq.heap[wd.heap.size + 1]? = some (.cells #[.int .i64 (dr (nx (nx x0)) k), .int .i64 (dr (nx (nx (nx x0))) 3), .int .i64 0] 43 (0, 0)))) ∨ (jj = .int .i64 3 ∧ xx = .int .u64 (nx (nx (nx (nx x0)))) ∧ Aside0 (wq.heap[wd.heap.size + 1]? = some (.cells #[.int .i64 (dr (nx (nx x0)) k), .int .i64 (dr (nx (nx (nx x0))) 3), .int .i64 (dr (nx (nx (nx (nx x0)))) 3)] 43 (0, 0))))) ∧ Aside0 (wq.heap[wd.heap.size]? = some (.cells #[.int .i64 k, .int .i64 3, .int .i64 3] 3 (0, 0))) ∧ Aside0 (Below wd.heap.size wd wq)) (fun _ jj _ => 3 - (intOf jj).toNat)
        case atStart => exact ⟨Or.inl ⟨rfl, rfl, Hga⟩, Hgb, Hbe⟩
        case round =>
          clear Hga Hgb Hbe
          obtain ⟨hq, Gb, Be⟩ := hrel
          rcases hq with ⟨rfl, rfl, Ga⟩ | ⟨rfl, rfl, Ga⟩ | ⟨rfl, rfl, Ga⟩ | ⟨rfl, rfl, Ga⟩
          · have cg := row_cell Gb.out 0
            have ca := row_cell Ga.out 0
            have fa := row_free Ga.out 0
            go_wp2_with fail
            refine (Draw_calls _ _ (nx_range _) k HK.out).mono ?_
            rintro _ we ⟨rfl, rfl⟩
            go_wp2_with fail
            go_roundw
            case rel => exact ⟨Or.inr (Or.inl ⟨rfl, rfl, ⟨row_set Ga.out 0 _ rfl⟩⟩), ⟨row_far Gb.out (by simp) _⟩, ⟨Be.out.setCell (by simp <;> omega) _⟩⟩
            case measure => simp [intOf]
          · have cg := row_cell Gb.out 1
            have ca := row_cell Ga.out 1
            have fa := row_free Ga.out 1
            go_wp2_with fail
            refine (Draw_calls _ _ (nx_range _) 3 (by decide)).mono ?_
            rintro _ we ⟨rfl, rfl⟩
            go_wp2_with fail
            go_roundw
            case rel => exact ⟨Or.inr (Or.inr (Or.inl ⟨rfl, rfl, ⟨row_set Ga.out 1 _ rfl⟩⟩)), ⟨row_far Gb.out (by simp) _⟩, ⟨Be.out.setCell (by simp <;> omega) _⟩⟩
            case measure => simp [intOf]
          · have cg := row_cell Gb.out 2
            have ca := row_cell Ga.out 2
            have fa := row_free Ga.out 2
            go_wp2_with fail
            refine (Draw_calls _ _ (nx_range _) 3 (by decide)).mono ?_
            rintro _ we ⟨rfl, rfl⟩
            go_wp2_with fail
            go_roundw
            case rel => exact ⟨Or.inr (Or.inr (Or.inr (⟨rfl, rfl, ⟨row_set Ga.out 2 _ rfl⟩⟩))), ⟨row_far Gb.out (by simp) _⟩, ⟨Be.out.setCell (by simp <;> omega) _⟩⟩
            case measure => simp [intOf]
          · have ca0 := row_cell Ga.out 0
            have ca1 := row_cell Ga.out 1
            have ca2 := row_cell Ga.out 2
            go_wp2_with fail
            refine (o_calls 1 (dr (nx (nx x0)) k) (dr (nx (nx (nx x0))) 3) (dr (nx (nx (nx (nx x0)))) 3) _).mono ?_
            rintro _ w7 ⟨rfl, K7⟩
            have HB7 : Aside0 (Below w.heap.size w w7) := ⟨HB.out.trans ((Be.out.trans (K7.mono Be.out.size)).mono HB.out.size)⟩
            have HR7 : Aside0 (Kd.R k34 34 w7 w.heap.size (fun _ => True) (.slice ad q cp) xs) := ⟨Kd.R_below HR.out (Be.out.trans (K7.mono Be.out.size))⟩
            have HS7 := Aside0.mk HB7.out.size
            clear K7 ca0 ca1 ca2 Ga Gb Be
            go_wp2_with (at_builtin; refine Kd.R_append k34 (w0 := w) w.heap.size rfl (.tmp 72) (.tmp 81) 25 34 z34v 40 rfl Try.underlying25 infoOp rfl (by decide) (by decide) (.slice ad q cp) xs ⟨1, (dr (nx (nx x0)) k), (dr (nx (nx (nx x0))) 3), (dr (nx (nx (nx (nx x0)))) 3), 0⟩ _ (fun _ => True) (fun _ => False) rfl rfl (k34_mkM w7 w.heap.size _ _) (fun _ h => h.elim) (fun _ _ => trivial) HR7.out HB7.out HS7.out hlen.out ?_; intro v1 w8 hR8 hB8 hg8 hat8; have HR8 := Aside0.mk hR8; have HB8 := Aside0.mk hB8; clear hR8 hB8 hg8 hat8)
            have HN : Aside0 (Kd.R k34 34 w8 w.heap.size (fun _ => True) v1 (chS k seed (j + 1)).1) := ⟨by
              rw [hst.out, hop.out]
              exact HR8.out⟩
            have HXN : Aside0 (0 ≤ (chS k seed (j + 1)).2 ∧ (chS k seed (j + 1)).2 < 18446744073709551616) := ⟨by
              rw [hst.out, hop.out]
              exact nx_range _⟩
            have HXE : (chS k seed (j + 1)).2 = (nx (nx (nx (nx x0)))) := by rw [hst.out, hop.out]
            go_roundw
            case rel => exact ⟨j + 1, hj1.out, by first | rfl | simp | (rw [ew]; simp; done), by rw [HXE], HXN, HN, HB8⟩
            case measure =>
              first
                | exact hme.out
                | (simp only [intOf]; exact hme.out)
                | (rw [ew]; simp only [intOf]; exact hme.out)
      · have d8 : decide (8 < cc) = false := decide_eq_false (by omega)
        have d7 : decide (7 < cc) = false := decide_eq_false (by omega)
        have d4 : decide (4 < cc) = false := decide_eq_false (by omega)
        have d2 : decide (2 < cc) = true := decide_eq_true (by omega)
        have hop : Aside0 (chOp k x0 = (⟨2, (dr (nx (nx x0)) k), (dr (nx (nx (nx x0))) k), (dr (nx (nx (nx (nx x0)))) 2), 0⟩, (nx (nx (nx (nx x0)))))) := ⟨by
          rw [chOp_at k x0 cc hc]
          simp only [show (¬ cc ≤ 2) from by omega, show (cc ≤ 4) from by omega, if_true, if_false]⟩
        clear h hc
        have Hgb : Aside0 ((((wd.alloc (.cells #[.int .i64 k, .int .i64 3, .int .i64 3] 3)).alloc (.cells #[.int .i64 k, .int .i64 k, .int .i64 2] 3)).alloc (.cells #[.int .i64 0, .int .i64 0, .int .i64 0] 43)).heap[wd.heap.size + 1]? = some (.cells #[.int .i64 k, .int .i64 k, .int .i64 2] 3 (0, 0))) := ⟨by
          refine (Below.heap_alloc _ _ _ (by simp)).trans ?_
          have := heap_alloc_new (wd.alloc (.cells #[.int .i64 k, .int .i64 3, .int .i64 3] 3)) (.cells #[.int .i64 k, .int .i64 k, .int .i64 2] 3)
          simpa using this⟩
        have Hga : Aside0 ((((wd.alloc (.cells #[.int .i64 k, .int .i64 3, .int .i64 3] 3)).alloc (.cells #[.int .i64 k, .int .i64 k, .int .i64 2] 3)).alloc (.cells #[.int .i64 0, .int .i64 0, .int .i64 0] 43)).heap[wd.heap.size + 2]? = some (.cells #[.int .i64 0, .int .i64 0, .int .i64 0] 43 (0, 0))) := ⟨by
          have := heap_alloc_new ((wd.alloc (.cells #[.int .i64 k, .int .i64 3, .int .i64 3] 3)).alloc (.cells #[.int .i64 k, .int .i64 k, .int .i64 2] 3)) (.cells #[.int .i64 0, .int .i64 0, .int .i64 0] 43)
          simpa using this⟩
        have Hbe : Aside0 (Below wd.heap.size wd (((wd.alloc (.cells #[.int .i64 k, .int .i64 3, .int .i64 3] 3)).alloc (.cells #[.int .i64 k, .int .i64 k, .int .i64 2] 3)).alloc (.cells #[.int .i64 0, .int .i64 0, .int .i64 0] 43))) := ⟨(((Below.refl _ _).alloc (Nat.le_refl _) _).alloc (by simp) _).alloc (by simp; omega) _⟩
        go_wp2_with fail
        go_loopw [7, 15] (fun xx jj wq => ((jj = .int .i64 0 ∧ xx = .int .u64 (nx x0) ∧ Aside0 (wq.heap[wd.heap.size + 2]? = some (.cells #[.int .i64 0, .int .i64 0, .int .i64 0] 43 (0, 0)))) ∨ (jj = .int .i64 1 ∧ xx = .int .u64 (nx (nx x0)) ∧ Aside0 (wq.heap[wd.heap.size + 2]? = some (.cells #[.int .i64 (dr (nx (nx x0)) k), .int .i64 0, .int .i64 0] 43 (0, 0)))) ∨ (jj = .int .i64 2 ∧ xx = .int .u64 (nx (nx (nx x0))) ∧ Aside0 (wq.heap[wd.heap.size + 2]? = some (.cells #[.int .i64 (dr (nx (nx x0)) k), .int .i64 (dr (nx (nx (nx x0))) k), .int .i64 0] 43 (0, 0)))) ∨ (jj = .int .i64 3 ∧ xx = .int .u64 (nx (nx (nx (nx x0)))) ∧ Aside0 (wq.heap[wd.heap.size + 2]? = some (.cells #[.int .i64 (dr (nx (nx x0)) k), .int .i64 (dr (nx (nx (nx x0))) k), .int .i64 (dr (nx (nx (nx (nx x0)))) 2)] 43 (0, 0))))) ∧ Aside0 (wq.heap[wd.heap.size + 1]? = some (.cells #[.int .i64 k, .int .i64 k, .int .i64 2] 3 (0, 0))) ∧ Aside0 (Below wd.heap.size wd wq)) (fun _ jj _ => 3 - (intOf jj).toNat)
        case atStart => exact ⟨Or.inl ⟨rfl, rfl, Hga⟩, Hgb, Hbe⟩
        case round =>
          clear Hga Hgb Hbe
          obtain ⟨hq, Gb, Be⟩ := hrel
          rcases hq with ⟨rfl, rfl, Ga⟩ | ⟨rfl, rfl, Ga⟩ | ⟨rfl, rfl, Ga⟩ | ⟨rfl, rfl, Ga⟩
          · have cg := row_cell Gb.out 0
            have ca := row_cell Ga.out 0
            have fa := row_free Ga.out 0
            go_wp2_with fail
            refine (Draw_calls _ _ (nx_range _) k HK.out).mono ?_
            rintro _ we ⟨rfl, rfl⟩
            go_wp2_with fail
            go_roundw
            case rel => exact ⟨Or.inr (Or.inl ⟨rfl, rfl, ⟨row_set Ga.out 0 _ rfl⟩⟩), ⟨row_far Gb.out (by simp) _⟩, ⟨Be.out.setCell (by simp <;> omega) _⟩⟩
            case measure => simp [intOf]
          · have cg := row_cell Gb.out 1
            have ca := row_cell Ga.out 1
            have fa := row_free Ga.out 1
            go_wp2_with fail
            refine (Draw_calls _ _ (nx_range _) k HK.out).mono ?_
            rintro _ we ⟨rfl, rfl⟩
            go_wp2_with fail
            go_roundw
            case rel => exact ⟨Or.inr (Or.inr (Or.inl ⟨rfl, rfl, ⟨row_set Ga.out 1 _ rfl⟩⟩)), ⟨row_far Gb.out (by simp) _⟩, ⟨Be.out.setCell (by simp <;> omega) _⟩⟩
            case measure => simp [intOf]
          · have cg := row_cell Gb.out 2
            have ca := row_cell Ga.out 2
            have fa := row_free Ga.out 2
            go_wp2_with fail
            refine (Draw_calls _ _ (nx_range _) 2 (by decide)).mono ?_
            rintro _ we ⟨rfl, rfl⟩
            go_wp2_with fail
            go_roundw
            case rel => exact ⟨Or.inr (Or.inr (Or.inr (⟨rfl, rfl, ⟨row_set Ga.out 2 _ rfl⟩⟩))), ⟨row_far Gb.out (by simp) _⟩, ⟨Be.out.setCell (by simp <;> omega) _⟩⟩
            case measure => simp [intOf]
          · have ca0 := row_cell Ga.out 0
            have ca1 := row_cell Ga.out 1
            have ca2 := row_cell Ga.out 2
            go_wp2_with fail
            refine (o_calls 2 (dr (nx (nx x0)) k) (dr (nx (nx (nx x0))) k) (dr (nx (nx (nx (nx x0)))) 2) _).mono ?_
            rintro _ w7 ⟨rfl, K7⟩
            have HB7 : Aside0 (Below w.heap.size w w7) := ⟨HB.out.trans ((Be.out.trans (K7.mono Be.out.size)).mono HB.out.size)⟩
            have HR7 : Aside0 (Kd.R k34 34 w7 w.heap.size (fun _ => True) (.slice ad q cp) xs) := ⟨Kd.R_below HR.out (Be.out.trans (K7.mono Be.out.size))⟩
            have HS7 := Aside0.mk HB7.out.size
            clear K7 ca0 ca1 ca2 Ga Gb Be
            go_wp2_with (at_builtin; refine Kd.R_append k34 (w0 := w) w.heap.size rfl (.tmp 72) (.tmp 81) 25 34 z34v 40 rfl Try.underlying25 infoOp rfl (by decide) (by decide) (.slice ad q cp) xs ⟨2, (dr (nx (nx x0)) k), (dr (nx (nx (nx x0))) k), (dr (nx (nx (nx (nx x0)))) 2), 0⟩ _ (fun _ => True) (fun _ => False) rfl rfl (k34_mkM w7 w.heap.size _ _) (fun _ h => h.elim) (fun _ _ => trivial) HR7.out HB7.out HS7.out hlen.out ?_; intro v1 w8 hR8 hB8 hg8 hat8; have HR8 := Aside0.mk hR8; have HB8 := Aside0.mk hB8; clear hR8 hB8 hg8 hat8)
            have HN : Aside0 (Kd.R k34 34 w8 w.heap.size (fun _ => True) v1 (chS k seed (j + 1)).1) := ⟨by
              rw [hst.out, hop.out]
              exact HR8.out⟩
            have HXN : Aside0 (0 ≤ (chS k seed (j + 1)).2 ∧ (chS k seed (j + 1)).2 < 18446744073709551616) := ⟨by
              rw [hst.out, hop.out]
              exact nx_range _⟩
            have HXE : (chS k seed (j + 1)).2 = (nx (nx (nx (nx x0)))) := by rw [hst.out, hop.out]
            go_roundw
            case rel => exact ⟨j + 1, hj1.out, by first | rfl | simp | (rw [ew]; simp; done), by rw [HXE], HXN, HN, HB8⟩
            case measure =>
              first
                | exact hme.out
                | (simp only [intOf]; exact hme.out)
                | (rw [ew]; simp only [intOf]; exact hme.out)
      · have d8 : decide (8 < cc) = false := decide_eq_false (by omega)
        have d7 : decide (7 < cc) = false := decide_eq_false (by omega)
        have d4 : decide (4 < cc) = true := decide_eq_true (by omega)
        have d2 : decide (2 < cc) = true := decide_eq_true (by omega)
        have hop : Aside0 (chOp k x0 = (⟨3, (dr (nx (nx x0)) k), (dr (nx (nx (nx x0))) 2), (dr (nx (nx (nx (nx x0)))) k), 0⟩, (nx (nx (nx (nx x0)))))) := ⟨by
          rw [chOp_at k x0 cc hc]
          simp only [show (¬ cc ≤ 2) from by omega, show (¬ cc ≤ 4) from by omega, show (cc ≤ 7) from by omega, if_true, if_false]⟩
        clear h hc
        have Hgb : Aside0 ((((wd.alloc (.cells #[.int .i64 k, .int .i64 3, .int .i64 3] 3)).alloc (.cells #[.int .i64 k, .int .i64 2, .int .i64 k] 3)).alloc (.cells #[.int .i64 0, .int .i64 0, .int .i64 0] 43)).heap[wd.heap.size + 1]? = some (.cells #[.int .i64 k, .int .i64 2, .int .i64 k] 3 (0, 0))) := ⟨by
          refine (Below.heap_alloc _ _ _ (by simp)).trans ?_
          have := heap_alloc_new (wd.alloc (.cells #[.int .i64 k, .int .i64 3, .int .i64 3] 3)) (.cells #[.int .i64 k, .int .i64 2, .int .i64 k] 3)
          simpa using this⟩
        have Hga : Aside0 ((((wd.alloc (.cells #[.int .i64 k, .int .i64 3, .int .i64 3] 3)).alloc (.cells #[.int .i64 k, .int .i64 2, .int .i64 k] 3)).alloc (.cells #[.int .i64 0, .int .i64 0, .int .i64 0] 43)).heap[wd.heap.size + 2]? = some (.cells #[.int .i64 0, .int .i64 0, .int .i64 0] 43 (0, 0))) := ⟨by
          have := heap_alloc_new ((wd.alloc (.cells #[.int .i64 k, .int .i64 3, .int .i64 3] 3)).alloc (.cells #[.int .i64 k, .int .i64 2, .int .i64 k] 3)) (.cells #[.int .i64 0, .int .i64 0, .int .i64 0] 43)
          simpa using this⟩
        have Hbe : Aside0 (Below wd.heap.size wd (((wd.alloc (.cells #[.int .i64 k, .int .i64 3, .int .i64 3] 3)).alloc (.cells #[.int .i64 k, .int .i64 2, .int .i64 k] 3)).alloc (.cells #[.int .i64 0, .int .i64 0, .int .i64 0] 43))) := ⟨(((Below.refl _ _).alloc (Nat.le_refl _) _).alloc (by simp) _).alloc (by simp; omega) _⟩
        go_wp2_with fail
        go_loopw [7, 15] (fun xx jj wq => ((jj = .int .i64 0 ∧ xx = .int .u64 (nx x0) ∧ Aside0 (wq.heap[wd.heap.size + 2]? = some (.cells #[.int .i64 0, .int .i64 0, .int .i64 0] 43 (0, 0)))) ∨ (jj = .int .i64 1 ∧ xx = .int .u64 (nx (nx x0)) ∧ Aside0 (wq.heap[wd.heap.size + 2]? = some (.cells #[.int .i64 (dr (nx (nx x0)) k), .int .i64 0, .int .i64 0] 43 (0, 0)))) ∨ (jj = .int .i64 2 ∧ xx = .int .u64 (nx (nx (nx x0))) ∧ Aside0 (wq.heap[wd.heap.size + 2]? = some (.cells #[.int .i64 (dr (nx (nx x0)) k), .int .i64 (dr (nx (nx (nx x0))) 2), .int .i64 0] 43 (0, 0)))) ∨ (jj = .int .i64 3 ∧ xx = .int .u64 (nx (nx (nx (nx x0)))) ∧ Aside0 (wq.heap[wd.heap.size + 2]? = some (.cells #[.int .i64 (dr (nx (nx x0)) k), .int .i64 (dr (nx (nx (nx x0))) 2), .int .i64 (dr (nx (nx (nx (nx x0)))) k)] 43 (0, 0))))) ∧ Aside0 (wq.heap[wd.heap.size + 1]? = some (.cells #[.int .i64 k, .int .i64 2, .int .i64 k] 3 (0, 0))) ∧ Aside0 (Below wd.heap.size wd wq)) (fun _ jj _ => 3 - (intOf jj).toNat)
        case atStart => exact ⟨Or.inl ⟨rfl, rfl, Hga⟩, Hgb, Hbe⟩
        case round =>
          clear Hga Hgb Hbe
          obtain ⟨hq, Gb, Be⟩ := hrel
          rcases hq with ⟨rfl, rfl, Ga⟩ | ⟨rfl, rfl, Ga⟩ | ⟨rfl, rfl, Ga⟩ | ⟨rfl, rfl, Ga⟩
          · have cg := row_cell Gb.out 0
            have ca := row_cell Ga.out 0
            have fa := row_free Ga.out 0
            go_wp2_with fail
            refine (Draw_calls _ _ (nx_range _) k HK.out).mono ?_
            rintro _ we ⟨rfl, rfl⟩
            go_wp2_with fail
            go_roundw
            case rel => exact ⟨Or.inr (Or.inl ⟨rfl, rfl, ⟨row_set Ga.out 0 _ rfl⟩⟩), ⟨row_far Gb.out (by simp) _⟩, ⟨Be.out.setCell (by simp <;> omega) _⟩⟩
            case measure => simp [intOf]
          · have cg := row_cell Gb.out 1
            have ca := row_cell Ga.out 1
            have fa := row_free Ga.out 1
            go_wp2_with fail
            refine (Draw_calls _ _ (nx_range _) 2 (by decide)).mono ?_
            rintro _ we ⟨rfl, rfl⟩
            go_wp2_with fail
            go_roundw
            case rel => exact ⟨Or.inr (Or.inr (Or.inl ⟨rfl, rfl, ⟨row_set Ga.out 1 _ rfl⟩⟩)), ⟨row_far Gb.out (by simp) _⟩, ⟨Be.out.setCell (by simp <;> omega) _⟩⟩
            case measure => simp [intOf]
          · have cg := row_cell Gb.out 2
            have ca := row_cell Ga.out 2
            have fa := row_free Ga.out 2
            go_wp2_with fail
            refine (Draw_calls _ _ (nx_range _) k HK.out).mono ?_
            rintro _ we ⟨rfl, rfl⟩
            go_wp2_with fail
            go_roundw
            case rel => exact ⟨Or.inr (Or.inr (Or.inr (⟨rfl, rfl, ⟨row_set Ga.out 2 _ rfl⟩⟩))), ⟨row_far Gb.out (by simp) _⟩, ⟨Be.out.setCell (by simp <;> omega) _⟩⟩
            case measure => simp [intOf]
          · have ca0 := row_cell Ga.out 0
            have ca1 := row_cell Ga.out 1
            have ca2 := row_cell Ga.out 2
            go_wp2_with fail
            refine (o_calls 3 (dr (nx (nx x0)) k) (dr (nx (nx (nx x0))) 2) (dr (nx (nx (nx (nx x0)))) k) _).mono ?_
            rintro _ w7 ⟨rfl, K7⟩
            have HB7 : Aside0 (Below w.heap.size w w7) := ⟨HB.out.trans ((Be.out.trans (K7.mono Be.out.size)).mono HB.out.size)⟩
            have HR7 : Aside0 (Kd.R k34 34 w7 w.heap.size (fun _ => True) (.slice ad q cp) xs) := ⟨Kd.R_below HR.out (Be.out.trans (K7.mono Be.out.size))⟩
            have HS7 := Aside0.mk HB7.out.size
            clear K7 ca0 ca1 ca2 Ga Gb Be
            go_wp2_with (at_builtin; refine Kd.R_append k34 (w0 := w) w.heap.size rfl (.tmp 72) (.tmp 81) 25 34 z34v 40 rfl Try.underlying25 infoOp rfl (by decide) (by decide) (.slice ad q cp) xs ⟨3, (dr (nx (nx x0)) k), (dr (nx (nx (nx x0))) 2), (dr (nx (nx (nx (nx x0)))) k), 0⟩ _ (fun _ => True) (fun _ => False) rfl rfl (k34_mkM w7 w.heap.size _ _) (fun _ h => h.elim) (fun _ _ => trivial) HR7.out HB7.out HS7.out hlen.out ?_; intro v1 w8 hR8 hB8 hg8 hat8; have HR8 := Aside0.mk hR8; have HB8 := Aside0.mk hB8; clear hR8 hB8 hg8 hat8)
            have HN : Aside0 (Kd.R k34 34 w8 w.heap.size (fun _ => True) v1 (chS k seed (j + 1)).1) := ⟨by
              rw [hst.out, hop.out]
              exact HR8.out⟩
            have HXN : Aside0 (0 ≤ (chS k seed (j + 1)).2 ∧ (chS k seed (j + 1)).2 < 18446744073709551616) := ⟨by
              rw [hst.out, hop.out]
              exact nx_range _⟩
            have HXE : (chS k seed (j + 1)).2 = (nx (nx (nx (nx x0)))) := by rw [hst.out, hop.out]
            go_roundw
            case rel => exact ⟨j + 1, hj1.out, by first | rfl | simp | (rw [ew]; simp; done), by rw [HXE], HXN, HN, HB8⟩
            case measure =>
              first
                | exact hme.out
                | (simp only [intOf]; exact hme.out)
                | (rw [ew]; simp only [intOf]; exact hme.out)
      · have d8 : decide (8 < cc) = false := decide_eq_false (by omega)
        have d7 : decide (7 < cc) = true := decide_eq_true (by omega)
        have d4 : decide (4 < cc) = true := decide_eq_true (by omega)
        have d2 : decide (2 < cc) = true := decide_eq_true (by omega)
        have hop : Aside0 (chOp k x0 = (⟨6, (dr (nx (nx x0)) k), (dr (nx (nx (nx x0))) k), 0, 0⟩, (nx (nx (nx x0))))) := ⟨by
          rw [chOp_at k x0 cc hc]
          simp only [show (¬ cc ≤ 2) from by omega, show (¬ cc ≤ 4) from by omega, show (¬ cc ≤ 7) from by omega, show (cc ≤ 8) from by omega, if_true, if_false]⟩
        clear h hc
        have Hgb : Aside0 ((((wd.alloc (.cells #[.int .i64 k, .int .i64 3, .int .i64 3] 3)).alloc (.cells #[.int .i64 k, .int .i64 k] 3)).alloc (.cells #[.int .i64 0, .int .i64 0, .int .i64 0] 43)).heap[wd.heap.size + 1]? = some (.cells #[.int .i64 k, .int .i64 k] 3 (0, 0))) := ⟨by
          refine (Below.heap_alloc _ _ _ (by simp)).trans ?_
          have := heap_alloc_new (wd.alloc (.cells #[.int .i64 k, .int .i64 3, .int .i64 3] 3)) (.cells #[.int .i64 k, .int .i64 k] 3)
          simpa using this⟩
        have Hga : Aside0 ((((wd.alloc (.cells #[.int .i64 k, .int .i64 3, .int .i64 3] 3)).alloc (.cells #[.int .i64 k, .int .i64 k] 3)).alloc (.cells #[.int .i64 0, .int .i64 0, .int .i64 0] 43)).heap[wd.heap.size + 2]? = some (.cells #[.int .i64 0, .int .i64 0, .int .i64 0] 43 (0, 0))) := ⟨by
          have := heap_alloc_new ((wd.alloc (.cells #[.int .i64 k, .int .i64 3, .int .i64 3] 3)).alloc (.cells #[.int .i64 k, .int .i64 k] 3)) (.cells #[.int .i64 0, .int .i64 0, .int .i64 0] 43)
          simpa using this⟩
        have Hbe : Aside0 (Below wd.heap.size wd (((wd.alloc (.cells #[.int .i64 k, .int .i64 3, .int .i64 3] 3)).alloc (.cells #[.int .i64 k, .int .i64 k] 3)).alloc (.cells #[.int .i64 0, .int .i64 0, .int .i64 0] 43))) := ⟨(((Below.refl _ _).alloc (Nat.le_refl _) _).alloc (by simp) _).alloc (by simp; omega) _⟩
        go_wp2_with fail
        go_loopw [7, 15] (fun xx jj wq => ((jj = .int .i64 0 ∧ xx = .int .u64 (nx x0) ∧ Aside0 (wq.heap[wd.heap.size + 2]? = some (.cells #[.int .i64 0, .int .i64 0, .int .i64 0] 43 (0, 0)))) ∨ (jj = .int .i64 1 ∧ xx = .int .u64 (nx (nx x0)) ∧ Aside0 (wq.heap[wd.heap.size + 2]? = some (.cells #[.int .i64 (dr (nx (nx x0)) k), .int .i64 0, .int .i64 0] 43 (0, 0)))) ∨ (jj = .int .i64 2 ∧ xx = .int .u64 (nx (nx (nx x0))) ∧ Aside0 (wq.heap[wd.heap.size + 2]? = some (.cells #[.int .i64 (dr (nx (nx x0)) k), .int .i64 (dr (nx (nx (nx x0))) k), .int .i64 0] 43 (0, 0))))) ∧ Aside0 (wq.heap[wd.heap.size + 1]? = some (.cells #[.int .i64 k, .int .i64 k] 3 (0, 0))) ∧ Aside0 (Below wd.heap.size wd wq)) (fun _ jj _ => 2 - (intOf jj).toNat)
        case atStart => exact ⟨Or.inl ⟨rfl, rfl, Hga⟩, Hgb, Hbe⟩
        case round =>
          clear Hga Hgb Hbe
          obtain ⟨hq, Gb, Be⟩ := hrel
          rcases hq with ⟨rfl, rfl, Ga⟩ | ⟨rfl, rfl, Ga⟩ | ⟨rfl, rfl, Ga⟩
          · have cg := row_cell Gb.out 0
            have ca := row_cell Ga.out 0
            have fa := row_free Ga.out 0
            go_wp2_with fail
            refine (Draw_calls _ _ (nx_range _) k HK.out).mono ?_
            rintro _ we ⟨rfl, rfl⟩
            go_wp2_with fail
            go_roundw
            case rel => exact ⟨Or.inr (Or.inl ⟨rfl, rfl, ⟨row_set Ga.out 0 _ rfl⟩⟩), ⟨row_far Gb.out (by simp) _⟩, ⟨Be.out.setCell (by simp <;> omega) _⟩⟩
            case measure => simp [intOf]
          · have cg := row_cell Gb.out 1
            have ca := row_cell Ga.out 1
            have fa := row_free Ga.out 1
            go_wp2_with fail
            refine (Draw_calls _ _ (nx_range _) k HK.out).mono ?_
            rintro _ we ⟨rfl, rfl⟩
            go_wp2_with fail
            go_roundw
            case rel => exact ⟨Or.inr (Or.inr (⟨rfl, rfl, ⟨row_set Ga.out 1 _ rfl⟩⟩)), ⟨row_far Gb.out (by simp) _⟩, ⟨Be.out.setCell (by simp <;> omega) _⟩⟩
            case measure => simp [intOf]
          · have ca0 := row_cell Ga.out 0
            have ca1 := row_cell Ga.out 1
            have ca2 := row_cell Ga.out 2
            go_wp2_with fail
            refine (o_calls 6 (dr (nx (nx x0)) k) (dr (nx (nx (nx x0))) k) 0 _).mono ?_
            rintro _ w7 ⟨rfl, K7⟩
            have HB7 : Aside0 (Below w.heap.size w w7) := ⟨HB.out.trans ((Be.out.trans (K7.mono Be.out.size)).mono HB.out.size)⟩
            have HR7 : Aside0 (Kd.R k34 34 w7 w.heap.size (fun _ => True) (.slice ad q cp) xs) := ⟨Kd.R_below HR.out (Be.out.trans (K7.mono Be.out.size))⟩
            have HS7 := Aside0.mk HB7.out.size
            clear K7 ca0 ca1 ca2 Ga Gb Be
            go_wp2_with (at_builtin; refine Kd.R_append k34 (w0 := w) w.heap.size rfl (.tmp 72) (.tmp 81) 25 34 z34v 40 rfl Try.underlying25 infoOp rfl (by decide) (by decide) (.slice ad q cp) xs ⟨6, (dr (nx (nx x0)) k), (dr (nx (nx (nx x0))) k), 0, 0⟩ _ (fun _ => True) (fun _ => False) rfl rfl (k34_mkM w7 w.heap.size _ _) (fun _ h => h.elim) (fun _ _ => trivial) HR7.out HB7.out HS7.out hlen.out ?_; intro v1 w8 hR8 hB8 hg8 hat8; have HR8 := Aside0.mk hR8; have HB8 := Aside0.mk hB8; clear hR8 hB8 hg8 hat8)
            have HN : Aside0 (Kd.R k34 34 w8 w.heap.size (fun _ => True) v1 (chS k seed (j + 1)).1) := ⟨by
              rw [hst.out, hop.out]
              exact HR8.out⟩
            have HXN : Aside0 (0 ≤ (chS k seed (j + 1)).2 ∧ (chS k seed (j + 1)).2 < 18446744073709551616) := ⟨by
              rw [hst.out, hop.out]
              exact nx_range _⟩
            have HXE : (chS k seed (j + 1)).2 = (nx (nx (nx x0))) := by rw [hst.out, hop.out]
            go_roundw
            case rel => exact ⟨j + 1, hj1.out, by first | rfl | simp | (rw [ew]; simp; done), by rw [HXE], HXN, HN, HB8⟩
            case measure =>
              first
                | exact hme.out
                | (simp only [intOf]; exact hme.out)
                | (rw [ew]; simp only [intOf]; exact hme.out)
      · have d8 : decide (8 < cc) = true := decide_eq_true (by omega)
        have d7 : decide (7 < cc) = true := decide_eq_true (by omega)
        have d4 : decide (4 < cc) = true := decide_eq_true (by omega)
        have d2 : decide (2 < cc) = true := decide_eq_true (by omega)
        have hop : Aside0 (chOp k x0 = (⟨7, (dr (nx (nx x0)) k), 0, 0, 0⟩, (nx (nx x0)))) := ⟨by
          rw [chOp_at k x0 cc hc]
          simp only [show (¬ cc ≤ 2) from by omega, show (¬ cc ≤ 4) from by omega, show (¬ cc ≤ 7) from by omega, show (¬ cc ≤ 8) from by omega, if_true, if_false]⟩
        clear h hc
        have Hgb : Aside0 ((((wd.alloc (.cells #[.int .i64 k, .int .i64 3, .int .i64 3] 3)).alloc (.cells #[.int .i64 k] 3)).alloc (.cells #[.int .i64 0, .int .i64 0, .int .i64 0] 43)).heap[wd.heap.size + 1]? = some (.cells #[.int .i64 k] 3 (0, 0))) := ⟨by
          refine (Below.heap_alloc _ _ _ (by simp)).trans ?_
          have := heap_alloc_new (wd.alloc (.cells #[.int .i64 k, .int .i64 3, .int .i64 3] 3)) (.cells #[.int .i64 k] 3)
          simpa using this⟩
        have Hga : Aside0 ((((wd.alloc (.cells #[.int .i64 k, .int .i64 3, .int .i64 3] 3)).alloc (.cells #[.int .i64 k] 3)).alloc (.cells #[.int .i64 0, .int .i64 0, .int .i64 0] 43)).heap[wd.heap.size + 2]? = some (.cells #[.int .i64 0, .int .i64 0, .int .i64 0] 43 (0, 0))) := ⟨by
          have := heap_alloc_new ((wd.alloc (.cells #[.int .i64 k, .int .i64 3, .int .i64 3] 3)).alloc (.cells #[.int .i64 k] 3)) (.cells #[.int .i64 0, .int .i64 0, .int .i64 0] 43)
          simpa using this⟩
        have Hbe : Aside0 (Below wd.heap.size wd (((wd.alloc (.cells #[.int .i64 k, .int .i64 3, .int .i64 3] 3)).alloc (.cells #[.int .i64 k] 3)).alloc (.cells #[.int .i64 0, .int .i64 0, .int .i64 0] 43))) := ⟨(((Below.refl _ _).alloc (Nat.le_refl _) _).alloc (by simp) _).alloc (by simp; omega) _⟩
        go_wp2_with fail
        go_loopw [7, 15] (fun xx jj wq => ((jj = .int .i64 0 ∧ xx = .int .u64 (nx x0) ∧ Aside0 (wq.heap[wd.heap.size + 2]? = some (.cells #[.int .i64 0, .int .i64 0, .int .i64 0] 43 (0, 0)))) ∨ (jj = .int .i64 1 ∧ xx = .int .u64 (nx (nx x0)) ∧ Aside0 (wq.heap[wd.heap.size + 2]? = some (.cells #[.int .i64 (dr (nx (nx x0)) k), .int .i64 0, .int .i64 0] 43 (0, 0))))) ∧ Aside0 (wq.heap[wd.heap.size + 1]? = some (.cells #[.int .i64 k] 3 (0, 0))) ∧ Aside0 (Below wd.heap.size wd wq)) (fun _ jj _ => 1 - (intOf jj).toNat)
        case atStart => exact ⟨Or.inl ⟨rfl, rfl, Hga⟩, Hgb, Hbe⟩
        case round =>
          clear Hga Hgb Hbe
          obtain ⟨hq, Gb, Be⟩ := hrel
          rcases hq with ⟨rfl, rfl, Ga⟩ | ⟨rfl, rfl, Ga⟩
          · have cg := row_cell Gb.out 0
            have ca := row_cell Ga.out 0
            have fa := row_free Ga.out 0
            go_wp2_with fail
            refine (Draw_calls _ _ (nx_range _) k HK.out).mono ?_
            rintro _ we ⟨rfl, rfl⟩
            go_wp2_with fail
            go_roundw
            case rel => exact ⟨Or.inr (⟨rfl, rfl, ⟨row_set Ga.out 0 _ rfl⟩⟩), ⟨row_far Gb.out (by simp) _⟩, ⟨Be.out.setCell (by simp <;> omega) _⟩⟩
            case measure => simp [intOf]
          · have ca0 := row_cell Ga.out 0
            have ca1 := row_cell Ga.out 1
            have ca2 := row_cell Ga.out 2
            go_wp2_with fail
            refine (o_calls 7 (dr (nx (nx x0)) k) 0 0 _).mono ?_
            rintro _ w7 ⟨rfl, K7⟩
            have HB7 : Aside0 (Below w.heap.size w w7) := ⟨HB.out.trans ((Be.out.trans (K7.mono Be.out.size)).mono HB.out.size)⟩
            have HR7 : Aside0 (Kd.R k34 34 w7 w.heap.size (fun _ => True) (.slice ad q cp) xs) := ⟨Kd.R_below HR.out (Be.out.trans (K7.mono Be.out.size))⟩
            have HS7 := Aside0.mk HB7.out.size
            clear K7 ca0 ca1 ca2 Ga Gb Be
            go_wp2_with (at_builtin; refine Kd.R_append k34 (w0 := w) w.heap.size rfl (.tmp 72) (.tmp 81) 25 34 z34v 40 rfl Try.underlying25 infoOp rfl (by decide) (by decide) (.slice ad q cp) xs ⟨7, (dr (nx (nx x0)) k), 0, 0, 0⟩ _ (fun _ => True) (fun _ => False) rfl rfl (k34_mkM w7 w.heap.size _ _) (fun _ h => h.elim) (fun _ _ => trivial) HR7.out HB7.out HS7.out hlen.out ?_; intro v1 w8 hR8 hB8 hg8 hat8; have HR8 := Aside0.mk hR8; have HB8 := Aside0.mk hB8; clear hR8 hB8 hg8 hat8)
            have HN : Aside0 (Kd.R k34 34 w8 w.heap.size (fun _ => True) v1 (chS k seed (j + 1)).1) := ⟨by
              rw [hst.out, hop.out]
              exact HR8.out⟩
            have HXN : Aside0 (0 ≤ (chS k seed (j + 1)).2 ∧ (chS k seed (j + 1)).2 < 18446744073709551616) := ⟨by
              rw [hst.out, hop.out]
              exact nx_range _⟩
            have HXE : (chS k seed (j + 1)).2 = (nx (nx x0)) := by rw [hst.out, hop.out]
            go_roundw
            case rel => exact ⟨j + 1, hj1.out, by first | rfl | simp | (rw [ew]; simp; done), by rw [HXE], HXN, HN, HB8⟩
            case measure =>
              first
                | exact hme.out
                | (simp only [intOf]; exact hme.out)
                | (rw [ew]; simp only [intOf]; exact hme.out)
    · have cb : decide ((j : Int) < (N : Int)) = false := decide_eq_false (by omega)
      obtain rfl : j = N := by omega
      go_wp2_with fail
      go_ret
      exact ⟨_, rfl, HR.out, HB.out⟩
end Go.Proofs.Ytampnfmhmonebaa.QWorkShapes
