/- What work.Ring does. -/
import Derived.Test.YtampnfmhmonebaaApp
namespace Go.Proofs.Ytampnfmhmonebaa.QWorkShapes
open Go.RowKit Go.Proofs.YtampnfmhmonebaaW.PrintWords Go.Proofs.YtampnfmhmonebaaW.PrintLast Go.Proofs.YtampnfmhmonebaaW.PrintMore
set_option linter.unusedVariables false
set_option linter.unusedSimpArgs false
set_option maxRecDepth 100000
set_option maxHeartbeats 1600000

def listAll (n : Int) : List S34 := listN (clampI n 0 1000).toNat ++ [⟨7, 1, 0, 0, 0⟩]
def ringAll (n : Int) : List S34 := if n < 1 then listAll n else (listAll n).take 4 ++ [⟨6, 2, 0, 0, 0⟩] ++ (listAll n).drop 4 ++ [⟨3, 2, 0, 0, 0⟩] ++ [⟨7, 2, 0, 0, 0⟩]

theorem listAll_length (n : Int) : (listAll n).length ≤ 4001 := by
  have := clampI_range n (hi := 1000) (by decide)
  simp only [listAll, List.length_append, listN_length, List.length_cons, List.length_nil]
  omega
theorem listAll_long (n : Int) (h : ¬ n < 1) : 5 ≤ (listAll n).length := by
  have : 1 ≤ clampI n 0 1000 := by unfold clampI; split <;> omega
  simp only [listAll, List.length_append, listN_length, List.length_cons, List.length_nil]
  omega

theorem Scr_append {w w1 : World} {base b : Nat} {xs : List S34} : True := trivial

theorem Ring_calls (n : Int) (w : World) :
    Calls Try.prog 11 #[.int .i64 n] w fun e w' => ∃ v, e = .returned v ∧ Kd.R k34 34 w' w.heap.size (fun _ => True) v (ringAll n) ∧ Below w.heap.size w w' := by
  have HL := listAll_length n
  by_cases c : n < 1
  · have cb : decide (n < 1) = true := decide_eq_true c
    have er : ringAll n = listAll n := if_pos c
    go_enter Try.func11, Try.ntmps11
    go_wp2_with fail
    refine (List_calls n w).mono ?_
    rintro _ w1 ⟨v, rfl, HR, HB⟩
    have HR := Aside0.mk HR
    have HB := Aside0.mk HB
    go_wp2_with fail
    go_ret
    exact ⟨_, rfl, er ▸ HR.out, HB.out⟩
  · have cb : decide (n < 1) = false := decide_eq_false c
    have er : ringAll n = (listAll n).take 4 ++ [⟨6, 2, 0, 0, 0⟩] ++ (listAll n).drop 4 ++ [⟨3, 2, 0, 0, 0⟩] ++ [⟨7, 2, 0, 0, 0⟩] := if_neg c
    have h5 := listAll_long n c
    rw [er]
    have hList := Aside0.mk (List_calls n w)
    change Aside0 (Calls Try.prog 9 #[.int .i64 n] w fun e w' => ∃ v, e = .returned v ∧ Kd.R k34 34 w' w.heap.size (fun _ => True) v (listAll n) ∧ Below w.heap.size w w') at hList
    revert hList
    generalize listAll n = l at *
    intro hList
    go_enter Try.func11, Try.ntmps11
    go_wp2_with fail
    refine hList.out.mono ?_
    clear hList
    rintro _ w1 ⟨v, rfl, HR, HB⟩
    obtain ⟨A, cp, rfl, hcp, hC⟩ := Kd.R_reads HR
    obtain ⟨i34, hi34, _, hsz34, _⟩ := info_parts info34
    obtain ⟨N4, hN4⟩ : ∃ N4, N4 = l.length - 4 := ⟨_, rfl⟩
    obtain ⟨C4, hC4⟩ : ∃ C4, C4 = cp - 4 := ⟨_, rfl⟩
    obtain ⟨A2, hA2⟩ : ∃ A2, A2 = (if cp = 4 then A else A.map (·.add (4 * 5))) := ⟨_, rfl⟩
    have hc1 : ∀ W, (Instr.slice 25 (.slice A l.length cp) none (some (.int .i64 4)) none).run Try.prog W = .ok (.slice A 4 cp) W := cut_to (P := Try.prog) 25 34 .i64 Try.underlying25 hi34 A l.length cp 4 (by omega) (by omega) hcp
    have hc2 : ∀ W, (Instr.slice 25 (.slice A l.length cp) (some (.int .i64 4)) none none).run Try.prog W = .ok (.slice A2 N4 C4) W := by
      rw [hA2, hN4, hC4]
      exact cut_from (P := Try.prog) 25 34 .i64 Try.underlying25 hi34 5 hsz34 A l.length cp 4 (by omega) (by omega)
    have hC1 : ∀ W, Below w1.heap.size w1 W → Kd.C k34 W A 4 (l.take 4) := fun W hW => by
      have h := Kd.C_take (m := 4) (Kd.R_reads' (Kd.R_below HR hW)).2.2 (by omega)
      rwa [show (l.take 4).length = 4 from by rw [List.length_take]; omega] at h
    have hC2 : ∀ W, Below w1.heap.size w1 W → Kd.C k34 W A2 N4 (l.drop 4) := fun W hW => by
      have h := Kd.C_drop (m := 4) (Kd.R_reads' (Kd.R_below HR hW)).2.2 (by omega) hcp
      rwa [show (l.drop 4).length = N4 from by rw [List.length_drop, hN4], show k34.sz = 5 from rfl, ← hA2] at h
    have HC1 := Aside0.mk hC1
    have HC2 := Aside0.mk hC2
    have HB := Aside0.mk HB
    have HN4 := Aside0.mk hN4
    clear hC1 hC2 hN4 hC4 hA2 hi34 hsz34 hC HR
    have Hb0 : Aside0 ((w1.alloc (.cells #[.slice none 0 0] 37)).heap[w1.heap.size]? = some (.cells #[.slice none 0 0] 37 (0, 0))) := ⟨heap_alloc_new w1 _⟩
    have HB0 : Aside0 (Below w1.heap.size w1 (w1.alloc (.cells #[.slice none 0 0] 37)).drew) := ⟨((Below.refl _ w1).alloc (Nat.le_refl _) _).drew⟩
    obtain ⟨W5, eW⟩ : ∃ W5, W5 = w1.alloc (.cells #[.slice none 0 0] 37) := ⟨_, rfl⟩
    have HES : Aside0 (w1.heap.size < W5.heap.size) := ⟨by rw [eW]; simp⟩
    go_upto_region 5 with fail
    rw [← eW]
    rw [← eW] at Hb0 HB0
    clear eW
    have cb0 := row_cell Hb0.out 0
    have fb0 := row_free Hb0.out 0
    refine wp_region_any (by kernel_rfl) ?_
    change wpAny _ _ _ _ _ _ _ (World.drew _)
    refine wpAny_take (i := 1) (v := ?_) rfl (by kernel_rfl) (by kernel_rfl) (by kernel_rfl) (fun _ _ _ h => h) (Or.inl ⟨by rfl, ?_⟩) ?_
    rotate_left
    focus
      intro w
      go_simp
      all_goals with_reducible rfl
    refine wpAny_take (i := 2) (v := ?_) rfl (by kernel_rfl) (by kernel_rfl) (by kernel_rfl) (fun _ _ _ h => h) (Or.inl ⟨by rfl, ?_⟩) ?_
    rotate_left
    focus
      intro w
      go_simp
      all_goals with_reducible rfl
    refine wpAny_ready (rs := [0]) (by kernel_rfl) (by simp) ?_
    refine AllReady.cons rfl (fun K hK => ?_) AllReady.nil
    go_simp
    refine hK _ _ ?_
    clear hK K
    refine wpAny_ready (rs := [3]) (by kernel_rfl) (by simp) ?_
    refine AllReady.cons rfl (fun K hK => ?_) AllReady.nil
    (refine R_append_rows_step2 k34 (Rr := k34.K W5.drew) (w0 := w1) (W := W5.drew) w1.heap.size (by rfl) (.tmp 10) (.tmp 12) 37 25 34 z34v 40 rfl Try.underlying37 Try.underlying25 infoOp rfl (by decide) (by decide) (.slice none 0 0) [] (l.take 4) A 4 cp (fun q => q ≠ w1.heap.size) (fun _ => False) rfl rfl (Kd.R_nil _ _ _ _ _) ?_ (fun x cs hx => (k34_open hx) ▸ k34_mkM _ _ _ x) (fun _ h => h.elim) ?_ ?_ ?_ (by simp) ?_; (focus (exact HC1.out _ (HB0.out))); (focus (intro k hk; have := HES.out; simp at hk; omega)); (focus (exact HB0.out)); (focus (have := HES.out; simp; omega)); intro v2 w2 hR2 hB2 hg2 hat2; obtain ⟨ad2, n2, cp2, rfl⟩ := R_slice hR2; (have Hb2 : Aside0 (w2.heap[w1.heap.size]? = some (.cells #[.slice none 0 0] 37 (0, 0))) := ⟨(hg2.block _ (by have := HES.out; simp; omega) (by simp [Value.ownBlock])).trans Hb0.out⟩); (have HR2 := Aside0.mk hR2); (have HB2 := Aside0.mk hB2); clear hR2 hB2 hg2 hat2; (have cx := row_cell Hb2.out 0); (have fx := row_free Hb2.out 0))
    refine hK _ _ ?_
    clear hK K
    refine wpAny_ready (rs := [4]) (by kernel_rfl) (by simp) ?_
    refine AllReady.cons rfl (fun K hK => ?_) AllReady.nil
    go_simp
    refine hK _ _ ?_
    clear hK K
    refine wpAny_done (by kernel_rfl) ?_ _
    clear cb0 fb0 cx fx
    have S3 := Scr.set Hb2.out HR2.out
    have K3 := HB2.out.setCell (Nat.le_refl w1.heap.size) (p := ⟨w1.heap.size, 0, none⟩) (.slice ad2 n2 cp2)
    rw [List.nil_append] at S3
    generalize w2.setCell ⟨w1.heap.size, 0, none⟩ (.slice ad2 n2 cp2) = w3 at *
    clear HR2 HB2 Hb2 Hb0 HB0 HES
    generalize bval W5.drew w1.heap.size = bv5 at *
    go_wp2_with fail
    refine (add2_calls (S3.alloc _) (Nat.le_refl _) (by rw [List.length_take]; omega) 6 2 0 w3.heap.size (heap_alloc_new w3 _)).mono ?_
    rintro _ w4 ⟨rfl, S4, K4⟩
    have K40 := (K3.alloc K3.size (.cells #[.int .i64 2, .int .i64 0] 3)).trans K4
    clear S3 K3 K4
    go_upto_region 7 with fail
    obtain ⟨u, hb4, hR4⟩ := S4.out
    have hne4 : ∀ k, u.ownBlock = some k → k ≠ w1.heap.size := hR4.1
    have HB4 : Aside0 (Below w1.heap.size w1 w4.drew) := ⟨K40.drew⟩
    have Hb4 := Aside0.mk hb4
    have HR4 := Aside0.mk (Kd.R_drew hR4)
    have HLT := Aside0.mk S4.lt
    clear S4 K40 hb4 hR4
    have cb1 := row_cell Hb4.out 0
    have fb1 := row_free Hb4.out 0
    refine wp_region_any (by kernel_rfl) ?_
    change wpAny _ _ _ _ _ _ _ (World.drew _)
    refine wpAny_take (i := 1) (v := ?_) rfl (by kernel_rfl) (by kernel_rfl) (by kernel_rfl) (fun _ _ _ h => h) (Or.inl ⟨by rfl, ?_⟩) ?_
    rotate_left
    focus
      intro w
      go_simp
      all_goals with_reducible rfl
    refine wpAny_take (i := 2) (v := ?_) rfl (by kernel_rfl) (by kernel_rfl) (by kernel_rfl) (fun _ _ _ h => h) (Or.inl ⟨by rfl, ?_⟩) ?_
    rotate_left
    focus
      intro w
      go_simp
      all_goals with_reducible rfl
    refine wpAny_ready (rs := [0]) (by kernel_rfl) (by simp) ?_
    refine AllReady.cons rfl (fun K hK => ?_) AllReady.nil
    go_simp
    refine hK _ _ ?_
    clear hK K
    refine wpAny_ready (rs := [3]) (by kernel_rfl) (by simp) ?_
    refine AllReady.cons rfl (fun K hK => ?_) AllReady.nil
    (refine R_append_rows_step2 k34 (Rr := k34.K w4.drew) (w0 := w1) (W := w4.drew) w1.heap.size (by rfl) (.tmp 16) (.tmp 18) 37 25 34 z34v 40 rfl Try.underlying37 Try.underlying25 infoOp rfl (by decide) (by decide) u (l.take 4 ++ [⟨6, 2, 0, 0, 0⟩]) (l.drop 4) A2 N4 C4 (fun q => q ≠ w1.heap.size) (fun _ => False) rfl rfl HR4.out ?_ (fun x cs hx => (k34_open hx) ▸ k34_mkM _ _ _ x) (fun _ h => h.elim) ?_ ?_ ?_ ?_ ?_; (focus (exact HC2.out _ HB4.out)); (focus (intro k hk; have := HLT.out; simp at hk; omega)); (focus (exact HB4.out)); (focus (have := HLT.out; simp; omega)); (focus (rw [HN4.out, List.length_append, List.length_take]; simp; omega)); intro v5 w5 hR5 hB5 hg5 hat5; obtain ⟨ad5, n5, cp5, rfl⟩ := R_slice hR5; (have Hb5 : Aside0 (w5.heap[w1.heap.size]? = some (.cells #[u] 37 (0, 0))) := ⟨(hg5.block _ (by have := HLT.out; simp; omega) (fun h => hne4 _ h.symm rfl)).trans Hb4.out⟩); (have HR5 := Aside0.mk hR5); (have HB5 := Aside0.mk hB5); clear hR5 hB5 hg5 hat5; (have cx := row_cell Hb5.out 0); (have fx := row_free Hb5.out 0))
    refine hK _ _ ?_
    clear hK K
    refine wpAny_ready (rs := [4]) (by kernel_rfl) (by simp) ?_
    refine AllReady.cons rfl (fun K hK => ?_) AllReady.nil
    go_simp
    refine hK _ _ ?_
    clear hK K
    refine wpAny_done (by kernel_rfl) ?_ _
    clear cb1 fb1 cx fx
    have S6 := Scr.set Hb5.out HR5.out
    have K6 := HB5.out.setCell (Nat.le_refl w1.heap.size) (p := ⟨w1.heap.size, 0, none⟩) (.slice ad5 n5 cp5)
    have hlen6 : (l.take 4 ++ [(⟨6, 2, 0, 0, 0⟩ : S34)] ++ l.drop 4).length = l.length + 1 := by simp [List.length_take, List.length_drop]; omega
    generalize w5.setCell ⟨w1.heap.size, 0, none⟩ (.slice ad5 n5 cp5) = w6 at *
    generalize bval w4.drew w1.heap.size = bv4 at *
    clear HR5 HB5 Hb5 Hb4 HB4 HLT HR4
    go_wp2_with fail
    refine (add3_calls (S6.alloc _) (Nat.le_refl _) (by rw [hlen6]; omega) 3 2 0 0 w6.heap.size (heap_alloc_new w6 _)).mono ?_
    rintro _ w7 ⟨rfl, S7, K7⟩
    have K70 := (K6.alloc K6.size (.cells #[.int .i64 2, .int .i64 0, .int .i64 0] 3)).trans K7
    clear S6 K6 K7
    go_wp2_with fail
    refine (add1_calls (S7.alloc _) (Nat.le_refl _) (by rw [List.length_append, hlen6]; simp; omega) 7 2 w7.heap.size (heap_alloc_new w7 _)).mono ?_
    rintro _ w8 ⟨rfl, S8, K8⟩
    have K80 := (K70.alloc K70.size (.cells #[.int .i64 2] 3)).trans K8
    clear S7 K70 K8
    obtain ⟨v, hb, hR⟩ := S8.out
    have cv := row_cell hb 0
    obtain ⟨ad, q, cp8, rfl⟩ := R_slice hR
    have HRF := Aside0.mk (Kd.R_lower (Kd.R_mono hR (ok' := fun _ => True) (fun _ _ => trivial)) HB.out.size)
    have KB := Aside0.mk (HB.out.trans (K80.mono HB.out.size))
    clear hb hR S8 K80
    go_wp2_with fail
    go_ret
    exact ⟨_, rfl, HRF.out, KB.out⟩
end Go.Proofs.Ytampnfmhmonebaa.QWorkShapes
