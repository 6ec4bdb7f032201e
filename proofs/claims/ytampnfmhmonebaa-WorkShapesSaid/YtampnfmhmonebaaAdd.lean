/- What (*script).add does, with no number, one, two, three. -/
import Derived.Test.YtampnfmhmonebaaScr
import Derived.Deep.RegionHeld3
namespace Go.Proofs.Ytampnfmhmonebaa.QWorkShapes
open Go.RowKit Go.Proofs.YtampnfmhmonebaaW.PrintWords Go.Proofs.YtampnfmhmonebaaW.PrintLast Go.Proofs.YtampnfmhmonebaaW.PrintMore
set_option linter.unusedVariables false
set_option linter.unusedSimpArgs false
set_option maxRecDepth 100000
set_option maxHeartbeats 1600000

theorem row_cell {w : World} {g : Nat} {t : TypeId} {cs : Array Value} (h : w.heap[g]? = some (.cells cs t (0, 0))) (i : Nat) : w.cell? ⟨g, i, none⟩ = cs[i]? := cell_of_row w g i cs t (0, 0) h
theorem row_free {w : World} {g : Nat} {t : TypeId} {cs : Array Value} (h : w.heap[g]? = some (.cells cs t (0, 0))) (i : Nat) : w.frozen? ⟨g, i, none⟩ = false := by simp [World.frozen?, h]
theorem row_set {w : World} {g : Nat} {t : TypeId} {cs cs' : Array Value} (h : w.heap[g]? = some (.cells cs t (0, 0))) (i : Nat) (u : Value) (e : cs.setIfInBounds i u = cs') : (w.setCell ⟨g, i, none⟩ u).heap[g]? = some (.cells cs' t (0, 0)) := by
  subst e
  simp only [World.setCell, Array.getElem?_modify, h]
  simp
theorem row_far {w : World} {g : Nat} {o : Obj} (h : w.heap[g]? = some o) {p : Addr} (hp : g ≠ p.block) (u : Value) : (w.setCell p u).heap[g]? = some o := (Below.heap_setCell w p u g hp).trans h
def bval (w : World) (b : Nat) : Value := (w.cell? ⟨b, 0, none⟩).getD (.slice none 0 0)
theorem bval_eq {w : World} {b : Nat} {u : Value} {t : TypeId} (h : w.heap[b]? = some (.cells #[u] t (0, 0))) : bval w b = u := by
  unfold bval
  rw [row_cell h 0]
  rfl
theorem bval_of {w : World} {b : Nat} {u : Value} {t : TypeId} (h : w.heap[b]? = some (.cells #[u] t (0, 0))) : w.cell? ⟨b, 0, none⟩ = some (bval w b) := by
  rw [bval_eq h, row_cell h 0]
  rfl
theorem alloc_row {w : World} {g : Nat} {o : Obj} (h : w.heap[g]? = some o) (o' : Obj) : (w.alloc o').heap[g]? = some o := by
  rcases Nat.lt_or_ge g w.heap.size with h' | h'
  · exact (Below.heap_alloc w o' g h').trans h
  · rw [Array.getElem?_eq_none (by omega)] at h
    cases h
theorem sOf {w : World} {b g : Nat} {u : Value} {t' t : TypeId} {cs : Array Value} {c0 c1 c2 c3 c4 : Value} (h : w.heap[b]? = some (.cells #[u] t' (0, 0))) (k : w.heap[g]? = some (.cells cs t (0, 0))) (e0 : cs[0]? = some c0) (e1 : cs[1]? = some c1) (e2 : cs[2]? = some c2) (e3 : cs[3]? = some c3) (e4 : cs[4]? = some c4) :
    w.cell? ⟨b, 0, none⟩ = some (bval w b) ∧ w.frozen? ⟨b, 0, none⟩ = false ∧ w.cell? ⟨g, 0, none⟩ = some c0 ∧ w.cell? ⟨g, 1, none⟩ = some c1 ∧ w.cell? ⟨g, 2, none⟩ = some c2 ∧ w.cell? ⟨g, 3, none⟩ = some c3 ∧ w.cell? ⟨g, 4, none⟩ = some c4 :=
  ⟨bval_of h, row_free h 0, (row_cell k 0).trans e0, (row_cell k 1).trans e1, (row_cell k 2).trans e2, (row_cell k 3).trans e3, (row_cell k 4).trans e4⟩
theorem add0_calls {w : World} {base b : Nat} {xs : List S34} (HS : Scr w base b xs) (hbase : base ≤ b) (hl : xs.length ≤ 1000000) (kind : Int)  :
    Calls Try.prog 21 #[.pointer (some ⟨b, 0, none⟩), .int .i64 kind, .slice none 0 0] w fun e w' => e = .returned (.tuple #[]) ∧ Scr w' base b (xs ++ [⟨kind, 0, 0, 0, 0⟩]) ∧ Below base w w' := by
  have HSA := Aside0.mk HS
  have hlt := HS.lt
  clear HS
  go_enter Try.func21, Try.ntmps21
  go_wp2_with fail
  go_loopw [16] (fun s wr => ((s = .int .i64 0 ∧ Aside0 (wr.heap[w.heap.size]? = some (.cells #[.int .i64 kind, .int .i64 0, .int .i64 0, .int .i64 0, .int .u32 0] 34 (0, 0)))) ∨ (s = .int .i64 1 ∧ Aside0 (wr.heap[w.heap.size]? = some (.cells #[.int .i64 kind, .int .i64 0, .int .i64 0, .int .i64 0, .int .u32 0] 34 (0, 0)))) ∨ (s = .int .i64 2 ∧ Aside0 (wr.heap[w.heap.size]? = some (.cells #[.int .i64 kind, .int .i64 0, .int .i64 0, .int .i64 0, .int .u32 0] 34 (0, 0)))) ∨ (s = .int .i64 3 ∧ Aside0 (wr.heap[w.heap.size]? = some (.cells #[.int .i64 kind, .int .i64 0, .int .i64 0, .int .i64 0, .int .u32 0] 34 (0, 0))))) ∧ Aside0 (wr.heap[w.heap.size + 1]? = some (.cells #[.pointer (some ⟨w.heap.size, 1, none⟩), .pointer (some ⟨w.heap.size, 2, none⟩), .pointer (some ⟨w.heap.size, 3, none⟩)] 53 (0, 0))) ∧ Aside0 (Below w.heap.size w wr)) (fun s _ => 3 - (intOf s).toNat)
  case atStart =>
    refine ⟨Or.inl ⟨rfl, ⟨?_⟩⟩, ⟨?_⟩, ⟨?_⟩⟩
    · exact (Below.heap_alloc _ _ _ (by simp)).trans (heap_alloc_new w _)
    · have := heap_alloc_new (w.alloc (.cells #[.int .i64 kind, .int .i64 0, .int .i64 0, .int .i64 0, .int .u32 0] 34)) (.cells #[.pointer (some ⟨w.heap.size, 1, none⟩), .pointer (some ⟨w.heap.size, 2, none⟩), .pointer (some ⟨w.heap.size, 3, none⟩)] 53)
      simpa using this
    · exact ((Below.refl _ _).alloc (Nat.le_refl _) _).alloc (by simp) _
  case round =>
    obtain ⟨hr, HP, HBe⟩ := hrel
    rcases hr with ⟨rfl, HO⟩ | ⟨rfl, HO⟩ | ⟨rfl, HO⟩ | ⟨rfl, HO⟩
    · have cp := row_cell HP.out 0
      go_wp2_with fail
      go_roundw
      case rel => exact ⟨Or.inr (Or.inl ⟨rfl, HO⟩), HP, HBe⟩
      case measure => simp [intOf]
    · have cp := row_cell HP.out 1
      go_wp2_with fail
      go_roundw
      case rel => exact ⟨Or.inr (Or.inr (Or.inl ⟨rfl, HO⟩)), HP, HBe⟩
      case measure => simp [intOf]
    · have cp := row_cell HP.out 2
      go_wp2_with fail
      go_roundw
      case rel => exact ⟨Or.inr (Or.inr (Or.inr ⟨rfl, HO⟩)), HP, HBe⟩
      case measure => simp [intOf]
    · obtain ⟨u, hb0, hR0⟩ := HSA.out.out
      have hbr : wr.heap[b]? = some (.cells #[u] 37 (0, 0)) := (HBe.out.block b hlt).trans hb0
      have Hbr := Aside0.mk hbr
      have HRr := Aside0.mk (Kd.R_below hR0 (HBe.out.drew))
      have HBr := Aside0.mk ((HBe.out.mono (show base ≤ w.heap.size by omega)).drew)
      have HBs : Aside0 (w.heap.size + 1 ≤ wr.heap.size) := ⟨by
        rcases Nat.lt_or_ge w.heap.size wr.heap.size with h' | h'
        · omega
        · have := HO.out
          rw [Array.getElem?_eq_none (by omega)] at this
          cases this⟩
      have hne0 : ∀ k, u.ownBlock = some k → k ≠ b := hR0.1
      have Hnew : Aside0 (∀ k, u.ownBlock = some k → k < w.heap.size) := ⟨fun k hk => by
        obtain ⟨_, _, ho, _⟩ := hR0
        exact own_lt ho k hk⟩
      clear hb0 hR0 hbr
      go_upto_region 7 with fail
      have cb := row_cell Hbr.out 0
      have fb := row_free Hbr.out 0
      have cba : ∀ o, (wr.alloc o).cell? ⟨b, 0, none⟩ = some u := fun o => row_cell (alloc_row Hbr.out o) 0
      have co0 := row_cell HO.out 0
      have co1 := row_cell HO.out 1
      have co2 := row_cell HO.out 2
      have co3 := row_cell HO.out 3
      have co4 := row_cell HO.out 4
      refine wp_region_any (by kernel_rfl) ?_
      change wpAny _ _ _ _ _ _ _ (World.drew _)
      refine wpAny_take (i := 0) (v := ?_) rfl (by kernel_rfl) (by kernel_rfl) (by kernel_rfl) (fun _ _ _ h => h) (Or.inl ⟨by rfl, ?_⟩) ?_
      rotate_left
      focus
        intro w
        go_simp
        all_goals with_reducible rfl
      refine wpAny_take (i := 1) (v := ?_) rfl (by kernel_rfl) (by kernel_rfl) (by kernel_rfl) (fun _ _ _ h => h) (Or.inl ⟨by rfl, ?_⟩) ?_
      rotate_left
      focus
        intro w
        go_simp
        all_goals with_reducible rfl
      refine wpAny_take (i := 2) (v := ?_) rfl (by kernel_rfl) (by kernel_rfl) (by kernel_rfl) (fun _ _ _ h => h) (Or.inl ⟨by rfl, ?_⟩) ?_
      rotate_left
      focus
        intro w
        go_simp
        all_goals with_reducible rfl
      refine wpAny_ready (rs := [3, 4]) (by kernel_rfl) (by simp) ?_
      refine AllReady.cons rfl (fun K hK => ?_) ?_
      focus
        go_simp
        refine hK _ _ ?_
        clear hK K
        refine wpAny_ready (rs := [4]) (by kernel_rfl) (by simp) ?_
        refine AllReady.cons rfl (fun K hK => ?_) ?_
        focus
          go_simp
          refine hK _ _ ?_
          clear hK K
          refine wpAny_ready (rs := [5]) (by kernel_rfl) (by simp) ?_
          refine AllReady.cons rfl (fun K hK => ?_) ?_
          focus
            go_simp
            refine hK _ _ ?_
            clear hK K
            refine wpAny_ready (rs := [6]) (by kernel_rfl) (by simp) ?_
            refine AllReady.cons rfl (fun K hK => ?_) ?_
            focus
              refine Kd.R_append_step k34 (w0 := w) (W := wr.drew) base (by rfl) (.tmp 35) (.tmp 37) 37 34 z34v 40 rfl Try.underlying37 infoOp rfl (by decide) (by decide) u xs ⟨kind, 0, 0, 0, 0⟩ [.int .i64 kind, .int .i64 0, .int .i64 0, .int .i64 0, .int .u32 0] (fun q => q ≠ b) (fun _ => False) rfl rfl (k34_mkM _ base _ _) (fun _ h => h.elim) ?_ HRr.out HBr.out ?_ (by omega) ?_
              focus
                intro k hk
                have := HBs.out
                simp at hk
                omega
              focus
                have := HBs.out
                simp
                omega
              intro v1 w1 hR1 hB1 hg1 hat1
              obtain ⟨ad, n1, cp, rfl⟩ := R_slice hR1
              have Hb1 : Aside0 (w1.heap[b]? = some (.cells #[u] 37 (0, 0))) := ⟨(hg1.block b (by have := HBs.out; simp; omega) (fun h => hne0 b h.symm rfl)).trans Hbr.out⟩
              have c1 := row_cell Hb1.out 0
              have f1 := row_free Hb1.out 0
              have HR1 := Aside0.mk hR1
              have HB1 := Aside0.mk hB1
              clear hR1 hB1 hg1 hat1
              refine hK _ _ ?_
              clear hK K
              refine wpAny_ready (rs := [7]) (by kernel_rfl) (by simp) ?_
              refine AllReady.cons rfl (fun K hK => ?_) ?_
              focus
                go_simp
                refine hK _ _ ?_
                clear hK K
                refine wpAny_ready (rs := [8]) (by kernel_rfl) (by simp) ?_
                refine AllReady.cons rfl (fun K hK => ?_) ?_
                focus
                  go_simp
                  refine hK _ _ ?_
                  clear hK K
                  refine wpAny_done (by kernel_rfl) ?_ _
                  go_wp2_with fail
                  go_end0
                  exact ⟨rfl, Scr.set Hb1.out HR1.out, HB1.out.setCell hbase _⟩
                exact AllReady.nil
              exact AllReady.nil
            exact AllReady.nil
          exact AllReady.nil
        exact AllReady.nil
      refine AllReady.cons rfl (fun K hK => ?_) ?_
      focus
        go_simp
        refine hK _ _ ?_
        clear hK K
        refine wpAny_ready (rs := [3, 5]) (by kernel_rfl) (by simp) ?_
        refine AllReady.cons rfl (fun K hK => ?_) ?_
        focus
          go_simp
          refine hK _ _ ?_
          clear hK K
          refine wpAny_ready (rs := [5]) (by kernel_rfl) (by simp) ?_
          refine AllReady.cons rfl (fun K hK => ?_) ?_
          focus
            go_simp
            refine hK _ _ ?_
            clear hK K
            refine wpAny_ready (rs := [6]) (by kernel_rfl) (by simp) ?_
            refine AllReady.cons rfl (fun K hK => ?_) ?_
            focus
              refine Kd.R_append_step k34 (w0 := w) (W := wr.drew) base (by rfl) (.tmp 35) (.tmp 37) 37 34 z34v 40 rfl Try.underlying37 infoOp rfl (by decide) (by decide) u xs ⟨kind, 0, 0, 0, 0⟩ [.int .i64 kind, .int .i64 0, .int .i64 0, .int .i64 0, .int .u32 0] (fun q => q ≠ b) (fun _ => False) rfl rfl (k34_mkM _ base _ _) (fun _ h => h.elim) ?_ HRr.out HBr.out ?_ (by omega) ?_
              focus
                intro k hk
                have := HBs.out
                simp at hk
                omega
              focus
                have := HBs.out
                simp
                omega
              intro v1 w1 hR1 hB1 hg1 hat1
              obtain ⟨ad, n1, cp, rfl⟩ := R_slice hR1
              have Hb1 : Aside0 (w1.heap[b]? = some (.cells #[u] 37 (0, 0))) := ⟨(hg1.block b (by have := HBs.out; simp; omega) (fun h => hne0 b h.symm rfl)).trans Hbr.out⟩
              have c1 := row_cell Hb1.out 0
              have f1 := row_free Hb1.out 0
              have HR1 := Aside0.mk hR1
              have HB1 := Aside0.mk hB1
              clear hR1 hB1 hg1 hat1
              refine hK _ _ ?_
              clear hK K
              refine wpAny_ready (rs := [7]) (by kernel_rfl) (by simp) ?_
              refine AllReady.cons rfl (fun K hK => ?_) ?_
              focus
                go_simp
                refine hK _ _ ?_
                clear hK K
                refine wpAny_ready (rs := [8]) (by kernel_rfl) (by simp) ?_
                refine AllReady.cons rfl (fun K hK => ?_) ?_
                focus
                  go_simp
                  refine hK _ _ ?_
                  clear hK K
                  refine wpAny_done (by kernel_rfl) ?_ _
                  go_wp2_with fail
                  go_end0
                  exact ⟨rfl, Scr.set Hb1.out HR1.out, HB1.out.setCell hbase _⟩
                exact AllReady.nil
              exact AllReady.nil
            exact AllReady.nil
          exact AllReady.nil
        refine AllReady.cons rfl (fun K hK => ?_) ?_
        focus
          go_simp
          refine hK _ _ ?_
          clear hK K
          refine wpAny_ready (rs := [3]) (by kernel_rfl) (by simp) ?_
          refine AllReady.cons rfl (fun K hK => ?_) ?_
          focus
            go_simp
            refine hK _ _ ?_
            clear hK K
            refine wpAny_ready (rs := [6]) (by kernel_rfl) (by simp) ?_
            refine AllReady.cons rfl (fun K hK => ?_) ?_
            focus
              refine Kd.R_append_step k34 (w0 := w) (W := wr.drew) base (by rfl) (.tmp 35) (.tmp 37) 37 34 z34v 40 rfl Try.underlying37 infoOp rfl (by decide) (by decide) u xs ⟨kind, 0, 0, 0, 0⟩ [.int .i64 kind, .int .i64 0, .int .i64 0, .int .i64 0, .int .u32 0] (fun q => q ≠ b) (fun _ => False) rfl rfl (k34_mkM _ base _ _) (fun _ h => h.elim) ?_ HRr.out HBr.out ?_ (by omega) ?_
              focus
                intro k hk
                have := HBs.out
                simp at hk
                omega
              focus
                have := HBs.out
                simp
                omega
              intro v1 w1 hR1 hB1 hg1 hat1
              obtain ⟨ad, n1, cp, rfl⟩ := R_slice hR1
              have Hb1 : Aside0 (w1.heap[b]? = some (.cells #[u] 37 (0, 0))) := ⟨(hg1.block b (by have := HBs.out; simp; omega) (fun h => hne0 b h.symm rfl)).trans Hbr.out⟩
              have c1 := row_cell Hb1.out 0
              have f1 := row_free Hb1.out 0
              have HR1 := Aside0.mk hR1
              have HB1 := Aside0.mk hB1
              clear hR1 hB1 hg1 hat1
              refine hK _ _ ?_
              clear hK K
              refine wpAny_ready (rs := [7]) (by kernel_rfl) (by simp) ?_
              refine AllReady.cons rfl (fun K hK => ?_) ?_
              focus
                go_simp
                refine hK _ _ ?_
                clear hK K
                refine wpAny_ready (rs := [8]) (by kernel_rfl) (by simp) ?_
                refine AllReady.cons rfl (fun K hK => ?_) ?_
                focus
                  go_simp
                  refine hK _ _ ?_
                  clear hK K
                  refine wpAny_done (by kernel_rfl) ?_ _
                  go_wp2_with fail
                  go_end0
                  exact ⟨rfl, Scr.set Hb1.out HR1.out, HB1.out.setCell hbase _⟩
                exact AllReady.nil
              exact AllReady.nil
            exact AllReady.nil
          exact AllReady.nil
        exact AllReady.nil
      exact AllReady.nil
theorem add1_calls {w : World} {base b : Nat} {xs : List S34} (HS : Scr w base b xs) (hbase : base ≤ b) (hl : xs.length ≤ 1000000) (kind a0 : Int) (g : Nat) (HG : w.heap[g]? = some (.cells #[.int .i64 a0] 3 (0, 0))) :
    Calls Try.prog 21 #[.pointer (some ⟨b, 0, none⟩), .int .i64 kind, .slice (some ⟨g, 0, none⟩) 1 1] w fun e w' => e = .returned (.tuple #[]) ∧ Scr w' base b (xs ++ [⟨kind, a0, 0, 0, 0⟩]) ∧ Below base w w' := by
  have HSA := Aside0.mk HS
  have hlt := HS.lt
  have hglt : g < w.heap.size := by
    rcases Nat.lt_or_ge g w.heap.size with h' | h'
    · exact h'
    · rw [Array.getElem?_eq_none (by omega)] at HG
      cases HG
  have HGA := Aside0.mk HG
  clear HG
  clear HS
  go_enter Try.func21, Try.ntmps21
  go_wp2_with fail
  go_loopw [16] (fun s wr => ((s = .int .i64 0 ∧ Aside0 (wr.heap[w.heap.size]? = some (.cells #[.int .i64 kind, .int .i64 0, .int .i64 0, .int .i64 0, .int .u32 0] 34 (0, 0)))) ∨ (s = .int .i64 1 ∧ Aside0 (wr.heap[w.heap.size]? = some (.cells #[.int .i64 kind, .int .i64 a0, .int .i64 0, .int .i64 0, .int .u32 0] 34 (0, 0)))) ∨ (s = .int .i64 2 ∧ Aside0 (wr.heap[w.heap.size]? = some (.cells #[.int .i64 kind, .int .i64 a0, .int .i64 0, .int .i64 0, .int .u32 0] 34 (0, 0)))) ∨ (s = .int .i64 3 ∧ Aside0 (wr.heap[w.heap.size]? = some (.cells #[.int .i64 kind, .int .i64 a0, .int .i64 0, .int .i64 0, .int .u32 0] 34 (0, 0))))) ∧ Aside0 (wr.heap[w.heap.size + 1]? = some (.cells #[.pointer (some ⟨w.heap.size, 1, none⟩), .pointer (some ⟨w.heap.size, 2, none⟩), .pointer (some ⟨w.heap.size, 3, none⟩)] 53 (0, 0))) ∧ Aside0 (Below w.heap.size w wr)) (fun s _ => 3 - (intOf s).toNat)
  case atStart =>
    refine ⟨Or.inl ⟨rfl, ⟨?_⟩⟩, ⟨?_⟩, ⟨?_⟩⟩
    · exact (Below.heap_alloc _ _ _ (by simp)).trans (heap_alloc_new w _)
    · have := heap_alloc_new (w.alloc (.cells #[.int .i64 kind, .int .i64 0, .int .i64 0, .int .i64 0, .int .u32 0] 34)) (.cells #[.pointer (some ⟨w.heap.size, 1, none⟩), .pointer (some ⟨w.heap.size, 2, none⟩), .pointer (some ⟨w.heap.size, 3, none⟩)] 53)
      simpa using this
    · exact ((Below.refl _ _).alloc (Nat.le_refl _) _).alloc (by simp) _
  case round =>
    obtain ⟨hr, HP, HBe⟩ := hrel
    rcases hr with ⟨rfl, HO⟩ | ⟨rfl, HO⟩ | ⟨rfl, HO⟩ | ⟨rfl, HO⟩
    · have cp := row_cell HP.out 0
      have ca : wr.cell? ⟨g, 0, none⟩ = some (.int .i64 a0) := row_cell ((HBe.out.block g hglt).trans HGA.out) 0
      have co := row_cell HO.out 1
      have cf := row_free HO.out 1
      go_wp2_with fail
      go_roundw
      case rel => exact ⟨Or.inr (Or.inl ⟨rfl, ⟨row_set HO.out 1 _ rfl⟩⟩), ⟨row_far HP.out (by simp) _⟩, ⟨HBe.out.setCell (Nat.le_refl _) _⟩⟩
      case measure => simp [intOf]
    · have cp := row_cell HP.out 1
      go_wp2_with fail
      go_roundw
      case rel => exact ⟨Or.inr (Or.inr (Or.inl ⟨rfl, HO⟩)), HP, HBe⟩
      case measure => simp [intOf]
    · have cp := row_cell HP.out 2
      go_wp2_with fail
      go_roundw
      case rel => exact ⟨Or.inr (Or.inr (Or.inr ⟨rfl, HO⟩)), HP, HBe⟩
      case measure => simp [intOf]
    · obtain ⟨u, hb0, hR0⟩ := HSA.out.out
      have hbr : wr.heap[b]? = some (.cells #[u] 37 (0, 0)) := (HBe.out.block b hlt).trans hb0
      have Hbr := Aside0.mk hbr
      have HRr := Aside0.mk (Kd.R_below hR0 (HBe.out.drew))
      have HBr := Aside0.mk ((HBe.out.mono (show base ≤ w.heap.size by omega)).drew)
      have HBs : Aside0 (w.heap.size + 1 ≤ wr.heap.size) := ⟨by
        rcases Nat.lt_or_ge w.heap.size wr.heap.size with h' | h'
        · omega
        · have := HO.out
          rw [Array.getElem?_eq_none (by omega)] at this
          cases this⟩
      have hne0 : ∀ k, u.ownBlock = some k → k ≠ b := hR0.1
      have Hnew : Aside0 (∀ k, u.ownBlock = some k → k < w.heap.size) := ⟨fun k hk => by
        obtain ⟨_, _, ho, _⟩ := hR0
        exact own_lt ho k hk⟩
      clear hb0 hR0 hbr
      go_upto_region 7 with fail
      have cb := row_cell Hbr.out 0
      have fb := row_free Hbr.out 0
      have cba : ∀ o, (wr.alloc o).cell? ⟨b, 0, none⟩ = some u := fun o => row_cell (alloc_row Hbr.out o) 0
      have co0 := row_cell HO.out 0
      have co1 := row_cell HO.out 1
      have co2 := row_cell HO.out 2
      have co3 := row_cell HO.out 3
      have co4 := row_cell HO.out 4
      refine wp_region_any (by kernel_rfl) ?_
      change wpAny _ _ _ _ _ _ _ (World.drew _)
      refine wpAny_take (i := 0) (v := ?_) rfl (by kernel_rfl) (by kernel_rfl) (by kernel_rfl) (fun _ _ _ h => h) (Or.inl ⟨by rfl, ?_⟩) ?_
      rotate_left
      focus
        intro w
        go_simp
        all_goals with_reducible rfl
      refine wpAny_take (i := 1) (v := ?_) rfl (by kernel_rfl) (by kernel_rfl) (by kernel_rfl) (fun _ _ _ h => h) (Or.inl ⟨by rfl, ?_⟩) ?_
      rotate_left
      focus
        intro w
        go_simp
        all_goals with_reducible rfl
      refine wpAny_take (i := 2) (v := ?_) rfl (by kernel_rfl) (by kernel_rfl) (by kernel_rfl) (fun _ _ _ h => h) (Or.inl ⟨by rfl, ?_⟩) ?_
      rotate_left
      focus
        intro w
        go_simp
        all_goals with_reducible rfl
      refine wpAny_ready (rs := [3, 4]) (by kernel_rfl) (by simp) ?_
      refine AllReady.cons rfl (fun K hK => ?_) ?_
      focus
        go_simp
        refine hK _ _ ?_
        clear hK K
        refine wpAny_ready (rs := [4]) (by kernel_rfl) (by simp) ?_
        refine AllReady.cons rfl (fun K hK => ?_) ?_
        focus
          go_simp
          refine hK _ _ ?_
          clear hK K
          refine wpAny_ready (rs := [5]) (by kernel_rfl) (by simp) ?_
          refine AllReady.cons rfl (fun K hK => ?_) ?_
          focus
            go_simp
            refine hK _ _ ?_
            clear hK K
            refine wpAny_ready (rs := [6]) (by kernel_rfl) (by simp) ?_
            refine AllReady.cons rfl (fun K hK => ?_) ?_
            focus
              refine Kd.R_append_step k34 (w0 := w) (W := wr.drew) base (by rfl) (.tmp 35) (.tmp 37) 37 34 z34v 40 rfl Try.underlying37 infoOp rfl (by decide) (by decide) u xs ⟨kind, a0, 0, 0, 0⟩ [.int .i64 kind, .int .i64 a0, .int .i64 0, .int .i64 0, .int .u32 0] (fun q => q ≠ b) (fun _ => False) rfl rfl (k34_mkM _ base _ _) (fun _ h => h.elim) ?_ HRr.out HBr.out ?_ (by omega) ?_
              focus
                intro k hk
                have := HBs.out
                simp at hk
                omega
              focus
                have := HBs.out
                simp
                omega
              intro v1 w1 hR1 hB1 hg1 hat1
              obtain ⟨ad, n1, cp, rfl⟩ := R_slice hR1
              have Hb1 : Aside0 (w1.heap[b]? = some (.cells #[u] 37 (0, 0))) := ⟨(hg1.block b (by have := HBs.out; simp; omega) (fun h => hne0 b h.symm rfl)).trans Hbr.out⟩
              have c1 := row_cell Hb1.out 0
              have f1 := row_free Hb1.out 0
              have HR1 := Aside0.mk hR1
              have HB1 := Aside0.mk hB1
              clear hR1 hB1 hg1 hat1
              refine hK _ _ ?_
              clear hK K
              refine wpAny_ready (rs := [7]) (by kernel_rfl) (by simp) ?_
              refine AllReady.cons rfl (fun K hK => ?_) ?_
              focus
                go_simp
                refine hK _ _ ?_
                clear hK K
                refine wpAny_ready (rs := [8]) (by kernel_rfl) (by simp) ?_
                refine AllReady.cons rfl (fun K hK => ?_) ?_
                focus
                  go_simp
                  refine hK _ _ ?_
                  clear hK K
                  refine wpAny_done (by kernel_rfl) ?_ _
                  go_wp2_with fail
                  go_end0
                  exact ⟨rfl, Scr.set Hb1.out HR1.out, HB1.out.setCell hbase _⟩
                exact AllReady.nil
              exact AllReady.nil
            exact AllReady.nil
          exact AllReady.nil
        exact AllReady.nil
      refine AllReady.cons rfl (fun K hK => ?_) ?_
      focus
        go_simp
        refine hK _ _ ?_
        clear hK K
        refine wpAny_ready (rs := [3, 5]) (by kernel_rfl) (by simp) ?_
        refine AllReady.cons rfl (fun K hK => ?_) ?_
        focus
          go_simp
          refine hK _ _ ?_
          clear hK K
          refine wpAny_ready (rs := [5]) (by kernel_rfl) (by simp) ?_
          refine AllReady.cons rfl (fun K hK => ?_) ?_
          focus
            go_simp
            refine hK _ _ ?_
            clear hK K
            refine wpAny_ready (rs := [6]) (by kernel_rfl) (by simp) ?_
            refine AllReady.cons rfl (fun K hK => ?_) ?_
            focus
              refine Kd.R_append_step k34 (w0 := w) (W := wr.drew) base (by rfl) (.tmp 35) (.tmp 37) 37 34 z34v 40 rfl Try.underlying37 infoOp rfl (by decide) (by decide) u xs ⟨kind, a0, 0, 0, 0⟩ [.int .i64 kind, .int .i64 a0, .int .i64 0, .int .i64 0, .int .u32 0] (fun q => q ≠ b) (fun _ => False) rfl rfl (k34_mkM _ base _ _) (fun _ h => h.elim) ?_ HRr.out HBr.out ?_ (by omega) ?_
              focus
                intro k hk
                have := HBs.out
                simp at hk
                omega
              focus
                have := HBs.out
                simp
                omega
              intro v1 w1 hR1 hB1 hg1 hat1
              obtain ⟨ad, n1, cp, rfl⟩ := R_slice hR1
              have Hb1 : Aside0 (w1.heap[b]? = some (.cells #[u] 37 (0, 0))) := ⟨(hg1.block b (by have := HBs.out; simp; omega) (fun h => hne0 b h.symm rfl)).trans Hbr.out⟩
              have c1 := row_cell Hb1.out 0
              have f1 := row_free Hb1.out 0
              have HR1 := Aside0.mk hR1
              have HB1 := Aside0.mk hB1
              clear hR1 hB1 hg1 hat1
              refine hK _ _ ?_
              clear hK K
              refine wpAny_ready (rs := [7]) (by kernel_rfl) (by simp) ?_
              refine AllReady.cons rfl (fun K hK => ?_) ?_
              focus
                go_simp
                refine hK _ _ ?_
                clear hK K
                refine wpAny_ready (rs := [8]) (by kernel_rfl) (by simp) ?_
                refine AllReady.cons rfl (fun K hK => ?_) ?_
                focus
                  go_simp
                  refine hK _ _ ?_
                  clear hK K
                  refine wpAny_done (by kernel_rfl) ?_ _
                  go_wp2_with fail
                  go_end0
                  exact ⟨rfl, Scr.set Hb1.out HR1.out, HB1.out.setCell hbase _⟩
                exact AllReady.nil
              exact AllReady.nil
            exact AllReady.nil
          exact AllReady.nil
        refine AllReady.cons rfl (fun K hK => ?_) ?_
        focus
          go_simp
          refine hK _ _ ?_
          clear hK K
          refine wpAny_ready (rs := [3]) (by kernel_rfl) (by simp) ?_
          refine AllReady.cons rfl (fun K hK => ?_) ?_
          focus
            go_simp
            refine hK _ _ ?_
            clear hK K
            refine wpAny_ready (rs := [6]) (by kernel_rfl) (by simp) ?_
            refine AllReady.cons rfl (fun K hK => ?_) ?_
            focus
              refine Kd.R_append_step k34 (w0 := w) (W := wr.drew) base (by rfl) (.tmp 35) (.tmp 37) 37 34 z34v 40 rfl Try.underlying37 infoOp rfl (by decide) (by decide) u xs ⟨kind, a0, 0, 0, 0⟩ [.int .i64 kind, .int .i64 a0, .int .i64 0, .int .i64 0, .int .u32 0] (fun q => q ≠ b) (fun _ => False) rfl rfl (k34_mkM _ base _ _) (fun _ h => h.elim) ?_ HRr.out HBr.out ?_ (by omega) ?_
              focus
                intro k hk
                have := HBs.out
                simp at hk
                omega
              focus
                have := HBs.out
                simp
                omega
              intro v1 w1 hR1 hB1 hg1 hat1
              obtain ⟨ad, n1, cp, rfl⟩ := R_slice hR1
              have Hb1 : Aside0 (w1.heap[b]? = some (.cells #[u] 37 (0, 0))) := ⟨(hg1.block b (by have := HBs.out; simp; omega) (fun h => hne0 b h.symm rfl)).trans Hbr.out⟩
              have c1 := row_cell Hb1.out 0
              have f1 := row_free Hb1.out 0
              have HR1 := Aside0.mk hR1
              have HB1 := Aside0.mk hB1
              clear hR1 hB1 hg1 hat1
              refine hK _ _ ?_
              clear hK K
              refine wpAny_ready (rs := [7]) (by kernel_rfl) (by simp) ?_
              refine AllReady.cons rfl (fun K hK => ?_) ?_
              focus
                go_simp
                refine hK _ _ ?_
                clear hK K
                refine wpAny_ready (rs := [8]) (by kernel_rfl) (by simp) ?_
                refine AllReady.cons rfl (fun K hK => ?_) ?_
                focus
                  go_simp
                  refine hK _ _ ?_
                  clear hK K
                  refine wpAny_done (by kernel_rfl) ?_ _
                  go_wp2_with fail
                  go_end0
                  exact ⟨rfl, Scr.set Hb1.out HR1.out, HB1.out.setCell hbase _⟩
                exact AllReady.nil
              exact AllReady.nil
            exact AllReady.nil
          exact AllReady.nil
        exact AllReady.nil
      exact AllReady.nil
theorem add2_calls {w : World} {base b : Nat} {xs : List S34} (HS : Scr w base b xs) (hbase : base ≤ b) (hl : xs.length ≤ 1000000) (kind a0 a1 : Int) (g : Nat) (HG : w.heap[g]? = some (.cells #[.int .i64 a0, .int .i64 a1] 3 (0, 0))) :
    Calls Try.prog 21 #[.pointer (some ⟨b, 0, none⟩), .int .i64 kind, .slice (some ⟨g, 0, none⟩) 2 2] w fun e w' => e = .returned (.tuple #[]) ∧ Scr w' base b (xs ++ [⟨kind, a0, a1, 0, 0⟩]) ∧ Below base w w' := by
  have HSA := Aside0.mk HS
  have hlt := HS.lt
  have hglt : g < w.heap.size := by
    rcases Nat.lt_or_ge g w.heap.size with h' | h'
    · exact h'
    · rw [Array.getElem?_eq_none (by omega)] at HG
      cases HG
  have HGA := Aside0.mk HG
  clear HG
  clear HS
  go_enter Try.func21, Try.ntmps21
  go_wp2_with fail
  go_loopw [16] (fun s wr => ((s = .int .i64 0 ∧ Aside0 (wr.heap[w.heap.size]? = some (.cells #[.int .i64 kind, .int .i64 0, .int .i64 0, .int .i64 0, .int .u32 0] 34 (0, 0)))) ∨ (s = .int .i64 1 ∧ Aside0 (wr.heap[w.heap.size]? = some (.cells #[.int .i64 kind, .int .i64 a0, .int .i64 0, .int .i64 0, .int .u32 0] 34 (0, 0)))) ∨ (s = .int .i64 2 ∧ Aside0 (wr.heap[w.heap.size]? = some (.cells #[.int .i64 kind, .int .i64 a0, .int .i64 a1, .int .i64 0, .int .u32 0] 34 (0, 0)))) ∨ (s = .int .i64 3 ∧ Aside0 (wr.heap[w.heap.size]? = some (.cells #[.int .i64 kind, .int .i64 a0, .int .i64 a1, .int .i64 0, .int .u32 0] 34 (0, 0))))) ∧ Aside0 (wr.heap[w.heap.size + 1]? = some (.cells #[.pointer (some ⟨w.heap.size, 1, none⟩), .pointer (some ⟨w.heap.size, 2, none⟩), .pointer (some ⟨w.heap.size, 3, none⟩)] 53 (0, 0))) ∧ Aside0 (Below w.heap.size w wr)) (fun s _ => 3 - (intOf s).toNat)
  case atStart =>
    refine ⟨Or.inl ⟨rfl, ⟨?_⟩⟩, ⟨?_⟩, ⟨?_⟩⟩
    · exact (Below.heap_alloc _ _ _ (by simp)).trans (heap_alloc_new w _)
    · have := heap_alloc_new (w.alloc (.cells #[.int .i64 kind, .int .i64 0, .int .i64 0, .int .i64 0, .int .u32 0] 34)) (.cells #[.pointer (some ⟨w.heap.size, 1, none⟩), .pointer (some ⟨w.heap.size, 2, none⟩), .pointer (some ⟨w.heap.size, 3, none⟩)] 53)
      simpa using this
    · exact ((Below.refl _ _).alloc (Nat.le_refl _) _).alloc (by simp) _
  case round =>
    obtain ⟨hr, HP, HBe⟩ := hrel
    rcases hr with ⟨rfl, HO⟩ | ⟨rfl, HO⟩ | ⟨rfl, HO⟩ | ⟨rfl, HO⟩
    · have cp := row_cell HP.out 0
      have ca : wr.cell? ⟨g, 0, none⟩ = some (.int .i64 a0) := row_cell ((HBe.out.block g hglt).trans HGA.out) 0
      have co := row_cell HO.out 1
      have cf := row_free HO.out 1
      go_wp2_with fail
      go_roundw
      case rel => exact ⟨Or.inr (Or.inl ⟨rfl, ⟨row_set HO.out 1 _ rfl⟩⟩), ⟨row_far HP.out (by simp) _⟩, ⟨HBe.out.setCell (Nat.le_refl _) _⟩⟩
      case measure => simp [intOf]
    · have cp := row_cell HP.out 1
      have ca : wr.cell? ⟨g, 1, none⟩ = some (.int .i64 a1) := row_cell ((HBe.out.block g hglt).trans HGA.out) 1
      have co := row_cell HO.out 2
      have cf := row_free HO.out 2
      go_wp2_with fail
      go_roundw
      case rel => exact ⟨Or.inr (Or.inr (Or.inl ⟨rfl, ⟨row_set HO.out 2 _ rfl⟩⟩)), ⟨row_far HP.out (by simp) _⟩, ⟨HBe.out.setCell (Nat.le_refl _) _⟩⟩
      case measure => simp [intOf]
    · have cp := row_cell HP.out 2
      go_wp2_with fail
      go_roundw
      case rel => exact ⟨Or.inr (Or.inr (Or.inr ⟨rfl, HO⟩)), HP, HBe⟩
      case measure => simp [intOf]
    · obtain ⟨u, hb0, hR0⟩ := HSA.out.out
      have hbr : wr.heap[b]? = some (.cells #[u] 37 (0, 0)) := (HBe.out.block b hlt).trans hb0
      have Hbr := Aside0.mk hbr
      have HRr := Aside0.mk (Kd.R_below hR0 (HBe.out.drew))
      have HBr := Aside0.mk ((HBe.out.mono (show base ≤ w.heap.size by omega)).drew)
      have HBs : Aside0 (w.heap.size + 1 ≤ wr.heap.size) := ⟨by
        rcases Nat.lt_or_ge w.heap.size wr.heap.size with h' | h'
        · omega
        · have := HO.out
          rw [Array.getElem?_eq_none (by omega)] at this
          cases this⟩
      have hne0 : ∀ k, u.ownBlock = some k → k ≠ b := hR0.1
      have Hnew : Aside0 (∀ k, u.ownBlock = some k → k < w.heap.size) := ⟨fun k hk => by
        obtain ⟨_, _, ho, _⟩ := hR0
        exact own_lt ho k hk⟩
      clear hb0 hR0 hbr
      go_upto_region 7 with fail
      have cb := row_cell Hbr.out 0
      have fb := row_free Hbr.out 0
      have cba : ∀ o, (wr.alloc o).cell? ⟨b, 0, none⟩ = some u := fun o => row_cell (alloc_row Hbr.out o) 0
      have co0 := row_cell HO.out 0
      have co1 := row_cell HO.out 1
      have co2 := row_cell HO.out 2
      have co3 := row_cell HO.out 3
      have co4 := row_cell HO.out 4
      refine wp_region_any (by kernel_rfl) ?_
      change wpAny _ _ _ _ _ _ _ (World.drew _)
      refine wpAny_take (i := 0) (v := ?_) rfl (by kernel_rfl) (by kernel_rfl) (by kernel_rfl) (fun _ _ _ h => h) (Or.inl ⟨by rfl, ?_⟩) ?_
      rotate_left
      focus
        intro w
        go_simp
        all_goals with_reducible rfl
      refine wpAny_take (i := 1) (v := ?_) rfl (by kernel_rfl) (by kernel_rfl) (by kernel_rfl) (fun _ _ _ h => h) (Or.inl ⟨by rfl, ?_⟩) ?_
      rotate_left
      focus
        intro w
        go_simp
        all_goals with_reducible rfl
      refine wpAny_take (i := 2) (v := ?_) rfl (by kernel_rfl) (by kernel_rfl) (by kernel_rfl) (fun _ _ _ h => h) (Or.inl ⟨by rfl, ?_⟩) ?_
      rotate_left
      focus
        intro w
        go_simp
        all_goals with_reducible rfl
      refine wpAny_ready (rs := [3, 4]) (by kernel_rfl) (by simp) ?_
      refine AllReady.cons rfl (fun K hK => ?_) ?_
      focus
        go_simp
        refine hK _ _ ?_
        clear hK K
        refine wpAny_ready (rs := [4]) (by kernel_rfl) (by simp) ?_
        refine AllReady.cons rfl (fun K hK => ?_) ?_
        focus
          go_simp
          refine hK _ _ ?_
          clear hK K
          refine wpAny_ready (rs := [5]) (by kernel_rfl) (by simp) ?_
          refine AllReady.cons rfl (fun K hK => ?_) ?_
          focus
            go_simp
            refine hK _ _ ?_
            clear hK K
            refine wpAny_ready (rs := [6]) (by kernel_rfl) (by simp) ?_
            refine AllReady.cons rfl (fun K hK => ?_) ?_
            focus
              refine Kd.R_append_step k34 (w0 := w) (W := wr.drew) base (by rfl) (.tmp 35) (.tmp 37) 37 34 z34v 40 rfl Try.underlying37 infoOp rfl (by decide) (by decide) u xs ⟨kind, a0, a1, 0, 0⟩ [.int .i64 kind, .int .i64 a0, .int .i64 a1, .int .i64 0, .int .u32 0] (fun q => q ≠ b) (fun _ => False) rfl rfl (k34_mkM _ base _ _) (fun _ h => h.elim) ?_ HRr.out HBr.out ?_ (by omega) ?_
              focus
                intro k hk
                have := HBs.out
                simp at hk
                omega
              focus
                have := HBs.out
                simp
                omega
              intro v1 w1 hR1 hB1 hg1 hat1
              obtain ⟨ad, n1, cp, rfl⟩ := R_slice hR1
              have Hb1 : Aside0 (w1.heap[b]? = some (.cells #[u] 37 (0, 0))) := ⟨(hg1.block b (by have := HBs.out; simp; omega) (fun h => hne0 b h.symm rfl)).trans Hbr.out⟩
              have c1 := row_cell Hb1.out 0
              have f1 := row_free Hb1.out 0
              have HR1 := Aside0.mk hR1
              have HB1 := Aside0.mk hB1
              clear hR1 hB1 hg1 hat1
              refine hK _ _ ?_
              clear hK K
              refine wpAny_ready (rs := [7]) (by kernel_rfl) (by simp) ?_
              refine AllReady.cons rfl (fun K hK => ?_) ?_
              focus
                go_simp
                refine hK _ _ ?_
                clear hK K
                refine wpAny_ready (rs := [8]) (by kernel_rfl) (by simp) ?_
                refine AllReady.cons rfl (fun K hK => ?_) ?_
                focus
                  go_simp
                  refine hK _ _ ?_
                  clear hK K
                  refine wpAny_done (by kernel_rfl) ?_ _
                  go_wp2_with fail
                  go_end0
                  exact ⟨rfl, Scr.set Hb1.out HR1.out, HB1.out.setCell hbase _⟩
                exact AllReady.nil
              exact AllReady.nil
            exact AllReady.nil
          exact AllReady.nil
        exact AllReady.nil
      refine AllReady.cons rfl (fun K hK => ?_) ?_
      focus
        go_simp
        refine hK _ _ ?_
        clear hK K
        refine wpAny_ready (rs := [3, 5]) (by kernel_rfl) (by simp) ?_
        refine AllReady.cons rfl (fun K hK => ?_) ?_
        focus
          go_simp
          refine hK _ _ ?_
          clear hK K
          refine wpAny_ready (rs := [5]) (by kernel_rfl) (by simp) ?_
          refine AllReady.cons rfl (fun K hK => ?_) ?_
          focus
            go_simp
            refine hK _ _ ?_
            clear hK K
            refine wpAny_ready (rs := [6]) (by kernel_rfl) (by simp) ?_
            refine AllReady.cons rfl (fun K hK => ?_) ?_
            focus
              refine Kd.R_append_step k34 (w0 := w) (W := wr.drew) base (by rfl) (.tmp 35) (.tmp 37) 37 34 z34v 40 rfl Try.underlying37 infoOp rfl (by decide) (by decide) u xs ⟨kind, a0, a1, 0, 0⟩ [.int .i64 kind, .int .i64 a0, .int .i64 a1, .int .i64 0, .int .u32 0] (fun q => q ≠ b) (fun _ => False) rfl rfl (k34_mkM _ base _ _) (fun _ h => h.elim) ?_ HRr.out HBr.out ?_ (by omega) ?_
              focus
                intro k hk
                have := HBs.out
                simp at hk
                omega
              focus
                have := HBs.out
                simp
                omega
              intro v1 w1 hR1 hB1 hg1 hat1
              obtain ⟨ad, n1, cp, rfl⟩ := R_slice hR1
              have Hb1 : Aside0 (w1.heap[b]? = some (.cells #[u] 37 (0, 0))) := ⟨(hg1.block b (by have := HBs.out; simp; omega) (fun h => hne0 b h.symm rfl)).trans Hbr.out⟩
              have c1 := row_cell Hb1.out 0
              have f1 := row_free Hb1.out 0
              have HR1 := Aside0.mk hR1
              have HB1 := Aside0.mk hB1
              clear hR1 hB1 hg1 hat1
              refine hK _ _ ?_
              clear hK K
              refine wpAny_ready (rs := [7]) (by kernel_rfl) (by simp) ?_
              refine AllReady.cons rfl (fun K hK => ?_) ?_
              focus
                go_simp
                refine hK _ _ ?_
                clear hK K
                refine wpAny_ready (rs := [8]) (by kernel_rfl) (by simp) ?_
                refine AllReady.cons rfl (fun K hK => ?_) ?_
                focus
                  go_simp
                  refine hK _ _ ?_
                  clear hK K
                  refine wpAny_done (by kernel_rfl) ?_ _
                  go_wp2_with fail
                  go_end0
                  exact ⟨rfl, Scr.set Hb1.out HR1.out, HB1.out.setCell hbase _⟩
                exact AllReady.nil
              exact AllReady.nil
            exact AllReady.nil
          exact AllReady.nil
        refine AllReady.cons rfl (fun K hK => ?_) ?_
        focus
          go_simp
          refine hK _ _ ?_
          clear hK K
          refine wpAny_ready (rs := [3]) (by kernel_rfl) (by simp) ?_
          refine AllReady.cons rfl (fun K hK => ?_) ?_
          focus
            go_simp
            refine hK _ _ ?_
            clear hK K
            refine wpAny_ready (rs := [6]) (by kernel_rfl) (by simp) ?_
            refine AllReady.cons rfl (fun K hK => ?_) ?_
            focus
              refine Kd.R_append_step k34 (w0 := w) (W := wr.drew) base (by rfl) (.tmp 35) (.tmp 37) 37 34 z34v 40 rfl Try.underlying37 infoOp rfl (by decide) (by decide) u xs ⟨kind, a0, a1, 0, 0⟩ [.int .i64 kind, .int .i64 a0, .int .i64 a1, .int .i64 0, .int .u32 0] (fun q => q ≠ b) (fun _ => False) rfl rfl (k34_mkM _ base _ _) (fun _ h => h.elim) ?_ HRr.out HBr.out ?_ (by omega) ?_
              focus
                intro k hk
                have := HBs.out
                simp at hk
                omega
              focus
                have := HBs.out
                simp
                omega
              intro v1 w1 hR1 hB1 hg1 hat1
              obtain ⟨ad, n1, cp, rfl⟩ := R_slice hR1
              have Hb1 : Aside0 (w1.heap[b]? = some (.cells #[u] 37 (0, 0))) := ⟨(hg1.block b (by have := HBs.out; simp; omega) (fun h => hne0 b h.symm rfl)).trans Hbr.out⟩
              have c1 := row_cell Hb1.out 0
              have f1 := row_free Hb1.out 0
              have HR1 := Aside0.mk hR1
              have HB1 := Aside0.mk hB1
              clear hR1 hB1 hg1 hat1
              refine hK _ _ ?_
              clear hK K
              refine wpAny_ready (rs := [7]) (by kernel_rfl) (by simp) ?_
              refine AllReady.cons rfl (fun K hK => ?_) ?_
              focus
                go_simp
                refine hK _ _ ?_
                clear hK K
                refine wpAny_ready (rs := [8]) (by kernel_rfl) (by simp) ?_
                refine AllReady.cons rfl (fun K hK => ?_) ?_
                focus
                  go_simp
                  refine hK _ _ ?_
                  clear hK K
                  refine wpAny_done (by kernel_rfl) ?_ _
                  go_wp2_with fail
                  go_end0
                  exact ⟨rfl, Scr.set Hb1.out HR1.out, HB1.out.setCell hbase _⟩
                exact AllReady.nil
              exact AllReady.nil
            exact AllReady.nil
          exact AllReady.nil
        exact AllReady.nil
      exact AllReady.nil
theorem add3_calls {w : World} {base b : Nat} {xs : List S34} (HS : Scr w base b xs) (hbase : base ≤ b) (hl : xs.length ≤ 1000000) (kind a0 a1 a2 : Int) (g : Nat) (HG : w.heap[g]? = some (.cells #[.int .i64 a0, .int .i64 a1, .int .i64 a2] 3 (0, 0))) :
    Calls Try.prog 21 #[.pointer (some ⟨b, 0, none⟩), .int .i64 kind, .slice (some ⟨g, 0, none⟩) 3 3] w fun e w' => e = .returned (.tuple #[]) ∧ Scr w' base b (xs ++ [⟨kind, a0, a1, a2, 0⟩]) ∧ Below base w w' := by
  have HSA := Aside0.mk HS
  have hlt := HS.lt
  have hglt : g < w.heap.size := by
    rcases Nat.lt_or_ge g w.heap.size with h' | h'
    · exact h'
    · rw [Array.getElem?_eq_none (by omega)] at HG
      cases HG
  have HGA := Aside0.mk HG
  clear HG
  clear HS
  go_enter Try.func21, Try.ntmps21
  go_wp2_with fail
  go_loopw [16] (fun s wr => ((s = .int .i64 0 ∧ Aside0 (wr.heap[w.heap.size]? = some (.cells #[.int .i64 kind, .int .i64 0, .int .i64 0, .int .i64 0, .int .u32 0] 34 (0, 0)))) ∨ (s = .int .i64 1 ∧ Aside0 (wr.heap[w.heap.size]? = some (.cells #[.int .i64 kind, .int .i64 a0, .int .i64 0, .int .i64 0, .int .u32 0] 34 (0, 0)))) ∨ (s = .int .i64 2 ∧ Aside0 (wr.heap[w.heap.size]? = some (.cells #[.int .i64 kind, .int .i64 a0, .int .i64 a1, .int .i64 0, .int .u32 0] 34 (0, 0)))) ∨ (s = .int .i64 3 ∧ Aside0 (wr.heap[w.heap.size]? = some (.cells #[.int .i64 kind, .int .i64 a0, .int .i64 a1, .int .i64 a2, .int .u32 0] 34 (0, 0))))) ∧ Aside0 (wr.heap[w.heap.size + 1]? = some (.cells #[.pointer (some ⟨w.heap.size, 1, none⟩), .pointer (some ⟨w.heap.size, 2, none⟩), .pointer (some ⟨w.heap.size, 3, none⟩)] 53 (0, 0))) ∧ Aside0 (Below w.heap.size w wr)) (fun s _ => 3 - (intOf s).toNat)
  case atStart =>
    refine ⟨Or.inl ⟨rfl, ⟨?_⟩⟩, ⟨?_⟩, ⟨?_⟩⟩
    · exact (Below.heap_alloc _ _ _ (by simp)).trans (heap_alloc_new w _)
    · have := heap_alloc_new (w.alloc (.cells #[.int .i64 kind, .int .i64 0, .int .i64 0, .int .i64 0, .int .u32 0] 34)) (.cells #[.pointer (some ⟨w.heap.size, 1, none⟩), .pointer (some ⟨w.heap.size, 2, none⟩), .pointer (some ⟨w.heap.size, 3, none⟩)] 53)
      simpa using this
    · exact ((Below.refl _ _).alloc (Nat.le_refl _) _).alloc (by simp) _
  case round =>
    obtain ⟨hr, HP, HBe⟩ := hrel
    rcases hr with ⟨rfl, HO⟩ | ⟨rfl, HO⟩ | ⟨rfl, HO⟩ | ⟨rfl, HO⟩
    · have cp := row_cell HP.out 0
      have ca : wr.cell? ⟨g, 0, none⟩ = some (.int .i64 a0) := row_cell ((HBe.out.block g hglt).trans HGA.out) 0
      have co := row_cell HO.out 1
      have cf := row_free HO.out 1
      go_wp2_with fail
      go_roundw
      case rel => exact ⟨Or.inr (Or.inl ⟨rfl, ⟨row_set HO.out 1 _ rfl⟩⟩), ⟨row_far HP.out (by simp) _⟩, ⟨HBe.out.setCell (Nat.le_refl _) _⟩⟩
      case measure => simp [intOf]
    · have cp := row_cell HP.out 1
      have ca : wr.cell? ⟨g, 1, none⟩ = some (.int .i64 a1) := row_cell ((HBe.out.block g hglt).trans HGA.out) 1
      have co := row_cell HO.out 2
      have cf := row_free HO.out 2
      go_wp2_with fail
      go_roundw
      case rel => exact ⟨Or.inr (Or.inr (Or.inl ⟨rfl, ⟨row_set HO.out 2 _ rfl⟩⟩)), ⟨row_far HP.out (by simp) _⟩, ⟨HBe.out.setCell (Nat.le_refl _) _⟩⟩
      case measure => simp [intOf]
    · have cp := row_cell HP.out 2
      have ca : wr.cell? ⟨g, 2, none⟩ = some (.int .i64 a2) := row_cell ((HBe.out.block g hglt).trans HGA.out) 2
      have co := row_cell HO.out 3
      have cf := row_free HO.out 3
      go_wp2_with fail
      go_roundw
      case rel => exact ⟨Or.inr (Or.inr (Or.inr ⟨rfl, ⟨row_set HO.out 3 _ rfl⟩⟩)), ⟨row_far HP.out (by simp) _⟩, ⟨HBe.out.setCell (Nat.le_refl _) _⟩⟩
      case measure => simp [intOf]
    · obtain ⟨u, hb0, hR0⟩ := HSA.out.out
      have hbr : wr.heap[b]? = some (.cells #[u] 37 (0, 0)) := (HBe.out.block b hlt).trans hb0
      have Hbr := Aside0.mk hbr
      have HRr := Aside0.mk (Kd.R_below hR0 (HBe.out.drew))
      have HBr := Aside0.mk ((HBe.out.mono (show base ≤ w.heap.size by omega)).drew)
      have HBs : Aside0 (w.heap.size + 1 ≤ wr.heap.size) := ⟨by
        rcases Nat.lt_or_ge w.heap.size wr.heap.size with h' | h'
        · omega
        · have := HO.out
          rw [Array.getElem?_eq_none (by omega)] at this
          cases this⟩
      have hne0 : ∀ k, u.ownBlock = some k → k ≠ b := hR0.1
      have Hnew : Aside0 (∀ k, u.ownBlock = some k → k < w.heap.size) := ⟨fun k hk => by
        obtain ⟨_, _, ho, _⟩ := hR0
        exact own_lt ho k hk⟩
      clear hb0 hR0 hbr
      go_upto_region 7 with fail
      have cb := row_cell Hbr.out 0
      have fb := row_free Hbr.out 0
      have cba : ∀ o, (wr.alloc o).cell? ⟨b, 0, none⟩ = some u := fun o => row_cell (alloc_row Hbr.out o) 0
      have co0 := row_cell HO.out 0
      have co1 := row_cell HO.out 1
      have co2 := row_cell HO.out 2
      have co3 := row_cell HO.out 3
      have co4 := row_cell HO.out 4
      refine wp_region_any (by kernel_rfl) ?_
      change wpAny _ _ _ _ _ _ _ (World.drew _)
      refine wpAny_take (i := 0) (v := ?_) rfl (by kernel_rfl) (by kernel_rfl) (by kernel_rfl) (fun _ _ _ h => h) (Or.inl ⟨by rfl, ?_⟩) ?_
      rotate_left
      focus
        intro w
        go_simp
        all_goals with_reducible rfl
      refine wpAny_take (i := 1) (v := ?_) rfl (by kernel_rfl) (by kernel_rfl) (by kernel_rfl) (fun _ _ _ h => h) (Or.inl ⟨by rfl, ?_⟩) ?_
      rotate_left
      focus
        intro w
        go_simp
        all_goals with_reducible rfl
      refine wpAny_take (i := 2) (v := ?_) rfl (by kernel_rfl) (by kernel_rfl) (by kernel_rfl) (fun _ _ _ h => h) (Or.inl ⟨by rfl, ?_⟩) ?_
      rotate_left
      focus
        intro w
        go_simp
        all_goals with_reducible rfl
      refine wpAny_ready (rs := [3, 4]) (by kernel_rfl) (by simp) ?_
      refine AllReady.cons rfl (fun K hK => ?_) ?_
      focus
        go_simp
        refine hK _ _ ?_
        clear hK K
        refine wpAny_ready (rs := [4]) (by kernel_rfl) (by simp) ?_
        refine AllReady.cons rfl (fun K hK => ?_) ?_
        focus
          go_simp
          refine hK _ _ ?_
          clear hK K
          refine wpAny_ready (rs := [5]) (by kernel_rfl) (by simp) ?_
          refine AllReady.cons rfl (fun K hK => ?_) ?_
          focus
            go_simp
            refine hK _ _ ?_
            clear hK K
            refine wpAny_ready (rs := [6]) (by kernel_rfl) (by simp) ?_
            refine AllReady.cons rfl (fun K hK => ?_) ?_
            focus
              refine Kd.R_append_step k34 (w0 := w) (W := wr.drew) base (by rfl) (.tmp 35) (.tmp 37) 37 34 z34v 40 rfl Try.underlying37 infoOp rfl (by decide) (by decide) u xs ⟨kind, a0, a1, a2, 0⟩ [.int .i64 kind, .int .i64 a0, .int .i64 a1, .int .i64 a2, .int .u32 0] (fun q => q ≠ b) (fun _ => False) rfl rfl (k34_mkM _ base _ _) (fun _ h => h.elim) ?_ HRr.out HBr.out ?_ (by omega) ?_
              focus
                intro k hk
                have := HBs.out
                simp at hk
                omega
              focus
                have := HBs.out
                simp
                omega
              intro v1 w1 hR1 hB1 hg1 hat1
              obtain ⟨ad, n1, cp, rfl⟩ := R_slice hR1
              have Hb1 : Aside0 (w1.heap[b]? = some (.cells #[u] 37 (0, 0))) := ⟨(hg1.block b (by have := HBs.out; simp; omega) (fun h => hne0 b h.symm rfl)).trans Hbr.out⟩
              have c1 := row_cell Hb1.out 0
              have f1 := row_free Hb1.out 0
              have HR1 := Aside0.mk hR1
              have HB1 := Aside0.mk hB1
              clear hR1 hB1 hg1 hat1
              refine hK _ _ ?_
              clear hK K
              refine wpAny_ready (rs := [7]) (by kernel_rfl) (by simp) ?_
              refine AllReady.cons rfl (fun K hK => ?_) ?_
              focus
                go_simp
                refine hK _ _ ?_
                clear hK K
                refine wpAny_ready (rs := [8]) (by kernel_rfl) (by simp) ?_
                refine AllReady.cons rfl (fun K hK => ?_) ?_
                focus
                  go_simp
                  refine hK _ _ ?_
                  clear hK K
                  refine wpAny_done (by kernel_rfl) ?_ _
                  go_wp2_with fail
                  go_end0
                  exact ⟨rfl, Scr.set Hb1.out HR1.out, HB1.out.setCell hbase _⟩
                exact AllReady.nil
              exact AllReady.nil
            exact AllReady.nil
          exact AllReady.nil
        exact AllReady.nil
      refine AllReady.cons rfl (fun K hK => ?_) ?_
      focus
        go_simp
        refine hK _ _ ?_
        clear hK K
        refine wpAny_ready (rs := [3, 5]) (by kernel_rfl) (by simp) ?_
        refine AllReady.cons rfl (fun K hK => ?_) ?_
        focus
          go_simp
          refine hK _ _ ?_
          clear hK K
          refine wpAny_ready (rs := [5]) (by kernel_rfl) (by simp) ?_
          refine AllReady.cons rfl (fun K hK => ?_) ?_
          focus
            go_simp
            refine hK _ _ ?_
            clear hK K
            refine wpAny_ready (rs := [6]) (by kernel_rfl) (by simp) ?_
            refine AllReady.cons rfl (fun K hK => ?_) ?_
            focus
              refine Kd.R_append_step k34 (w0 := w) (W := wr.drew) base (by rfl) (.tmp 35) (.tmp 37) 37 34 z34v 40 rfl Try.underlying37 infoOp rfl (by decide) (by decide) u xs ⟨kind, a0, a1, a2, 0⟩ [.int .i64 kind, .int .i64 a0, .int .i64 a1, .int .i64 a2, .int .u32 0] (fun q => q ≠ b) (fun _ => False) rfl rfl (k34_mkM _ base _ _) (fun _ h => h.elim) ?_ HRr.out HBr.out ?_ (by omega) ?_
              focus
                intro k hk
                have := HBs.out
                simp at hk
                omega
              focus
                have := HBs.out
                simp
                omega
              intro v1 w1 hR1 hB1 hg1 hat1
              obtain ⟨ad, n1, cp, rfl⟩ := R_slice hR1
              have Hb1 : Aside0 (w1.heap[b]? = some (.cells #[u] 37 (0, 0))) := ⟨(hg1.block b (by have := HBs.out; simp; omega) (fun h => hne0 b h.symm rfl)).trans Hbr.out⟩
              have c1 := row_cell Hb1.out 0
              have f1 := row_free Hb1.out 0
              have HR1 := Aside0.mk hR1
              have HB1 := Aside0.mk hB1
              clear hR1 hB1 hg1 hat1
              refine hK _ _ ?_
              clear hK K
              refine wpAny_ready (rs := [7]) (by kernel_rfl) (by simp) ?_
              refine AllReady.cons rfl (fun K hK => ?_) ?_
              focus
                go_simp
                refine hK _ _ ?_
                clear hK K
                refine wpAny_ready (rs := [8]) (by kernel_rfl) (by simp) ?_
                refine AllReady.cons rfl (fun K hK => ?_) ?_
                focus
                  go_simp
                  refine hK _ _ ?_
                  clear hK K
                  refine wpAny_done (by kernel_rfl) ?_ _
                  go_wp2_with fail
                  go_end0
                  exact ⟨rfl, Scr.set Hb1.out HR1.out, HB1.out.setCell hbase _⟩
                exact AllReady.nil
              exact AllReady.nil
            exact AllReady.nil
          exact AllReady.nil
        refine AllReady.cons rfl (fun K hK => ?_) ?_
        focus
          go_simp
          refine hK _ _ ?_
          clear hK K
          refine wpAny_ready (rs := [3]) (by kernel_rfl) (by simp) ?_
          refine AllReady.cons rfl (fun K hK => ?_) ?_
          focus
            go_simp
            refine hK _ _ ?_
            clear hK K
            refine wpAny_ready (rs := [6]) (by kernel_rfl) (by simp) ?_
            refine AllReady.cons rfl (fun K hK => ?_) ?_
            focus
              refine Kd.R_append_step k34 (w0 := w) (W := wr.drew) base (by rfl) (.tmp 35) (.tmp 37) 37 34 z34v 40 rfl Try.underlying37 infoOp rfl (by decide) (by decide) u xs ⟨kind, a0, a1, a2, 0⟩ [.int .i64 kind, .int .i64 a0, .int .i64 a1, .int .i64 a2, .int .u32 0] (fun q => q ≠ b) (fun _ => False) rfl rfl (k34_mkM _ base _ _) (fun _ h => h.elim) ?_ HRr.out HBr.out ?_ (by omega) ?_
              focus
                intro k hk
                have := HBs.out
                simp at hk
                omega
              focus
                have := HBs.out
                simp
                omega
              intro v1 w1 hR1 hB1 hg1 hat1
              obtain ⟨ad, n1, cp, rfl⟩ := R_slice hR1
              have Hb1 : Aside0 (w1.heap[b]? = some (.cells #[u] 37 (0, 0))) := ⟨(hg1.block b (by have := HBs.out; simp; omega) (fun h => hne0 b h.symm rfl)).trans Hbr.out⟩
              have c1 := row_cell Hb1.out 0
              have f1 := row_free Hb1.out 0
              have HR1 := Aside0.mk hR1
              have HB1 := Aside0.mk hB1
              clear hR1 hB1 hg1 hat1
              refine hK _ _ ?_
              clear hK K
              refine wpAny_ready (rs := [7]) (by kernel_rfl) (by simp) ?_
              refine AllReady.cons rfl (fun K hK => ?_) ?_
              focus
                go_simp
                refine hK _ _ ?_
                clear hK K
                refine wpAny_ready (rs := [8]) (by kernel_rfl) (by simp) ?_
                refine AllReady.cons rfl (fun K hK => ?_) ?_
                focus
                  go_simp
                  refine hK _ _ ?_
                  clear hK K
                  refine wpAny_done (by kernel_rfl) ?_ _
                  go_wp2_with fail
                  go_end0
                  exact ⟨rfl, Scr.set Hb1.out HR1.out, HB1.out.setCell hbase _⟩
                exact AllReady.nil
              exact AllReady.nil
            exact AllReady.nil
          exact AllReady.nil
        exact AllReady.nil
      exact AllReady.nil
end Go.Proofs.Ytampnfmhmonebaa.QWorkShapes
