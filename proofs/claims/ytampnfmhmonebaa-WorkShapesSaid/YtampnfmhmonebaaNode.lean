/- What (*script).node and work.List do. -/
import Derived.Test.YtampnfmhmonebaaAdd
namespace Go.Proofs.Ytampnfmhmonebaa.QWorkShapes
open Go.RowKit Go.Proofs.YtampnfmhmonebaaW.PrintWords Go.Proofs.YtampnfmhmonebaaW.PrintLast Go.Proofs.YtampnfmhmonebaaW.PrintMore
set_option linter.unusedVariables false
set_option linter.unusedSimpArgs false
set_option maxRecDepth 100000
set_option maxHeartbeats 1600000

theorem Scr.below {w w' : World} {base b : Nat} {xs : List S34} (h : Scr w base b xs) (k : Below w.heap.size w w') : Scr w' base b xs := by
  have hlt := h.lt
  obtain ⟨v, hb, hR⟩ := h.out
  exact ⟨⟨v, (k.block b hlt).trans hb, Kd.R_below hR k⟩⟩
theorem Scr.alloc {w : World} {base b : Nat} {xs : List S34} (h : Scr w base b xs) (o : Obj) : Scr (w.alloc o) base b xs := h.below ((Below.refl _ _).alloc (Nat.le_refl _) o)

def nodeOps (i : Int) : List S34 := [⟨1, 1, 1, 1, 0⟩, ⟨5, 1, 0, 0, i % 4294967296⟩, ⟨3, 1, 0, 0, 0⟩, ⟨6, 0, 1, 0, 0⟩]

theorem node_calls {w : World} {base b : Nat} {xs : List S34} (HS : Scr w base b xs) (hbase : base ≤ b) (hl : xs.length ≤ 999990) (i : Int) :
    Calls Try.prog 25 #[.pointer (some ⟨b, 0, none⟩), .int .i64 i] w fun e w' => e = .returned (.tuple #[]) ∧ Scr w' base b (xs ++ nodeOps i) ∧ Below base w w' := by
  have hlt := HS.lt
  go_enter Try.func25, Try.ntmps25
  go_wp2_with fail
  refine (add3_calls (HS.alloc _) hbase (by omega) 1 1 1 1 w.heap.size (heap_alloc_new w _)).mono ?_
  rintro _ w1 ⟨rfl, H1, K1⟩
  go_wp2_with fail
  refine (write_calls H1 hbase (by simp; omega) 1 i).mono ?_
  rintro _ w2 ⟨rfl, H2, K2⟩
  go_wp2_with fail
  refine (add3_calls (H2.alloc _) hbase (by simp; omega) 3 1 0 0 w2.heap.size (heap_alloc_new w2 _)).mono ?_
  rintro _ w3 ⟨rfl, H3, K3⟩
  go_wp2_with fail
  refine (add2_calls (H3.alloc _) hbase (by simp; omega) 6 0 1 w3.heap.size (heap_alloc_new w3 _)).mono ?_
  rintro _ w4 ⟨rfl, H4, K4⟩
  go_wp2_with fail
  go_end0
  have l2 := H2.lt
  have l3 := H3.lt
  refine ⟨rfl, ?_, ?_⟩
  · simpa [nodeOps, List.append_assoc] using H4
  · have A0 := (Below.refl base w).alloc (by omega) (.cells #[.int .i64 1, .int .i64 1, .int .i64 1] 3)
    have A1 := (A0.trans K1).trans K2
    exact ((A1.alloc (by omega) _).trans K3).alloc (by omega) _ |>.trans K4
end Go.Proofs.Ytampnfmhmonebaa.QWorkShapes
