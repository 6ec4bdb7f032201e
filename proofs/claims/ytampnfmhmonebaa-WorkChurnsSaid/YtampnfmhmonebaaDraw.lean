/- What (*source).below and quitrentref29.Draw do. -/
import Derived.Test.YtampnfmhmonebaaList
namespace Go.Proofs.Ytampnfmhmonebaa.QWorkShapes
open Go.RowKit Go.Proofs.YtampnfmhmonebaaW.PrintWords Go.Proofs.YtampnfmhmonebaaW.PrintLast Go.Proofs.YtampnfmhmonebaaW.PrintMore
set_option linter.unusedVariables false
set_option linter.unusedSimpArgs false
set_option maxRecDepth 100000
set_option maxHeartbeats 1600000

/-- The number behind. -/
def nx (x : Int) : Int := IntKind.u64.wrap (IntKind.u64.wrap (x * 6364136223846793005) + 1442695040888963407)
/-- What is drawn. -/
def dr (y k : Int) : Int := wrap64 ((y / 8589934592).tmod k)
theorem nx_range (x : Int) : 0 ≤ nx x ∧ nx x < 18446744073709551616 := by
  unfold nx
  generalize IntKind.u64.wrap (x * 6364136223846793005) + 1442695040888963407 = y
  simp only [IntKind.wrap, IntKind.bits, IntKind.signed]
  constructor
  · exact Int.emod_nonneg _ (by decide)
  · exact Int.emod_lt_of_pos _ (by decide)
theorem dr_eq {y k : Int} (hy : 0 ≤ y ∧ y < 18446744073709551616) (hk : 0 < k ∧ k ≤ 5000) : dr y k = (y / 8589934592) % k := by
  unfold dr
  have h0 : 0 ≤ y / 8589934592 := Int.ediv_nonneg hy.1 (by decide)
  rw [Int.tmod_eq_emod_of_nonneg h0]
  have h1 := Int.emod_nonneg (y / 8589934592) (show k ≠ 0 by omega)
  have h2 := Int.emod_lt_of_pos (y / 8589934592) hk.1
  generalize y / 8589934592 % k = z at *
  unfold wrap64
  omega
theorem dr_range {y k : Int} (hy : 0 ≤ y ∧ y < 18446744073709551616) (hk : 0 < k ∧ k ≤ 5000) : 0 ≤ dr y k ∧ dr y k < k := by
  rw [dr_eq hy hk]
  exact ⟨Int.emod_nonneg _ (by omega), Int.emod_lt_of_pos _ hk.1⟩
theorem dr_tdiv {y k : Int} (hy : 0 ≤ y ∧ y < 18446744073709551616) : wrap64 ((IntKind.u64.wrap (y.tdiv 8589934592)).tmod k) = dr y k := by
  unfold dr
  rw [Int.tdiv_eq_ediv_of_nonneg hy.1]
  have h0 : 0 ≤ y / 8589934592 := Int.ediv_nonneg hy.1 (by decide)
  have h1 : y / 8589934592 < 18446744073709551616 := by omega
  have e : IntKind.u64.wrap (y / 8589934592) = y / 8589934592 := by
    generalize y / 8589934592 = z at *
    simp only [IntKind.wrap, IntKind.bits, IntKind.signed]
    exact Int.emod_eq_of_lt h0 h1
  rw [e]

theorem below_calls {w : World} {g : Nat} {x : Int} (HG : w.heap[g]? = some (.cells #[.int .u64 x] 35 (0, 0))) (hx : 0 ≤ x ∧ x < 18446744073709551616) (k : Int) (hk : 0 < k ∧ k ≤ 5000) :
    Calls Try.prog 20 #[.pointer (some ⟨g, 0, none⟩), .int .i64 k] w fun e w' => e = .returned (.int .i64 (dr (nx x) k)) ∧ w' = w.setCell ⟨g, 0, none⟩ (.int .u64 (nx x)) := by
  have hlt : g < w.heap.size := by
    rcases Nat.lt_or_ge g w.heap.size with h' | h'
    · exact h'
    · rw [Array.getElem?_eq_none (by omega)] at HG
      cases HG
  have cx := row_cell HG 0
  have fx := row_free HG 0
  go_enter Try.func20, Try.ntmps20
  go_wp2_with fail
  go_ret
  exact ⟨rfl, rfl⟩

theorem Draw_calls (w : World) (x : Int) (hx : 0 ≤ x ∧ x < 18446744073709551616) (k : Int) (hk : 0 < k ∧ k ≤ 5000) :
    Calls Try.prog 23 #[.int .u64 x, .int .i64 k] w fun e w' => e = .returned (.tuple #[.int .i64 (dr (nx x) k), .int .u64 (nx x)]) ∧ w' = w := by
  rw [← dr_tdiv (k := k) (nx_range x)]
  unfold nx
  go_enter Try.func23, Try.ntmps23
  go_wp2_with fail
  go_ret2
  exact ⟨rfl, rfl⟩
end Go.Proofs.Ytampnfmhmonebaa.QWorkShapes
