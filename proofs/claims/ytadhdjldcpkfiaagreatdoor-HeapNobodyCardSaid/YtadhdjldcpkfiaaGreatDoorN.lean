/- A store and a ground are made. -/
import Derived.Test.YtadhdjldcpkfiaaGreatDoorR2
import Derived.Test.YtadhdjldcpkfiaaGreatDoorS
import Derived.Laws.MakeOwn
namespace Go.Proofs.YtadhdjldcpkfiaaGreatDoor
set_option linter.unusedVariables false
set_option linter.unusedSimpArgs false
open Go.RowKit
set_option maxRecDepth 100000
set_option maxHeartbeats 1600000

theorem madeCells_one (z : Value) (n : Nat) : madeCells #[z] n = (List.replicate n z).toArray := by
  apply Array.ext
  · simp [madeCells]
  · intro i h1 h2
    simp [madeCells, Nat.mod_one]

theorem stNew_c (n : Int) (n0 : 0 ≤ n) (n1 : n ≤ 8388608) (w : World) :
    Calls Tryz.prog 213 #[.int .i64 n] w (fun e w' => ∃ s a : Nat, Made w (.tuple #[.pointer (some ⟨s, 0, none⟩), .int .i64 0]) e w' ∧ w.heap.size ≤ s ∧ w.heap.size ≤ a ∧ s ≠ a ∧
      Blk w' s 194 #[.slice (some ⟨a, 0, none⟩) n.toNat n.toNat, .int .u64 0] ∧ Blk w' a 51 (List.replicate n.toNat (.int .u32 0)).toArray) := by
  have c1 : decide (n < 0) = false := decide_eq_false (by omega)
  have c2 : decide (8388608 < n) = false := decide_eq_false (by omega)
  have HM : ∀ w : World, (Instr.makeSlice 69 (.int .i64 n) (.int .i64 n)).run Tryz.prog w = .ok (.slice (some ⟨w.heap.size, 0, none⟩) n.toNat n.toNat) (w.alloc (.cells (List.replicate n.toNat (.int .u32 0)).toArray 51)) := by
    intro w
    obtain ⟨i, hi, hx⟩ := Option.map_eq_some_iff.1 (show (Tryz.prog.info? 51).map (fun i => (i.zero, i.size, i.bytes)) = some (some (.int .u32 0), 1, 4) by kernel_rfl)
    simp only [Prod.mk.injEq] at hx
    obtain ⟨hz, hs, hb⟩ := hx
    have := run_make (P := Tryz.prog) w 69 51 i (.int .u32 0) Tryz.underlying69 hi hz .i64 .i64 n n n0 (by omega) (by rw [hb]; omega) (by omega)
    rw [this, hs, Nat.mul_one]
    show Result.ok _ (w.alloc (.cells (madeCells #[.int .u32 0] _) _)) = _
    rw [madeCells_one]
  clear n0 n1
  go_enter Tryz.func213, Tryz.ntmps213
  go_wp2_with fail
  go_ret2
  refine ⟨w.heap.size + 1, w.heap.size, ⟨rfl, ((Stays.refl _ _).alloc _).alloc _⟩, by omega, Nat.le_refl _, by omega, ?_, ?_⟩
  · have := Blk.new (w.alloc (.cells (Array.replicate n.toNat (Value.int .u32 0)) 51)) 194 #[.slice (some ⟨w.heap.size, 0, none⟩) n.toNat n.toNat, .int .u64 0]
    simpa using this
  · have := (Blk.new w 51 (Array.replicate n.toNat (Value.int .u32 0))).alloc (.cells #[.slice (some ⟨w.heap.size, 0, none⟩) n.toNat n.toNat, .int .u64 0] 194)
    simpa using this
end Go.Proofs.YtadhdjldcpkfiaaGreatDoor
