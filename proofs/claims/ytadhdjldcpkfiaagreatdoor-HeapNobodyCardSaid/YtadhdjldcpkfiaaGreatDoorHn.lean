/- A heap is made, or a configuration that may not be makes none. -/
import Derived.Test.YtadhdjldcpkfiaaGreatDoorN2
import Derived.Test.YtadhdjldcpkfiaaGreatDoorS2
namespace Go.Proofs.YtadhdjldcpkfiaaGreatDoor
set_option linter.unusedVariables false
set_option linter.unusedSimpArgs false
open Go.RowKit
set_option maxRecDepth 100000
set_option maxHeartbeats 1600000

theorem gNewBad_c (N W R K : Int) (w : World) (h : plCheck N W R K = 1) :
    Calls Tryz.prog 143 #[.agg #[.int .i64 N, .int .i64 W, .int .i64 R, .int .i64 K]] w (Made w (.tuple #[.pointer none, .int .i64 1])) := by
  have HC := Hd.mk (fun w => Of_bad N W R K w h)
  clear h
  go_enter Tryz.func143, Tryz.ntmps143
  go_wp2_with fail
  refine (HC.out _).mono ?_
  rintro _ wa ⟨rfl, K1⟩
  go_wp2_with fail
  go_ret2
  refine ⟨rfl, ?_⟩
  repeat (first | with_reducible apply Stays.drew | with_reducible apply Stays.alloc)
  refine Stays.trans ?_ K1
  repeat (first | with_reducible apply Stays.drew | with_reducible apply Stays.alloc)
  exact Stays.refl _ _
theorem hNewBad_c (N W R K : Int) (w : World) (h : plCheck N W R K = 1) :
    Calls Tryz.prog 65 #[.agg #[.int .i64 N, .int .i64 W, .int .i64 R, .int .i64 K]] w (Made w (.tuple #[.pointer none, .int .i64 1])) := by
  have HC := Hd.mk (fun w => gNewBad_c N W R K w h)
  clear h
  go_enter Tryz.func65, Tryz.ntmps65
  go_wp2_with fail
  refine (HC.out _).mono ?_
  rintro _ wa ⟨rfl, K1⟩
  go_wp2_with fail
  go_ret2
  refine ⟨rfl, ?_⟩
  repeat (first | with_reducible apply Stays.drew | with_reducible apply Stays.alloc)
  refine Stays.trans ?_ K1
  repeat (first | with_reducible apply Stays.drew | with_reducible apply Stays.alloc)
  exact Stays.refl _ _

/-- The state of a heap that is new. -/
def newS (N W R K : Int) : GS := (poOpen (gsNew N W R K)).2
theorem plCheck_pos {N W R K : Int} (h : plCheck N W R K = 0) : 1 ≤ N ∧ N ≤ 1048576 ∧ 16 ≤ W ∧ W ≤ 256 ∧ 1 ≤ R ∧ R ≤ 4096 ∧ 1 ≤ K ∧ K ≤ 65536 ∧ N * W ≤ 4194304 := by
  unfold plCheck at h
  split at h
  · rename_i h'
    simp [inB] at h'
    omega
  · cases h
/-- A heap's blocks are all younger. -/
structure Young (A : GA) (hb : Nat) (n : Nat) : Prop where
  g : n ≤ A.g
  s : n ≤ A.s
  a : n ≤ A.a
  h : n ≤ hb
theorem hNew_c (N W R K : Int) (w : World) (HZ : NoneZ w) (h : plCheck N W R K = 0) :
    Calls Tryz.prog 65 #[.agg #[.int .i64 N, .int .i64 W, .int .i64 R, .int .i64 K]] w (fun e w' => ∃ (A : GA) (hb : Nat), Made w (.tuple #[.pointer (some ⟨hb, 0, none⟩), .int .i64 0]) e w' ∧ HeapAt A hb (newS N W R K) w' ∧ Young A hb w.heap.size) := by
  obtain ⟨n0, n1, w0, w1, r0, r1, k0, k1, hp⟩ := plCheck_pos h
  have HC := Hd.mk (fun w HZ => gNew_c N W R K w HZ h n0 n1 w0 w1 r0 r1 k0 k1 hp)
  obtain ⟨v, T, e⟩ : ∃ v T, poOpen (gsNew N W R K) = (v, T) := ⟨_, _, rfl⟩
  have hT : newS N W R K = T := by unfold newS; rw [e]
  rw [hT]
  have HZ' := Hd.mk HZ
  have E := Hd.mk e
  clear h n0 n1 w0 w1 r0 r1 k0 k1 hp HZ e hT
  go_enter Tryz.func65, Tryz.ntmps65
  go_wp2_with fail
  refine (HC.out _ (HZ'.out.alloc _)).mono ?_
  rintro _ wa ⟨A, ⟨rfl, K1⟩, H1, g1, g2, g3⟩
  go_wp2_with fail
  refine (poOpen_c H1 E.out).mono ?_
  rintro _ wb ⟨rfl, H2, K2⟩
  go_wp2_with fail
  go_ret2
  have g1' : w.heap.size + 1 ≤ A.g := by simpa using g1
  have g2' : w.heap.size + 1 ≤ A.s := by simpa using g2
  have g3' : w.heap.size + 1 ≤ A.a := by simpa using g3
  have z1 : w.heap.size + 1 ≤ wa.heap.size := by have := K1.size; simpa using this
  have z2 := K2.size
  have KF : Stays (fun _ => False) w wb := by
    refine Stays.fresh (((Stays.refl (fun _ => False) w).alloc _).trans K1) K2 (fun b hb => ?_)
    rcases hb with rfl | rfl <;> omega
  refine ⟨A, wb.heap.size, ⟨rfl, by repeat (first | with_reducible exact KF | with_reducible apply Stays.alloc | with_reducible apply Stays.drew)⟩, ⟨?_, ?_, ?_⟩, ⟨by omega, by omega, by omega, by omega⟩⟩
  · repeat (first | with_reducible exact H2 | with_reducible apply Held.alloc | with_reducible apply Held.drew)
  · repeat (first | exact Blk.new _ _ _ | with_reducible apply Blk.drew)
  · exact GA.foot_far H2.top
end Go.Proofs.YtadhdjldcpkfiaaGreatDoor
