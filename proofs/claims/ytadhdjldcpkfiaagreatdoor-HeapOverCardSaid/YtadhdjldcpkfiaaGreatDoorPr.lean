/- Two heaps side by side. Nothing is asked. -/
import Derived.Test.YtadhdjldcpkfiaaGreatDoorDo
import Derived.Test.YtadhdjldcpkfiaaGreatDoorN2
import Derived.Test.YtadhdjldcpkfiaaGreatDoorOp
import Derived.Test.YtadhdjldcpkfiaaGreatDoorB22
namespace Go.Proofs.YtadhdjldcpkfiaaGreatDoor
set_option linter.unusedVariables false
set_option linter.unusedSimpArgs false
open Go.RowKit
set_option maxRecDepth 100000
set_option maxHeartbeats 3200000

/-- No block of the one is one of the other's. -/
structure Apart (A : GA) (hA : Nat) (B : GA) (hB : Nat) : Prop where
  ab : ∀ k, A.foot k → k ≠ B.g ∧ k ≠ B.s ∧ k ≠ B.a ∧ k ≠ hB
  ba : ∀ k, B.foot k → k ≠ A.g ∧ k ≠ A.s ∧ k ≠ A.a ∧ k ≠ hA
theorem Apart.symm {A B : GA} {hA hB : Nat} (h : Apart A hA B hB) : Apart B hB A hA := ⟨h.ba, h.ab⟩
theorem Apart.of {A B : GA} {hA hB n m : Nat} (ya : A.g < m ∧ A.s < m ∧ A.a < m ∧ hA < m) (yb : Young B hB m) : Apart A hA B hB := by
  obtain ⟨b1, b2, b3, b4⟩ := yb
  constructor
  · rintro k (rfl | rfl) <;> omega
  · rintro k (rfl | rfl) <;> omega
/-- The one is as it was behind what the other has done. -/
theorem HeapAt.beside {A B : GA} {hA hB : Nat} {S T : GS} {w w' : World} (h : HeapAt B hB S w) (a : HeapAt A hA T w) (d : Apart A hA B hB) (k : Stays A.foot w w') : HeapAt B hB S w' := by
  refine h.stays k (fun b hb hf => ?_) (fun hf => ?_)
  · have := d.ab b hf
    rcases hb with rfl | rfl | rfl | rfl
    · exact this.1 rfl
    · exact this.2.1 rfl
    · exact this.2.2.1 rfl
    · rcases hf with h | h
      · exact a.held.zs h.symm
      · exact a.held.za h.symm
  · exact (d.ab hB hf).2.2.2 rfl
theorem HeapAt.made {A : GA} {hA : Nat} {S : GS} {w w' : World} (h : HeapAt A hA S w) (k : Stays (fun _ => False) w w') : HeapAt A hA S w' := h.stays k (fun _ _ x => x) (fun x => x)
theorem HeapAt.lts {A : GA} {hA : Nat} {S : GS} {w : World} (h : HeapAt A hA S w) : A.g < w.heap.size ∧ A.s < w.heap.size ∧ A.a < w.heap.size ∧ hA < w.heap.size :=
  ⟨lt_of_get h.held.hg, lt_of_get h.held.hs, lt_of_get h.held.ha, h.box.lt⟩

theorem OpsIn.made {w w' : World} {A : Option Addr} {l : List Op5} (h : OpsIn w A l) (k : Stays (fun _ => False) w w') : OpsIn w' A l := ⟨fun i hi => by
    obtain ⟨b, off, hA, x0, x1, x2, x3, x4⟩ := h.at_ i hi
    have lt0 := World.block_lt_of_cell? w _ x0
    exact ⟨b, off, hA, (k.cell (p := ⟨b, off + i * 5, none⟩) lt0 (fun x => x)).trans x0, (k.cell (p := ⟨b, off + i * 5 + 1, none⟩) lt0 (fun x => x)).trans x1, (k.cell (p := ⟨b, off + i * 5 + 2, none⟩) lt0 (fun x => x)).trans x2, (k.cell (p := ⟨b, off + i * 5 + 3, none⟩) lt0 (fun x => x)).trans x3, (k.cell (p := ⟨b, off + i * 5 + 4, none⟩) lt0 (fun x => x)).trans x4⟩, h.rng⟩
/-- The state behind so many operations. -/
def stN (S : GS) (l : List Op5) : GS := l.foldl (fun T o => (doL o T).2) S
theorem stN_succ (S : GS) (l : List Op5) (j : Nat) (h : j < l.length) : stN S (l.take (j + 1)) = (doL l[j] (stN S (l.take j))).2 := by
  unfold stN
  rw [List.take_add_one, List.foldl_append]
  simp [h]
theorem doO_x {A : GA} {hb : Nat} {S : GS} {w : World} (H : HeapAt A hb S w) {kd a b c v : Int} (hv : 0 ≤ v ∧ v ≤ 4294967295) {x0 : Ans} {T : GS} (e : doO ⟨kd, a, b, c, v⟩ S = (x0, T)) :
    Calls Tryz.prog 73 #[.pointer (some ⟨hb, 0, none⟩), .agg #[.int .i64 kd, .int .i64 a, .int .i64 b, .int .i64 c, .int .u32 v]] w (fun e w' => e = .returned (.agg #[.int .i64 x0.err, .int .i64 x0.n, .int .i64 x0.m, .int .u32 x0.v]) ∧ HeapAt A hb T w' ∧ Stays A.foot w w') := by
  have h := doO_c (o := ⟨kd, a, b, c, v⟩) H hv e
  unfold Op5.val Ans.val at h
  exact h
theorem doL_x {A : GA} {hb : Nat} {S : GS} {w : World} (H : HeapAt A hb S w) {kd a b c v : Int} (hv : 0 ≤ v ∧ v ≤ 4294967295) {x0 : Ans} {T : GS} (e : doL ⟨kd, a, b, c, v⟩ S = (x0, T)) :
    Calls Tryz.prog 57 #[.pointer (some ⟨hb, 0, none⟩), .agg #[.int .i64 kd, .int .i64 a, .int .i64 b, .int .i64 c, .int .u32 v]] w (fun e w' => e = .returned (.agg #[.int .i64 x0.err, .int .i64 x0.n, .int .i64 x0.m, .int .u32 x0.v]) ∧ HeapAt A hb T w' ∧ Stays A.foot w w') := by
  have h := doL_c (o := ⟨kd, a, b, c, v⟩) H hv e
  unfold Op5.val Ans.val at h
  exact h
end Go.Proofs.YtadhdjldcpkfiaaGreatDoor
