/- A ground is made. -/
/- A heap is made, or a configuration that may not be makes none. -/
import Derived.Test.YtadhdjldcpkfiaaGreatDoorR
import Derived.Test.YtadhdjldcpkfiaaGreatDoorT8
import Derived.Test.YtadhdjldcpkfiaaGreatDoorN
import Derived.Test.YtadhdjldcpkfiaaGreatDoorS2
namespace Go.Proofs.YtadhdjldcpkfiaaGreatDoor
set_option linter.unusedVariables false
set_option linter.unusedSimpArgs false
open Go.RowKit
set_option maxRecDepth 100000
set_option maxHeartbeats 1600000

theorem gsNew_ok (N W R K : Int) (n0 : 1 ≤ N) (n1 : N ≤ 1048576) (w0 : 16 ≤ W) (w1 : W ≤ 256) (r0 : 1 ≤ R) (r1 : R ≤ 4096) (k0 : 1 ≤ K) (k1 : K ≤ 65536) (hp : N * W ≤ 4194304) : (gsNew N W R K).Ok := by
  have h0 : 0 ≤ N * W := Int.mul_nonneg (by omega) (by omega)
  refine ⟨n0, n1, w0, w1, r0, r1, k0, k1, hp, ?_, ?_⟩
  · show ((List.replicate _ _).length : Int) = _
    rw [List.length_replicate]
    show _ = 24 + R + N * W
    omega
  · intro i
    show 0 ≤ (List.replicate _ (0 : Int)).getD i 0 ∧ (List.replicate _ (0 : Int)).getD i 0 ≤ _
    rw [List.getD_eq_getElem?_getD, List.getElem?_replicate]
    split <;> simp

theorem gNew_c (N W R K : Int) (w : World) (HZ : NoneZ w) (h : plCheck N W R K = 0) (n0 : 1 ≤ N) (n1 : N ≤ 1048576) (w0 : 16 ≤ W) (w1 : W ≤ 256) (r0 : 1 ≤ R) (r1 : R ≤ 4096) (k0 : 1 ≤ K) (k1 : K ≤ 65536) (hp : N * W ≤ 4194304) :
    Calls Tryz.prog 143 #[.agg #[.int .i64 N, .int .i64 W, .int .i64 R, .int .i64 K]] w (fun e w' => ∃ A : GA, Made w (.tuple #[.pointer (some ⟨A.g, 0, none⟩), .int .i64 0]) e w' ∧ Held A (gsNew N W R K) w' ∧ w.heap.size ≤ A.g ∧ w.heap.size ≤ A.s ∧ w.heap.size ≤ A.a) := by
  have HP0 : Hd (0 ≤ N * W) := ⟨Int.mul_nonneg (by omega) (by omega)⟩
  have HOK := Hd.mk (gsNew_ok N W R K n0 n1 w0 w1 r0 r1 k0 k1 hp)
  have HC := Hd.mk (fun w => Of_ok N W R K w h n0 n1 w0 w1 r0 r1 k0 k1)
  have HP := Hd.mk hp
  clear h hp
  have HZ' := Hd.mk HZ
  clear HZ
  go_enter Tryz.func143, Tryz.ntmps143
  go_wp2_with fail
  refine (HC.out _).mono ?_
  rintro _ wa ⟨X, hX, ⟨rfl, K1⟩⟩
  clear hX
  have B0 : Blk wa w.heap.size 46 #[.int .i64 N, .int .i64 W, .int .i64 R, .int .i64 K] := Blk.stays (Blk.new w 46 #[.int .i64 N, .int .i64 W, .int .i64 R, .int .i64 K]) K1 (fun x => x)
  go_wp2_with fail
  have hw : 0 ≤ 24 + (R + N * W) ∧ 24 + (R + N * W) ≤ 8388608 := by have := HP.out; have := HP0.out; omega
  refine (stNew_c _ hw.1 hw.2 _).mono ?_
  rintro _ wb ⟨s, a, ⟨rfl, K2⟩, hs, ha, hsa, BS, BA⟩
  have B1 : Blk wb w.heap.size 46 #[.int .i64 N, .int .i64 W, .int .i64 R, .int .i64 K] := (B0.alloc _).stays K2 (fun x => x)
  have c0 := B1.cell 0
  have c1 := B1.cell 1
  have c2 := B1.cell 2
  have c3 := B1.cell 3
  have z1 : w.heap.size + 1 ≤ wa.heap.size := by have := K1.size; simpa using this
  have z2 : wa.heap.size + 1 ≤ wb.heap.size := by have := K2.size; simpa using this
  go_wp2_with fail
  go_ret2
  have hs' : wa.heap.size + 1 ≤ s := by simpa using hs
  have ha' : wa.heap.size + 1 ≤ a := by simpa using ha
  have hz := NoneZ.lt HZ'.out
  have hlen : (gsNew N W R K).ws.length = (24 + (R + N * W)).toNat := by
    show (List.replicate _ _).length = _
    rw [List.length_replicate]
    congr 1
    omega
  have KK : Stays (fun _ => False) w wb := ((((Stays.refl _ _).alloc _).trans K1).alloc _).trans K2
  refine ⟨⟨wb.heap.size, s, a⟩, ⟨rfl, by with_reducible repeat (first | exact KK | apply zsa | apply zsd)⟩, ⟨HOK.out, ?_, ?_, hsa, ?_, ?_, ?_, ?_, ?_, ?_⟩, ?_, ?_, ?_⟩
  · have := BS.lt; show wb.heap.size ≠ s; omega
  · have := BA.lt; show wb.heap.size ≠ a; omega
  · show s ≠ _; omega
  · show a ≠ _; omega
  · exact (HZ'.out.stays KK (fun x => x)).alloc _
  · exact Blk.new _ _ _
  · rw [hlen]
    exact BS.alloc _
  · have e : ((gsNew N W R K).ws.map (Value.int .u32)).toArray = (List.replicate (24 + (R + N * W)).toNat (.int .u32 0)).toArray := by
      show ((List.replicate _ _).map _).toArray = _
      rw [List.map_replicate]
      congr 2
      omega
    rw [e]
    exact BA.alloc _
  · show w.heap.size ≤ wb.heap.size; omega
  · show w.heap.size ≤ s; omega
  · show w.heap.size ≤ a; omega

/-- quitrentlaw12.Opened, where the pool opens. -/
theorem Opened_c (N W R K : Int) (w : World) (HZ : NoneZ w) (h : plCheck N W R K = 0) (n0 : 1 ≤ N) (n1 : N ≤ 1048576) (w0 : 16 ≤ W) (w1 : W ≤ 256) (r0 : 1 ≤ R) (r1 : R ≤ 4096) (k0 : 1 ≤ K) (k1 : K ≤ 65536) (hp : N * W ≤ 4194304) {T : GS} (e : poOpen (gsNew N W R K) = (true, T)) :
    Calls Tryz.prog 96 #[.agg #[.int .i64 N, .int .i64 W, .int .i64 R, .int .i64 K]] w (fun e w' => ∃ (A : GA) (b : Nat), Made w (.tuple #[.pointer (some ⟨A.g, 0, none⟩), .pointer (some ⟨b, 0, none⟩), .bool true]) e w' ∧ Held A T w' ∧ (∀ k, A.foot k → w.heap.size ≤ k)) := by
  have HC := Hd.mk (fun w HZ => gNew_c N W R K w HZ h n0 n1 w0 w1 r0 r1 k0 k1 hp)
  have HR := Hd.mk (fun w => rNew12_c N W (by omega) n1 w)
  have HZ' := Hd.mk HZ
  have E := Hd.mk e
  clear h n0 n1 w0 w1 r0 r1 k0 k1 hp HZ e
  go_enter Tryz.func96, Tryz.ntmps96
  go_wp2_with fail
  refine (HC.out _ (HZ'.out.alloc _)).mono ?_
  rintro _ wa ⟨A, ⟨rfl, K1⟩, H1, g1, g2, g3⟩
  have B0 : Blk wa w.heap.size 46 #[.int .i64 N, .int .i64 W, .int .i64 R, .int .i64 K] := Blk.stays (Blk.new w 46 #[.int .i64 N, .int .i64 W, .int .i64 R, .int .i64 K]) K1 (fun x => x)
  go_wp2_with fail
  refine (poOpen_c H1 E.out).mono ?_
  rintro _ wb ⟨rfl, H2, K2⟩
  have hA : ¬ A.foot w.heap.size := by
    rintro (h | h)
    · simp at g2; omega
    · simp at g3; omega
  have B1 := B0.stays K2 hA
  have c0 := B1.cell 0
  have c1 := B1.cell 1
  have KF : Stays (fun _ => False) w wb := by
    refine ⟨?_, ?_, ?_, ?_, ?_⟩
    · exact K2.os.trans K1.os
    · exact K2.tape.trans K1.tape
    · exact K2.output.trans K1.output
    · have := K1.size; have := K2.size; simp at *; omega
    · intro k hk _
      have h1 := ((Stays.refl (fun _ => False) w).alloc (.cells #[.int .i64 N, .int .i64 W, .int .i64 R, .int .i64 K] 46)).trans K1
      have hz := h1.size
      rw [K2.block k (by omega) (by rintro (h | h) <;> (simp at g2 g3; omega)), h1.block k hk (fun x => x)]
  clear c0 c1
  have c0 := B1.cell 0
  have c1 := B1.cell 1
  go_wp2_with fail
  refine (HR.out _).mono ?_
  rintro _ wc ⟨b, rfl, K3⟩
  go_wp2_with fail
  go_ret3
  exact ⟨A, b, ⟨rfl, KF.trans K3⟩, H2.stays K3 (fun _ _ x => x), fun k hk => by
    simp at g2 g3
    rcases hk with h | h <;> omega⟩
theorem Stays.fresh {F : Nat → Prop} {w w1 w2 : World} (h : Stays (fun _ => False) w w1) (k : Stays F w1 w2) (hF : ∀ b, F b → w.heap.size ≤ b) : Stays (fun _ => False) w w2 :=
  ⟨k.os.trans h.os, k.tape.trans h.tape, k.output.trans h.output, Nat.le_trans h.size k.size, fun b hb _ => by
    have hz := h.size
    rw [k.block b (by omega) (fun x => by have := hF b x; omega), h.block b hb (fun x => x)]⟩
end Go.Proofs.YtadhdjldcpkfiaaGreatDoor
namespace Go.Proofs.YtadhdjldcpkfiaaGreatDoor
set_option linter.unusedVariables false
set_option linter.unusedSimpArgs false
open Go.RowKit
set_option maxRecDepth 100000
set_option maxHeartbeats 1600000

theorem gNewBad_c (N W R K : Int) (w : World) (h : plCheck N W R K = 1) :
    Calls Tryz.prog 143 #[.agg #[.int .i64 N, .int .i64 W, .int .i64 R, .int .i64 K]] w (Made w (.tuple #[.pointer none, .int .i64 1])) := by
  have HC := Hd.mk (fun w => Of_bad N W R K w h)
  clear h
  go_enter Tryz.func143, Tryz.ntmps143
  go_wp2_with fail
  refine (HC.out _).mono ?_
  rintro _ wa ⟨rfl, K1⟩
  go_wp2_with fail
  go_ret2
  refine ⟨rfl, ?_⟩
  with_reducible repeat (first | apply zsd | apply zsa)
  refine Stays.trans ?_ K1
  with_reducible repeat (first | apply zsd | apply zsa)
  exact Stays.refl _ _
theorem hNewBad_c (N W R K : Int) (w : World) (h : plCheck N W R K = 1) :
    Calls Tryz.prog 65 #[.agg #[.int .i64 N, .int .i64 W, .int .i64 R, .int .i64 K]] w (Made w (.tuple #[.pointer none, .int .i64 1])) := by
  have HC := Hd.mk (fun w => gNewBad_c N W R K w h)
  clear h
  go_enter Tryz.func65, Tryz.ntmps65
  go_wp2_with fail
  refine (HC.out _).mono ?_
  rintro _ wa ⟨rfl, K1⟩
  go_wp2_with fail
  go_ret2
  refine ⟨rfl, ?_⟩
  with_reducible repeat (first | apply zsd | apply zsa)
  refine Stays.trans ?_ K1
  with_reducible repeat (first | apply zsd | apply zsa)
  exact Stays.refl _ _

/-- The state of a heap that is new. -/
def newS (N W R K : Int) : GS := (poOpen (gsNew N W R K)).2
theorem plCheck_pos {N W R K : Int} (h : plCheck N W R K = 0) : 1 ≤ N ∧ N ≤ 1048576 ∧ 16 ≤ W ∧ W ≤ 256 ∧ 1 ≤ R ∧ R ≤ 4096 ∧ 1 ≤ K ∧ K ≤ 65536 ∧ N * W ≤ 4194304 := by
  unfold plCheck at h
  split at h
  · rename_i h'
    simp [inB] at h'
    omega
  · cases h
/-- A heap's blocks are all younger. -/
structure Young (A : GA) (hb : Nat) (n : Nat) : Prop where
  g : n ≤ A.g
  s : n ≤ A.s
  a : n ≤ A.a
  h : n ≤ hb
theorem hNew_c (N W R K : Int) (w : World) (HZ : NoneZ w) (h : plCheck N W R K = 0) :
    Calls Tryz.prog 65 #[.agg #[.int .i64 N, .int .i64 W, .int .i64 R, .int .i64 K]] w (fun e w' => ∃ (A : GA) (hb : Nat), Made w (.tuple #[.pointer (some ⟨hb, 0, none⟩), .int .i64 0]) e w' ∧ HeapAt A hb (newS N W R K) w' ∧ Young A hb w.heap.size) := by
  obtain ⟨n0, n1, w0, w1, r0, r1, k0, k1, hp⟩ := plCheck_pos h
  have HC := Hd.mk (fun w HZ => gNew_c N W R K w HZ h n0 n1 w0 w1 r0 r1 k0 k1 hp)
  obtain ⟨v, T, e⟩ : ∃ v T, poOpen (gsNew N W R K) = (v, T) := ⟨_, _, rfl⟩
  have hT : newS N W R K = T := by unfold newS; rw [e]
  rw [hT]
  have HZ' := Hd.mk HZ
  have E := Hd.mk e
  clear h n0 n1 w0 w1 r0 r1 k0 k1 hp HZ e hT
  go_enter Tryz.func65, Tryz.ntmps65
  go_wp2_with fail
  refine (HC.out _ (HZ'.out.alloc _)).mono ?_
  rintro _ wa ⟨A, ⟨rfl, K1⟩, H1, g1, g2, g3⟩
  go_wp2_with fail
  refine (poOpen_c H1 E.out).mono ?_
  rintro _ wb ⟨rfl, H2, K2⟩
  go_wp2_with fail
  go_ret2
  have g1' : w.heap.size + 1 ≤ A.g := by simpa using g1
  have g2' : w.heap.size + 1 ≤ A.s := by simpa using g2
  have g3' : w.heap.size + 1 ≤ A.a := by simpa using g3
  have z1 : w.heap.size + 1 ≤ wa.heap.size := by have := K1.size; simpa using this
  have z2 := K2.size
  have KF : Stays (fun _ => False) w wb := by
    refine Stays.fresh (((Stays.refl (fun _ => False) w).alloc _).trans K1) K2 (fun b hb => ?_)
    rcases hb with rfl | rfl <;> omega
  refine ⟨A, wb.heap.size, ⟨rfl, by with_reducible repeat (first | exact KF | apply zsa | apply zsd)⟩, ⟨?_, ?_, ?_⟩, ⟨by omega, by omega, by omega, by omega⟩⟩
  · with_reducible repeat (first | exact H2 | apply zha | apply zhd)
  · repeat (first | exact Blk.new _ _ _ | with_reducible apply Blk.drew)
  · exact GA.foot_far H2.top
end Go.Proofs.YtadhdjldcpkfiaaGreatDoor
