/- op.Run, op.First, quitrentref22.Same. Nothing is asked. -/
import Derived.Test.YtadhdjldcpkfiaaGreatDoorAn
namespace Go.Proofs.YtadhdjldcpkfiaaGreatDoor
set_option linter.unusedVariables false
set_option linter.unusedSimpArgs false
open Go.RowKit
set_option maxRecDepth 100000
set_option maxHeartbeats 3200000

theorem Run_c {A : GA} {hA : Nat} {S : GS} (w0 w : World) (H : HeapAt A hA S w) (A0 : Option Addr) (cap : Nat) (l : List Op5) (HL : OpsIn w0 A0 l) (K : Stays (fun _ => False) w0 w) (FA : ∀ k, A.foot k → w0.heap.size ≤ k) (hl : l.length ≤ 400) :
    Calls Tryz.prog 74 #[.pointer (some ⟨hA, 0, none⟩), .slice A0 l.length cap] w fun e w' => ∃ v, e = .returned v ∧ Outs w' w.heap.size v l.length (anO S l) ∧ HeapAt A hA (stO S l l.length) w' ∧ Stays A.foot w w' := by
  have HS := Hd.mk H
  have HL' := Hd.mk HL
  have K' := Hd.mk K
  have FA' := Hd.mk FA
  clear H HL K FA
  obtain ⟨i0, hi, hz0, hz1, hz2⟩ := info_parts infoAns
  have HI := Hd.mk hi
  have HZ0 := Hd.mk hz0
  have HZ1 := Hd.mk hz1
  have HZ2 := Hd.mk hz2
  clear hi hz0 hz1 hz2
  go_enter Tryz.func74, Tryz.ntmps74
  go_wp2_with fail
  go_loopw [5, 10] (fun v i wr => ∃ j : Nat, j ≤ l.length ∧ i = .int .i64 j ∧ Hd (Outs wr w.heap.size v j (anO S l)) ∧ Hd (HeapAt A hA (stO S l j) wr) ∧ Hd (Stays A.foot w wr)) (fun _ i _ => l.length - (intOf i).toNat)
  case atStart => exact ⟨0, by omega, rfl, ⟨Outs.nil _ _ _⟩, HS, ⟨Stays.refl _ _⟩⟩
  case round =>
    obtain ⟨j, hj, rfl, HO, HA, KU⟩ := hrel
    by_cases cj : j < l.length
    · obtain ⟨bb, off, hA0, x0, x1, x2, x3, x4⟩ := HL'.out.at_ j cj
      have hov := HL'.out.rng l[j] (List.getElem_mem _)
      subst hA0
      have KW : Stays (fun _ => False) w0 wr := Stays.fresh K'.out KU.out FA'.out
      have lt0 := World.block_lt_of_cell? w0 _ x0
      have y0 := (KW.cell (p := ⟨bb, off + j * 5, none⟩) lt0 (fun x => x)).trans x0
      have y1 := (KW.cell (p := ⟨bb, off + j * 5 + 1, none⟩) lt0 (fun x => x)).trans x1
      have y2 := (KW.cell (p := ⟨bb, off + j * 5 + 2, none⟩) lt0 (fun x => x)).trans x2
      have y3 := (KW.cell (p := ⟨bb, off + j * 5 + 3, none⟩) lt0 (fun x => x)).trans x3
      have y4 := (KW.cell (p := ⟨bb, off + j * 5 + 4, none⟩) lt0 (fun x => x)).trans x4
      have hgd : l.getD j default = l[j] := by simp [List.getD_eq_getElem?_getD, cj]
      obtain ⟨o, ho⟩ : ∃ o, l[j] = o := ⟨_, rfl⟩
      have hst : stO S l (j + 1) = (doO o (stO S l j)).2 := by rw [← ho, ← hgd]; rfl
      have han : anO S l j = (doO o (stO S l j)).1 := by rw [← ho, ← hgd]; rfl
      rw [ho] at y0 y1 y2 y3 y4 hov
      clear x0 x1 x2 x3 x4 ho lt0 hgd KW
      obtain ⟨k1, a1, b1, c1, v1⟩ := o
      dsimp only at y0 y1 y2 y3 y4 hov
      generalize hSj : stO S l j = Sj at *
      obtain ⟨ans, T, eO⟩ : ∃ ans T, doO ⟨k1, a1, b1, c1, v1⟩ Sj = (ans, T) := ⟨_, _, rfl⟩
      rw [eO] at hst han
      have EO := Hd.mk eO
      have HST := Hd.mk hst
      have HAN := Hd.mk han
      have HOV := Hd.mk hov
      have HL4 := Hd.mk hl
      have hme := Hd.mk (show l.length - ((j : Int) + 1).toNat < l.length - (j : Int).toNat by omega)
      have hj1 := Hd.mk (show j + 1 ≤ l.length by omega)
      have cb : decide ((j : Int) < (l.length : Int)) = true := decide_eq_true (by omega)
      have HAx := Hd.mk (HA.out.made ((Stays.refl (fun _ => False) wr).alloc (.cells #[.int .i64 k1, .int .i64 a1, .int .i64 b1, .int .i64 c1, .int .u32 v1] 53)))
      have HOx := Hd.mk (HO.out.stays ((Stays.refl (fun _ => False) wr).alloc (.cells #[.int .i64 k1, .int .i64 a1, .int .i64 b1, .int .i64 c1, .int .u32 v1] 53)) (fun _ _ _ x => x))
      have KUx := Hd.mk (KU.out.alloc (.cells #[.int .i64 k1, .int .i64 a1, .int .i64 b1, .int .i64 c1, .int .u32 v1] 53))
      have hlw := (HS.out.held.top)
      have hlt := HS.out.lts
      clear eO hst han hov
      go_wp2_with fail
      refine (doO_x HAx.out HOV.out EO.out).mono ?_
      rintro _ w5 ⟨rfl, HA5, K5⟩
      have HA5 := Hd.mk HA5
      have HO5 := Hd.mk (HOx.out.stays K5 (fun b hb _ hf => by
        rcases hf with rfl | rfl <;> omega))
      have KU5 := Hd.mk (KUx.out.trans K5)
      have hsz := KU5.out.size
      clear K5
      go_wp2_with (at_builtin; refine wpList_append_own _ rfl _ _ 76 rfl w.heap.size 56 i0 _ 4 32 Tryz.underlying76 HI.out HZ0.out HZ1.out HZ2.out rfl (by decide) _ j (anCells (anO S l) j) rfl (World.ownsRow.alloc HO5.out _) ⟨w5.heap.size, 0, none⟩ 1 1 [.int .i64 ans.err, .int .i64 ans.n, .int .i64 ans.m, .int .u32 ans.v] rfl rfl ?c1 ?c2 ?c3 ?c4 ?c5 ?_)
      case c1 =>
        intro q u hq
        have hb := Blk.new w5 56 #[.int .i64 ans.err, .int .i64 ans.n, .int .i64 ans.m, .int .u32 ans.v]
        match q, hq with
        | 0, hq => exact (hb.cell 0).trans hq
        | 1, hq => exact (hb.cell 1).trans hq
        | 2, hq => exact (hb.cell 2).trans hq
        | 3, hq => exact (hb.cell 3).trans hq
      case c2 =>
        intro u hu
        simp at hu
        rcases hu with rfl | rfl | rfl | rfl <;> rfl
      case c3 =>
        have := HL4.out
        simp only [maxLen]
        omega
      case c4 =>
        have := HL4.out
        omega
      case c5 => simp; omega
      intro v2 w6 hown hgrow _
      have HO6 : Hd (Outs w6 w.heap.size v2 (j + 1) (anO S l)) := ⟨Outs.add HAN.out hown⟩
      have KG := Stays.grownBy hgrow (fun k hk => (World.ownsRow.lt HO5.out k hk).1)
      have K6 := Hd.mk ((Stays.refl (fun k => w.heap.size ≤ k) w5).alloc (.cells #[.int .i64 ans.err, .int .i64 ans.n, .int .i64 ans.m, .int .u32 ans.v] 56) |>.trans KG)
      have HA6 : Hd (HeapAt A hA (stO S l (j + 1)) w6) := ⟨by
        rw [HST.out]
        exact HA5.out.stays K6.out (fun b hb hf => by
          have := HS.out.held.z.lt
          rcases hb with rfl | rfl | rfl | rfl <;> omega) (by omega)⟩
      have KU6 := Hd.mk (Stays.freshF KU5.out K6.out (fun _ x => x))
      clear hown hgrow KG K6 HA5 HO5 KU5
      go_wp2_with fail
      go_roundw
      case rel => exact ⟨j + 1, hj1.out, by first | rfl | simp, HO6, HA6, KU6⟩
      case measure =>
        first
          | exact hme.out
          | (simp only [intOf]; exact hme.out)
    · have cb : decide ((j : Int) < (l.length : Int)) = false := decide_eq_false (by omega)
      obtain rfl : j = l.length := by omega
      go_wp2_with fail
      go_ret
      exact ⟨_, rfl, HO.out, HA.out, KU.out⟩
end Go.Proofs.YtadhdjldcpkfiaaGreatDoor
