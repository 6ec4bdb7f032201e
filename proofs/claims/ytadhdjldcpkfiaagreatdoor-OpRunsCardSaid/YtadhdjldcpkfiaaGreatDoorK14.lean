/- OpRuns, walked. -/
import Derived.Test.YtadhdjldcpkfiaaGreatDoorAr
import Derived.Test.YtadhdjldcpkfiaaGreatDoorAs
namespace Go.Proofs.YtadhdjldcpkfiaaGreatDoor
set_option linter.unusedVariables false
set_option linter.unusedSimpArgs false
open Go.RowKit
set_option maxRecDepth 100000
set_option maxHeartbeats 8000000

theorem Stays.grownAt {w w' : World} {row : Option Nat} (h : w.grownBy w' row) : Stays (fun k => row = some k) w w' :=
  ⟨h.os, h.tape, h.output, h.size, fun k hk hf => h.block k hk (fun e => hf e.symm)⟩

/-- A row whose own block is not touched. -/
theorem Outs.keeps {w w' : World} {base : Nat} {v : Value} {n : Nat} {f : Nat → Ans} (h : Outs w base v n f) {F : Nat → Prop} (k : Stays F w w') (hF : ∀ b, v.ownBlock = some b → ¬ F b) : Outs w' base v n f := by
  refine ⟨h.1, ?_⟩
  have hl := World.ownsRow.lt h
  rcases h.2 with ⟨h, h0⟩ | ⟨g, cap, cur, rfl, hb, hg, hr⟩
  · exact .inl ⟨h, h0⟩
  · exact .inr ⟨g, cap, cur, rfl, hb, (k.block g (lt_of_get hg) (hF g rfl)).trans hg, hr⟩
theorem AnsIn.made {w w' : World} {A : Option Addr} {n : Nat} {f : Nat → Ans} (h : AnsIn w A n f) (k : Stays (fun _ => False) w w') : AnsIn w' A n f := fun j hj => by
  obtain ⟨b, hA, x0, x1, x2, x3⟩ := h j hj
  have lt0 := World.block_lt_of_cell? w _ x0
  exact ⟨b, hA, (k.cell (p := ⟨b, j * 4, none⟩) lt0 (fun x => x)).trans x0, (k.cell (p := ⟨b, j * 4 + 1, none⟩) lt0 (fun x => x)).trans x1, (k.cell (p := ⟨b, j * 4 + 2, none⟩) lt0 (fun x => x)).trans x2, (k.cell (p := ⟨b, j * 4 + 3, none⟩) lt0 (fun x => x)).trans x3⟩
theorem lawOpRuns_y (N W R K : Int) (A0 : Option Addr) (cap : Nat) (l : List Op5) (e : Int) (w : World) (HZ : NoneZ w) (HN : Name3 w) (HL : OpsIn w A0 l) (hr : (rightC N W R K && rightL l) = true) :
    Calls Tryz.prog 16 #[.agg #[.int .i64 N, .int .i64 W, .int .i64 R, .int .i64 K], .slice A0 l.length cap, .int .i64 e] w (Made w (.bool true)) := by
  have hr' := hr
  simp only [rightC, rightL, Bool.and_eq_true, decide_eq_true_eq, List.all_eq_true] at hr'
  obtain ⟨⟨⟨⟨hp, -⟩, -⟩, -⟩, hl, hk⟩ := hr'
  have HR := Hd.mk hr
  have HP := Hd.mk hp
  have HZ' := Hd.mk HZ
  have HN' := Hd.mk HN
  have HL' := Hd.mk HL
  clear hr hp hk HZ HN HL
  obtain ⟨i0, hi, hz0, hz1, hz2⟩ := info_parts infoAns
  have HI := Hd.mk hi
  have HZ0 := Hd.mk hz0
  have HZ1 := Hd.mk hz1
  have HZ2 := Hd.mk hz2
  clear hi hz0 hz1 hz2
  obtain ⟨w0, e0⟩ : ∃ w0, w0 = w.alloc (.cells #[.int .i64 N, .int .i64 W, .int .i64 R, .int .i64 K] 46) := ⟨_, rfl⟩
  have K0 : Hd (Stays (fun _ => False) w w0) := ⟨by rw [e0]; exact (Stays.refl _ _).alloc _⟩
  have Bc : Blk w0 w.heap.size 46 #[.int .i64 N, .int .i64 W, .int .i64 R, .int .i64 K] := by rw [e0]; exact Blk.new w _ _
  go_enter Tryz.func16, Tryz.ntmps16
  go_wp2_with fail
  rw [← e0]
  have HLw : OpsIn w0 A0 l := HL'.out.made K0.out
  have HLw := Hd.mk HLw
  refine (Right21_c N W R K A0 cap l w0 HLw.out).mono ?_
  rintro _ w1 ⟨rfl, K1⟩
  rw [HR.out]
  have Bc1 := Bc.stays K1 (fun x => x)
  have c0 := Bc1.cell 0
  have c1 := Bc1.cell 1
  have c2 := Bc1.cell 2
  have c3 := Bc1.cell 3
  go_wp2_with fail
  refine (hNew_c N W R K _ ((HZ'.out.stays K0.out (fun x => x)).stays K1 (fun x => x)) HP.out).mono ?_
  rintro _ w2 ⟨A, hA, ⟨rfl, K2⟩, H2, Y2⟩
  have Bc2 := Bc1.stays K2 (fun x => x)
  clear c0 c1 c2 c3
  have c0 := Bc2.cell 0
  have c1 := Bc2.cell 1
  have c2 := Bc2.cell 2
  have c3 := Bc2.cell 3
  go_wp2_with fail
  refine (hNew_c N W R K _ (((HZ'.out.stays K0.out (fun x => x)).stays K1 (fun x => x)).stays K2 (fun x => x)) HP.out).mono ?_
  rintro _ w3 ⟨B, hB, ⟨rfl, K3⟩, H3, Y3⟩
  have D := Apart.of (n := 0) H2.lts Y3
  have HA3 := H2.made K3
  have z1 := K1.size
  have z2 := K2.size
  have FA : Hd (∀ k, A.foot k → w0.heap.size ≤ k) := ⟨fun k hk => by
    have := Y2.s
    have := Y2.a
    rcases hk with rfl | rfl <;> omega⟩
  have FB : Hd (∀ k, B.foot k → w0.heap.size ≤ k) := ⟨fun k hk => by
    have := Y3.s
    have := Y3.a
    rcases hk with rfl | rfl <;> omega⟩
  have KK : Hd (Stays (fun _ => False) w0 w3) := ⟨(K1.trans K2).trans K3⟩
  have HD := Hd.mk D
  have HA3 := Hd.mk HA3
  have HB3 := Hd.mk H3
  generalize newS N W R K = S0 at *
  clear H2 H3 Y2 Y3 D z1 z2 K1 K2 K3 Bc1 Bc2 c0 c1 c2 c3
  go_wp2_with fail
  refine (Run_c w0 w3 HA3.out A0 cap l HLw.out KK.out FA.out hl).mono ?_
  rintro _ w4 ⟨vg, rfl, HO4, HA4, K4⟩
  have HB4 := Hd.mk (HB3.out.beside HA3.out HD.out K4)
  have KK4 := Hd.mk (Stays.fresh KK.out K4 FA.out)
  have HA4 := Hd.mk HA4
  have HO4 := Hd.mk HO4
  have hs34 := K4.size
  have hltB := HB3.out.lts
  clear HA3 HB3 KK K4
  have HL4 := Hd.mk hl
  go_wp2_with fail
  go_loopw [12, 13, 43] (fun v fi i wr => ∃ j : Nat, j ≤ l.length ∧ w4.heap.size ≤ wr.heap.size ∧ i = .int .i64 j ∧ fi = .int .i64 (fstA (anO S0 l) e j) ∧ Hd (Outs wr w4.heap.size v j (anO S0 l)) ∧ Hd (Outs wr w3.heap.size vg l.length (anO S0 l)) ∧ Hd (HeapAt A hA (stO S0 l l.length) wr) ∧ Hd (HeapAt B hB (stO S0 l j) wr) ∧ Hd (Stays (fun _ => False) w0 wr)) (fun _ _ i _ => l.length - (intOf i).toNat)
  case atStart => exact ⟨0, by omega, by omega, rfl, rfl, ⟨Outs.nil _ _ _⟩, HO4, HA4, HB4, KK4⟩
  case round =>
    obtain ⟨j, hj, hsw, rfl, rfl, HO, HG, HA, HB, KU⟩ := hrel
    by_cases cj : j < l.length
    · obtain ⟨bb, off, hA0, x0, x1, x2, x3, x4⟩ := HLw.out.at_ j cj
      have hov := HLw.out.rng l[j] (List.getElem_mem _)
      subst hA0
      have lt0 := World.block_lt_of_cell? w0 _ x0
      have y0 := (KU.out.cell (p := ⟨bb, off + j * 5, none⟩) lt0 (fun x => x)).trans x0
      have y1 := (KU.out.cell (p := ⟨bb, off + j * 5 + 1, none⟩) lt0 (fun x => x)).trans x1
      have y2 := (KU.out.cell (p := ⟨bb, off + j * 5 + 2, none⟩) lt0 (fun x => x)).trans x2
      have y3 := (KU.out.cell (p := ⟨bb, off + j * 5 + 3, none⟩) lt0 (fun x => x)).trans x3
      have y4 := (KU.out.cell (p := ⟨bb, off + j * 5 + 4, none⟩) lt0 (fun x => x)).trans x4
      have hgd : l.getD j default = l[j] := by simp [List.getD_eq_getElem?_getD, cj]
      obtain ⟨o, ho⟩ : ∃ o, l[j] = o := ⟨_, rfl⟩
      have hst : stO S0 l (j + 1) = (doO o (stO S0 l j)).2 := by rw [← ho, ← hgd]; rfl
      have han : anO S0 l j = (doO o (stO S0 l j)).1 := by rw [← ho, ← hgd]; rfl
      have hfs : fstA (anO S0 l) e (j + 1) = if fstA (anO S0 l) e j < 0 ∧ (anO S0 l j).err = e then (j : Int) else fstA (anO S0 l) e j := rfl
      rw [ho] at y0 y1 y2 y3 y4 hov
      clear x0 x1 x2 x3 x4 ho lt0 hgd
      obtain ⟨k1, a1, b1, c1, v1⟩ := o
      dsimp only at y0 y1 y2 y3 y4 hov
      generalize hSj : stO S0 l j = Sj at *
      obtain ⟨ans, T, eO⟩ : ∃ ans T, doO ⟨k1, a1, b1, c1, v1⟩ Sj = (ans, T) := ⟨_, _, rfl⟩
      rw [eO] at hst han
      rw [han] at hfs
      dsimp only at hfs
      generalize hq : fstA (anO S0 l) e j = q at *
      have EO := Hd.mk eO
      have HST := Hd.mk hst
      have HAN := Hd.mk han
      have HFS := Hd.mk hfs
      have HOV := Hd.mk hov
      have hme := Hd.mk (show l.length - ((j : Int) + 1).toNat < l.length - (j : Int).toNat by omega)
      have hj1 := Hd.mk (show j + 1 ≤ l.length by omega)
      have cb : decide ((j : Int) < (l.length : Int)) = true := decide_eq_true (by omega)
      have AX : Stays (fun _ => False) wr (wr.alloc (.cells #[.int .i64 k1, .int .i64 a1, .int .i64 b1, .int .i64 c1, .int .u32 v1] 53)) := (Stays.refl (fun _ => False) wr).alloc _
      have HAx := Hd.mk (HA.out.made AX)
      have HBx := Hd.mk (HB.out.made AX)
      have HOx := Hd.mk (HO.out.stays AX (fun _ _ _ x => x))
      have HGx := Hd.mk (HG.out.stays AX (fun _ _ _ x => x))
      have KUx := Hd.mk (KU.out.trans AX)
      have hsx := AX.size
      clear eO hst han hov hfs AX
      go_wp2_with fail
      refine (doO_x HBx.out HOV.out EO.out).mono ?_
      rintro _ w5 ⟨rfl, HB5, K5⟩
      have HB5 := Hd.mk HB5
      have HA5 := Hd.mk (HAx.out.beside HBx.out HD.out.symm K5)
      have HO5 := Hd.mk (HOx.out.stays K5 (fun b hb _ hf => by
        rcases hf with rfl | rfl <;> omega))
      have HG5 := Hd.mk (HGx.out.stays K5 (fun b hb _ hf => by
        rcases hf with rfl | rfl <;> omega))
      have KU5 := Hd.mk (Stays.fresh KUx.out K5 FB.out)
      have hsz := KUx.out.size
      have hsz5 := K5.size
      have hltA := HA4.out.lts
      have Ba := Blk.new w5 56 #[.int .i64 ans.err, .int .i64 ans.n, .int .i64 ans.m, .int .u32 ans.v]
      have r0 := Ba.cell 0
      have r1 := Ba.cell 1
      have r2 := Ba.cell 2
      have r3 := Ba.cell 3
      have hbb : Blk ((w5.alloc (.cells #[.int .i64 ans.err, .int .i64 ans.n, .int .i64 ans.m, .int .u32 ans.v] 56)).alloc (.cells #[.int .i64 ans.err, .int .i64 ans.n, .int .i64 ans.m, .int .u32 ans.v] 56)) (w5.heap.size + 1) 56 #[.int .i64 ans.err, .int .i64 ans.n, .int .i64 ans.m, .int .u32 ans.v] := by
        have h := Blk.new (w5.alloc (.cells #[.int .i64 ans.err, .int .i64 ans.n, .int .i64 ans.m, .int .u32 ans.v] 56)) 56 #[.int .i64 ans.err, .int .i64 ans.n, .int .i64 ans.m, .int .u32 ans.v]
        simpa using h
      have AY : Stays (fun _ => False) w5 ((w5.alloc (.cells #[.int .i64 ans.err, .int .i64 ans.n, .int .i64 ans.m, .int .u32 ans.v] 56)).alloc (.cells #[.int .i64 ans.err, .int .i64 ans.n, .int .i64 ans.m, .int .u32 ans.v] 56)) := ((Stays.refl _ _).alloc _).alloc _
      clear K5 HAx HBx HOx HGx KUx
      go_wp2_with (at_builtin; refine wpList_append_own _ rfl _ _ 76 rfl w4.heap.size 56 i0 _ 4 32 Tryz.underlying76 HI.out HZ0.out HZ1.out HZ2.out rfl (by decide) _ j (anCells (anO S0 l) j) rfl (World.ownsRow.alloc (World.ownsRow.alloc HO5.out _) _) ⟨w5.heap.size + 1, 0, none⟩ 1 1 [.int .i64 ans.err, .int .i64 ans.n, .int .i64 ans.m, .int .u32 ans.v] rfl rfl ?c1 ?c2 ?c3 ?c4 ?c5 ?_)
      case c1 =>
        intro q u hq
        match q, hq with
        | 0, hq => exact (hbb.cell 0).trans hq
        | 1, hq => exact (hbb.cell 1).trans hq
        | 2, hq => exact (hbb.cell 2).trans hq
        | 3, hq => exact (hbb.cell 3).trans hq
      case c2 =>
        intro u hu
        simp at hu
        rcases hu with rfl | rfl | rfl | rfl <;> rfl
      case c3 =>
        have := HL4.out
        simp only [maxLen]
        omega
      case c4 =>
        have := HL4.out
        omega
      case c5 => simp; omega
      intro v2 w6 hown hgrow _
      have HO6 : Hd (Outs w6 w4.heap.size v2 (j + 1) (anO S0 l)) := ⟨Outs.add HAN.out hown⟩
      have KG := Stays.grownAt hgrow
      have hlo : ∀ k, u12.ownBlock = some k → w4.heap.size ≤ k ∧ k < w5.heap.size := fun k hk => World.ownsRow.lt HO5.out k hk
      have HA6 := Hd.mk ((HA5.out.made AY).stays KG (fun b hb hf => by
        have := hlo b hf
        have := HA4.out.held.z.lt
        rcases hb with rfl | rfl | rfl | rfl <;> omega) (fun hf => by
        have := hlo _ hf
        omega))
      have HB6 : Hd (HeapAt B hB (stO S0 l (j + 1)) w6) := ⟨by
        rw [HST.out]
        exact (HB5.out.made AY).stays KG (fun b hb hf => by
          have := hlo b hf
          have := HA4.out.held.z.lt
          rcases hb with rfl | rfl | rfl | rfl <;> omega) (fun hf => by
          have := hlo _ hf
          omega)⟩
      have hlg : ∀ k, vg.ownBlock = some k → w3.heap.size ≤ k ∧ k < w4.heap.size := fun k hk => World.ownsRow.lt HO4.out k hk
      have HG6 := Hd.mk ((HG5.out.stays AY (fun _ _ _ x => x)).keeps KG (fun b hb hf => by
        have := hlo b hf
        have := hlg b hb
        omega))
      have KU6 := Hd.mk (Stays.fresh (KU5.out.trans AY) KG (fun k hk => by
        have := hlo k hk
        have := KK4.out.size
        omega))
      have Bk := Ba.alloc (.cells #[.int .i64 ans.err, .int .i64 ans.n, .int .i64 ans.m, .int .u32 ans.v] 56)
      have Bk := Bk.stays KG (fun hf => by
        have := hlo _ hf
        omega)
      have r0 := Bk.cell 0
      have hs6 : w4.heap.size ≤ w6.heap.size := by
        have := KG.size
        have := AY.size
        omega
      clear hown hgrow KG HA5 HB5 HO5 HG5 KU5 hbb AY hlo hlg Ba Bk
      have bq := fstA_lt (anO S0 l) e j
      rw [hq] at bq
      have bq0 := bq.1
      clear bq hq
      by_cases cq : q < 0
      · have t1 : decide (q < 0) = true := decide_eq_true cq
        by_cases ce : ans.err = e
        · have t2 : (ans.err == e) = true := by simp [ce]
          have HF : Hd (fstA (anO S0 l) e (j + 1) = j) := ⟨by rw [HFS.out, if_pos ⟨cq, ce⟩]⟩
          clear ce cq
          go_wp2_with fail
          go_roundw
          case rel => exact ⟨j + 1, hj1.out, by omega, by first | rfl | simp, by rw [HF.out], HO6, HG6, HA6, HB6, KU6⟩
          case measure =>
            first
              | exact hme.out
              | (simp only [intOf]; exact hme.out)
        · have t2 : (ans.err == e) = false := by simp [ce]
          have HF : Hd (fstA (anO S0 l) e (j + 1) = q) := ⟨by rw [HFS.out, if_neg (fun h => ce h.2)]⟩
          clear ce cq
          go_wp2_with fail
          go_roundw
          case rel => exact ⟨j + 1, hj1.out, by omega, by first | rfl | simp, by rw [HF.out], HO6, HG6, HA6, HB6, KU6⟩
          case measure =>
            first
              | exact hme.out
              | (simp only [intOf]; exact hme.out)
      · have t1 : decide (q < 0) = false := decide_eq_false cq
        have HF : Hd (fstA (anO S0 l) e (j + 1) = q) := ⟨by rw [HFS.out, if_neg (fun h => cq h.1)]⟩
        clear cq
        go_wp2_with fail
        go_roundw
        case rel => exact ⟨j + 1, hj1.out, by omega, by first | rfl | simp, by rw [HF.out], HO6, HG6, HA6, HB6, KU6⟩
        case measure =>
          first
            | exact hme.out
            | (simp only [intOf]; exact hme.out)
    · have cb : decide ((j : Int) < (l.length : Int)) = false := decide_eq_false (by omega)
      obtain rfl : j = l.length := by omega
      go_wp2_with fail
      refine (begun22_c _ ((HN'.out.stays K0.out (fun x => x)).stays KU.out (fun x => x))).mono ?_
      rintro _ w5 ⟨rfl, K5⟩
      have HA5 := Hd.mk (HA.out.made K5)
      have HB5 := Hd.mk (HB.out.made K5)
      have HO5 := HO.out.stays K5 (fun _ _ _ x => x)
      have HG5 := HG.out.stays K5 (fun _ _ _ x => x)
      obtain ⟨A1, c1, rfl, I1⟩ := HG5.opened
      obtain ⟨A2, c2, rfl, I2⟩ := HO5.opened
      have I1 := Hd.mk I1
      have I2 := Hd.mk I2
      clear HO5 HG5 HO HG HO4
      go_wp2_with fail
      refine (Same22_c _ _ _ _ _ _ _ I1.out I2.out HL4.out).mono ?_
      rintro _ w6 ⟨rfl, K6⟩
      go_wp2_with fail
      refine (First_c _ _ _ _ _ _ (I1.out.made K6) HL4.out).mono ?_
      rintro _ w7 ⟨rfl, K7⟩
      have HA7 := Hd.mk ((HA5.out.made K6).made K7)
      have HB7 := Hd.mk ((HB5.out.made K6).made K7)
      go_wp2_with fail
      refine (hMeter_c HA7.out).mono ?_
      rintro _ _ ⟨rfl, rfl⟩
      go_wp2_with fail
      refine (hMeter_c HB7.out).mono ?_
      rintro _ _ ⟨rfl, rfl⟩
      go_wp2_with fail
      go_ret
      exact ⟨rfl, (((K0.out.trans KU.out).trans K5).trans K6).trans K7⟩
theorem lawOpRuns_n (N W R K : Int) (A0 : Option Addr) (cap : Nat) (l : List Op5) (e : Int) (w : World) (HN : Name3 w) (HL : OpsIn w A0 l) (hr : (rightC N W R K && rightL l) = false) :
    Calls Tryz.prog 16 #[.agg #[.int .i64 N, .int .i64 W, .int .i64 R, .int .i64 K], .slice A0 l.length cap, .int .i64 e] w (Made w (.bool true)) := by
  have HR := Hd.mk hr
  have HN' := Hd.mk HN
  have HL' := Hd.mk HL
  clear hr HN HL
  obtain ⟨w0, e0⟩ : ∃ w0, w0 = w.alloc (.cells #[.int .i64 N, .int .i64 W, .int .i64 R, .int .i64 K] 46) := ⟨_, rfl⟩
  have K0 : Hd (Stays (fun _ => False) w w0) := ⟨by rw [e0]; exact (Stays.refl _ _).alloc _⟩
  have Bc : Blk w0 w.heap.size 46 #[.int .i64 N, .int .i64 W, .int .i64 R, .int .i64 K] := by rw [e0]; exact Blk.new w _ _
  go_enter Tryz.func16, Tryz.ntmps16
  go_wp2_with fail
  rw [← e0]
  have HLw := Hd.mk (HL'.out.made K0.out)
  refine (Right21_c N W R K A0 cap l w0 HLw.out).mono ?_
  rintro _ w1 ⟨rfl, K1⟩
  rw [HR.out]
  go_wp2_with fail
  refine (begun22_c _ ((HN'.out.stays K0.out (fun x => x)).stays K1 (fun x => x))).mono ?_
  rintro _ w9 ⟨rfl, K9⟩
  go_wp2_with fail
  go_ret
  exact ⟨rfl, (K0.out.trans K1).trans K9⟩
theorem lawOpRuns_c (N W R K : Int) (A0 : Option Addr) (cap : Nat) (l : List Op5) (e : Int) (w : World) (HZ : NoneZ w) (HN : Name3 w) (HL : OpsIn w A0 l) :
    Calls Tryz.prog 16 #[.agg #[.int .i64 N, .int .i64 W, .int .i64 R, .int .i64 K], .slice A0 l.length cap, .int .i64 e] w (Made w (.bool true)) := by
  cases hr : (rightC N W R K && rightL l)
  · exact lawOpRuns_n N W R K A0 cap l e w HN HL hr
  · exact lawOpRuns_y N W R K A0 cap l e w HZ HN HL hr
end Go.Proofs.YtadhdjldcpkfiaaGreatDoor
