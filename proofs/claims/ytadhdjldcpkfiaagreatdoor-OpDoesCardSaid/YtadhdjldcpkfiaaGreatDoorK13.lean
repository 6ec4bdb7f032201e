/- OpDoes, walked. -/
import Derived.Test.YtadhdjldcpkfiaaGreatDoorPr
import Derived.Test.YtadhdjldcpkfiaaGreatDoorB22
import Derived.Test.YtadhdjldcpkfiaaGreatDoorPk
namespace Go.Proofs.YtadhdjldcpkfiaaGreatDoor
set_option linter.unusedVariables false
set_option linter.unusedSimpArgs false
open Go.RowKit
set_option maxRecDepth 100000
set_option maxHeartbeats 8000000

theorem lawOpDoes_y (N W R K : Int) (A0 : Option Addr) (cap : Nat) (l : List Op5) (kd a b c v : Int) (hv : 0 ≤ v ∧ v ≤ 4294967295) (w : World) (HZ : NoneZ w) (HN : Name3 w) (HL : OpsIn w A0 l) (hr : (rightC N W R K && rightL l) = true) :
    Calls Tryz.prog 15 #[.agg #[.int .i64 N, .int .i64 W, .int .i64 R, .int .i64 K], .slice A0 l.length cap, .agg #[.int .i64 kd, .int .i64 a, .int .i64 b, .int .i64 c, .int .u32 v]] w (Made w (.bool true)) := by
  have hr' := hr
  simp only [rightC, rightL, Bool.and_eq_true, decide_eq_true_eq, List.all_eq_true] at hr'
  obtain ⟨⟨⟨⟨hp, -⟩, -⟩, -⟩, hl, hk⟩ := hr'
  have HR := Hd.mk hr
  have HP := Hd.mk hp
  have HK := Hd.mk hk
  have HV := Hd.mk hv
  have HZ' := Hd.mk HZ
  have HN' := Hd.mk HN
  have HL' := Hd.mk HL
  clear hr hp hk hv HZ HN HL
  obtain ⟨w0, e0⟩ : ∃ w0, w0 = (w.alloc (.cells #[.int .i64 N, .int .i64 W, .int .i64 R, .int .i64 K] 46)).alloc (.cells #[.int .i64 kd, .int .i64 a, .int .i64 b, .int .i64 c, .int .u32 v] 53) := ⟨_, rfl⟩
  have K0 : Hd (Stays (fun _ => False) w w0) := ⟨by rw [e0]; exact ((Stays.refl _ _).alloc _).alloc _⟩
  have Bc : Blk w0 w.heap.size 46 #[.int .i64 N, .int .i64 W, .int .i64 R, .int .i64 K] := by rw [e0]; exact (Blk.new w _ _).alloc _
  have Bo : Blk w0 (w.heap.size + 1) 53 #[.int .i64 kd, .int .i64 a, .int .i64 b, .int .i64 c, .int .u32 v] := by
    rw [e0]
    have h := Blk.new (w.alloc (.cells #[.int .i64 N, .int .i64 W, .int .i64 R, .int .i64 K] 46)) 53 #[.int .i64 kd, .int .i64 a, .int .i64 b, .int .i64 c, .int .u32 v]
    simpa using h
  go_enter Tryz.func15, Tryz.ntmps15
  go_wp2_with fail
  rw [← e0]
  have HLw : OpsIn w0 A0 l := HL'.out.made K0.out
  have HLw := Hd.mk HLw
  refine (Right21_c N W R K A0 cap l w0 HLw.out).mono ?_
  rintro _ w1 ⟨rfl, K1⟩
  rw [HR.out]
  have Bc1 := Bc.stays K1 (fun x => x)
  have c0 := Bc1.cell 0
  have c1 := Bc1.cell 1
  have c2 := Bc1.cell 2
  have c3 := Bc1.cell 3
  go_wp2_with fail
  refine (hNew_c N W R K _ ((HZ'.out.stays K0.out (fun x => x)).stays K1 (fun x => x)) HP.out).mono ?_
  rintro _ w2 ⟨A, hA, ⟨rfl, K2⟩, H2, Y2⟩
  have Bc2 := Bc1.stays K2 (fun x => x)
  clear c0 c1 c2 c3
  have c0 := Bc2.cell 0
  have c1 := Bc2.cell 1
  have c2 := Bc2.cell 2
  have c3 := Bc2.cell 3
  go_wp2_with fail
  refine (hNew_c N W R K _ (((HZ'.out.stays K0.out (fun x => x)).stays K1 (fun x => x)).stays K2 (fun x => x)) HP.out).mono ?_
  rintro _ w3 ⟨B, hB, ⟨rfl, K3⟩, H3, Y3⟩
  have D := Apart.of (n := 0) H2.lts Y3
  have HA3 := H2.made K3
  have z1 := K1.size
  have z2 := K2.size
  have FA : Hd (∀ k, A.foot k → w0.heap.size ≤ k) := ⟨fun k hk => by
    have := Y2.s
    have := Y2.a
    rcases hk with rfl | rfl <;> omega⟩
  have FB : Hd (∀ k, B.foot k → w0.heap.size ≤ k) := ⟨fun k hk => by
    have := Y3.s
    have := Y3.a
    rcases hk with rfl | rfl <;> omega⟩
  have KK : Hd (Stays (fun _ => False) w0 w3) := ⟨(K1.trans K2).trans K3⟩
  have HD := Hd.mk D
  have HA3 := Hd.mk HA3
  have HB3 := Hd.mk H3
  generalize newS N W R K = S0 at *
  clear H2 H3 Y2 Y3 D z1 z2 K1 K2 K3 Bc1 Bc2 c0 c1 c2 c3
  go_wp2_with fail
  go_loopw [38] (fun i wr => ∃ j : Nat, j ≤ l.length ∧ i = .int .i64 j ∧ Hd (HeapAt A hA (stN S0 (l.take j)) wr) ∧ Hd (HeapAt B hB (stN S0 (l.take j)) wr) ∧ Hd (Stays (fun _ => False) w0 wr)) (fun i _ => l.length - (intOf i).toNat)
  case atStart => exact ⟨0, by omega, rfl, HA3, HB3, KK⟩
  case round =>
    obtain ⟨j, hj, rfl, HA, HB, KU⟩ := hrel
    by_cases cj : j < l.length
    · obtain ⟨bb, off, hA0, x0, x1, x2, x3, x4⟩ := HLw.out.at_ j cj
      have hoj := HK.out l[j] (List.getElem_mem _)
      have hov := HLw.out.rng l[j] (List.getElem_mem _)
      subst hA0
      have lt0 := World.block_lt_of_cell? w0 _ x0
      have y0 := (KU.out.cell (p := ⟨bb, off + j * 5, none⟩) lt0 (fun x => x)).trans x0
      have y1 := (KU.out.cell (p := ⟨bb, off + j * 5 + 1, none⟩) lt0 (fun x => x)).trans x1
      have y2 := (KU.out.cell (p := ⟨bb, off + j * 5 + 2, none⟩) lt0 (fun x => x)).trans x2
      have y3 := (KU.out.cell (p := ⟨bb, off + j * 5 + 3, none⟩) lt0 (fun x => x)).trans x3
      have y4 := (KU.out.cell (p := ⟨bb, off + j * 5 + 4, none⟩) lt0 (fun x => x)).trans x4
      have hst := stN_succ S0 l j cj
      obtain ⟨o, ho⟩ : ∃ o, l[j] = o := ⟨_, rfl⟩
      rw [ho] at y0 y1 y2 y3 y4 hoj hov hst
      clear x0 x1 x2 x3 x4 ho lt0
      obtain ⟨k1, a1, b1, c1, v1⟩ := o
      dsimp only at y0 y1 y2 y3 y4 hoj hov
      generalize hSj : stN S0 (l.take j) = Sj at *
      obtain ⟨ans, T, eL⟩ : ∃ ans T, doL ⟨k1, a1, b1, c1, v1⟩ Sj = (ans, T) := ⟨_, _, rfl⟩
      have eO : doO ⟨k1, a1, b1, c1, v1⟩ Sj = (ans, T) := by rw [doO_doL _ hoj.1 hoj.2]; exact eL
      rw [eL] at hst
      have EL := Hd.mk eL
      have EO := Hd.mk eO
      have HST := Hd.mk hst
      have HOV := Hd.mk hov
      have hme := Hd.mk (show l.length - ((j : Int) + 1).toNat < l.length - (j : Int).toNat by omega)
      have hj1 := Hd.mk (show j + 1 ≤ l.length by omega)
      have cb : decide ((j : Int) < (l.length : Int)) = true := decide_eq_true (by omega)
      have NQ := neqAns
      clear eL eO hst hov hoj
      have Bx := Blk.new wr 53 #[.int .i64 k1, .int .i64 a1, .int .i64 b1, .int .i64 c1, .int .u32 v1]
      have HAx := Hd.mk (HA.out.made ((Stays.refl (fun _ => False) wr).alloc (.cells #[.int .i64 k1, .int .i64 a1, .int .i64 b1, .int .i64 c1, .int .u32 v1] 53)))
      have HBx := Hd.mk (HB.out.made ((Stays.refl (fun _ => False) wr).alloc (.cells #[.int .i64 k1, .int .i64 a1, .int .i64 b1, .int .i64 c1, .int .u32 v1] 53)))
      have KUx := Hd.mk (KU.out.alloc (.cells #[.int .i64 k1, .int .i64 a1, .int .i64 b1, .int .i64 c1, .int .u32 v1] 53))
      have hnA : ¬ A.foot wr.heap.size := GA.foot_far HA.out.held.top
      have hnB : ¬ B.foot wr.heap.size := GA.foot_far HB.out.held.top
      go_upto_region 10 with fail
      generalize hwq : wr.alloc (.cells #[.int .i64 k1, .int .i64 a1, .int .i64 b1, .int .i64 c1, .int .u32 v1] 53) = wq at *
      have q0 := Bx.cell 0
      have q1 := Bx.cell 1
      have q2 := Bx.cell 2
      have q3 := Bx.cell 3
      have q4 := Bx.cell 4
      clear y0 y1 y2 y3 y4
      go_region_held3 (fun wx => wx.cell? ⟨wr.heap.size, 0, none⟩ = some (.int .i64 k1) ∧ wx.cell? ⟨wr.heap.size, 1, none⟩ = some (.int .i64 a1) ∧ wx.cell? ⟨wr.heap.size, 2, none⟩ = some (.int .i64 b1) ∧ wx.cell? ⟨wr.heap.size, 3, none⟩ = some (.int .i64 c1) ∧ wx.cell? ⟨wr.heap.size, 4, none⟩ = some (.int .u32 v1))
        (first | exact ⟨q0, q1, q2, q3, q4⟩ | go_keep)
        (first | (go_at_call 73; (with_reducible refine (doO_x (HAx.out.made ((Stays.refl (fun _ => False) _).drew)) HOV.out EO.out).mono ?_); (rintro _ w5 ⟨rfl, HA5, K5⟩); (have B5 := Blk.stays (Blk.drew Bx) K5 hnA); (have q0 := B5.cell 0); (have q1 := B5.cell 1); (have q2 := B5.cell 2); (have q3 := B5.cell 3); (have q4 := B5.cell 4)) | (go_at_call 57; (with_reducible refine (doL_x ((HBx.out.made ((Stays.refl (fun _ => False) _).drew)).beside (HAx.out.made ((Stays.refl (fun _ => False) _).drew)) HD.out K5) HOV.out EL.out).mono ?_); (rintro _ w6 ⟨rfl, HB6, K6⟩); (have B6 := Blk.stays B5 K6 hnB); (have q0 := B6.cell 0); (have q1 := B6.cell 1); (have q2 := B6.cell 2); (have q3 := B6.cell 3); (have q4 := B6.cell 4)))
      all_goals
        have HB5 := (HBx.out.made ((Stays.refl (fun _ => False) _).drew)).beside (HAx.out.made ((Stays.refl (fun _ => False) _).drew)) HD.out K5
        have HA6 := HA5.beside HB5 HD.out.symm K6
        have KE := Hd.mk (Stays.fresh (Stays.fresh KUx.out.drew K5 FA.out) K6 FB.out)
        have HA7 : Hd (HeapAt A hA (stN S0 (l.take (j + 1))) w6) := ⟨by rw [HST.out]; exact HA6⟩
        have HB7 : Hd (HeapAt B hB (stN S0 (l.take (j + 1))) w6) := ⟨by rw [HST.out]; exact HB6⟩
        clear HA5 HB5 HA6 HB6 K5 K6
        go_wp2_with fail
        go_roundw
        case rel => exact ⟨j + 1, hj1.out, by first | rfl | simp, HA7, HB7, KE⟩
        case measure =>
          first
            | exact hme.out
            | (simp only [intOf]; exact hme.out)
    · have cb : decide ((j : Int) < (l.length : Int)) = false := decide_eq_false (by omega)
      obtain rfl : j = l.length := by omega
      rw [List.take_length] at HA HB
      generalize stN S0 l = S1 at *
      have NQ := eqlAns
      go_wp2_with fail
      refine (hGround_c HA.out).mono ?_
      rintro _ _ ⟨rfl, rfl⟩
      go_wp2_with fail
      refine (gWords_c HA.out.held).mono ?_
      rintro _ w4 ⟨vw, rfl, RW, K4⟩
      have RWH := Hd.mk RW
      obtain ⟨gw, cw, rfl, -, gw0, gw1⟩ := RW
      have HA4 := Hd.mk (HA.out.made K4)
      have HB4 := Hd.mk (HB.out.made K4)
      have KU4 := Hd.mk (KU.out.trans K4)
      have Bo4 := Bo.stays KU4.out (fun x => x)
      have q0 := Bo4.cell 0
      have q1 := Bo4.cell 1
      have q2 := Bo4.cell 2
      have q3 := Bo4.cell 3
      have q4 := Bo4.cell 4
      rcases (by omega : kd < 1 ∨ 10 < kd ∨ (1 ≤ kd ∧ kd ≤ 10)) with hkd | hkd | hkd
      · have eO : doO ⟨kd, a, b, c, v⟩ S1 = (⟨9, 0, 0, 0⟩, S1) := by rw [doO_none _ (by show kd < 1 ∨ 10 < kd; omega)]; rfl
        have t1 : decide (kd < 1) = true := decide_eq_true hkd
        clear hkd
        go_wp2_with fail
        refine (doO_x HA4.out HV.out eO).mono ?_
        rintro _ w5 ⟨rfl, HA5, K5⟩
        dsimp only
        have KU5 := Hd.mk (Stays.fresh KU4.out K5 FA.out)
        have Bo5 := (Bo.stays KU5.out (fun x => x)).alloc (.cells #[.int .i64 9, .int .i64 0, .int .i64 0, .int .u32 0] 56)
        have p0 := Bo5.cell 0
        have HA6 := HA5.made ((Stays.refl (fun _ => False) _).alloc (.cells #[.int .i64 9, .int .i64 0, .int .i64 0, .int .u32 0] 56))
        have RW5 := RWH.out.stays K5 (fun b hb hf => by
          have := HA.out.lts
          rcases hf with rfl | rfl <;> omega)
        have RW6 := Hd.mk (RW5.stays ((Stays.refl (fun _ => False) _).alloc (.cells #[.int .i64 9, .int .i64 0, .int .i64 0, .int .u32 0] 56)) (fun _ _ x => x))
        have KU6 := Hd.mk (KU5.out.alloc (.cells #[.int .i64 9, .int .i64 0, .int .i64 0, .int .u32 0] 56))
        have HQ6 := Hd.mk HA6
        clear HA5 K5 RW5 HA6 Bo5
        go_wp2_with fail
        refine (hGround_c HQ6.out).mono ?_
        rintro _ _ ⟨rfl, rfl⟩
        go_wp2_with fail
        refine (gWords_c HQ6.out.held).mono ?_
        rintro _ w7 ⟨vx, rfl, RX, K7⟩
        have RXH := Hd.mk RX
        obtain ⟨gx, cx, rfl, -, gx0, gx1⟩ := RX
        have RW7 := Hd.mk (RW6.out.stays K7 (fun _ _ x => x))
        have hle : S1.ws.length ≤ 8388608 := by
          have h1 := HA.out.held.ok.len
          have h2 := HA.out.held.ok.nw
          have h3 := HA.out.held.ok.r2
          omega
        have HLE := Hd.mk hle
        have KU7 := Hd.mk (KU6.out.trans K7)
        clear hle
        go_wp2_with fail
        refine (Same_c _ _ _ _ S1.ws _ RXH.out RW7.out HLE.out).mono ?_
        rintro _ w8 ⟨rfl, K8⟩
        have KU8 := Hd.mk (KU7.out.trans K8)
        go_wp2_with fail
        refine (begun22_c _ ((HN'.out.stays K0.out (fun x => x)).stays KU8.out (fun x => x))).mono ?_
        rintro _ w9 ⟨rfl, K9⟩
        go_wp2_with fail
        go_ret
        exact ⟨rfl, (K0.out.trans KU8.out).trans K9⟩
      · have eO : doO ⟨kd, a, b, c, v⟩ S1 = (⟨9, 0, 0, 0⟩, S1) := by rw [doO_none _ (by show kd < 1 ∨ 10 < kd; omega)]; rfl
        have t1 : decide (kd < 1) = false := decide_eq_false (by omega)
        have t2 : decide (10 < kd) = true := decide_eq_true hkd
        clear hkd
        go_wp2_with fail
        refine (doO_x HA4.out HV.out eO).mono ?_
        rintro _ w5 ⟨rfl, HA5, K5⟩
        dsimp only
        have KU5 := Hd.mk (Stays.fresh KU4.out K5 FA.out)
        have Bo5 := (Bo.stays KU5.out (fun x => x)).alloc (.cells #[.int .i64 9, .int .i64 0, .int .i64 0, .int .u32 0] 56)
        have p0 := Bo5.cell 0
        have HA6 := HA5.made ((Stays.refl (fun _ => False) _).alloc (.cells #[.int .i64 9, .int .i64 0, .int .i64 0, .int .u32 0] 56))
        have RW5 := RWH.out.stays K5 (fun b hb hf => by
          have := HA.out.lts
          rcases hf with rfl | rfl <;> omega)
        have RW6 := Hd.mk (RW5.stays ((Stays.refl (fun _ => False) _).alloc (.cells #[.int .i64 9, .int .i64 0, .int .i64 0, .int .u32 0] 56)) (fun _ _ x => x))
        have KU6 := Hd.mk (KU5.out.alloc (.cells #[.int .i64 9, .int .i64 0, .int .i64 0, .int .u32 0] 56))
        have HQ6 := Hd.mk HA6
        clear HA5 K5 RW5 HA6 Bo5
        go_wp2_with fail
        refine (hGround_c HQ6.out).mono ?_
        rintro _ _ ⟨rfl, rfl⟩
        go_wp2_with fail
        refine (gWords_c HQ6.out.held).mono ?_
        rintro _ w7 ⟨vx, rfl, RX, K7⟩
        have RXH := Hd.mk RX
        obtain ⟨gx, cx, rfl, -, gx0, gx1⟩ := RX
        have RW7 := Hd.mk (RW6.out.stays K7 (fun _ _ x => x))
        have hle : S1.ws.length ≤ 8388608 := by
          have h1 := HA.out.held.ok.len
          have h2 := HA.out.held.ok.nw
          have h3 := HA.out.held.ok.r2
          omega
        have HLE := Hd.mk hle
        have KU7 := Hd.mk (KU6.out.trans K7)
        clear hle
        go_wp2_with fail
        refine (Same_c _ _ _ _ S1.ws _ RXH.out RW7.out HLE.out).mono ?_
        rintro _ w8 ⟨rfl, K8⟩
        have KU8 := Hd.mk (KU7.out.trans K8)
        go_wp2_with fail
        refine (begun22_c _ ((HN'.out.stays K0.out (fun x => x)).stays KU8.out (fun x => x))).mono ?_
        rintro _ w9 ⟨rfl, K9⟩
        go_wp2_with fail
        go_ret
        exact ⟨rfl, (K0.out.trans KU8.out).trans K9⟩
      · obtain ⟨ans, T, eL⟩ : ∃ ans T, doL ⟨kd, a, b, c, v⟩ S1 = (ans, T) := ⟨_, _, rfl⟩
        have eO : doO ⟨kd, a, b, c, v⟩ S1 = (ans, T) := by rw [doO_doL _ hkd.1 hkd.2]; exact eL
        have EL := Hd.mk eL
        have t1 : decide (kd < 1) = false := decide_eq_false (by omega)
        have t2 : decide (10 < kd) = false := decide_eq_false (by omega)
        clear hkd eL
        go_wp2_with fail
        refine (doO_x HA4.out HV.out eO).mono ?_
        rintro _ w5 ⟨rfl, HA5, K5⟩
        have KU5 := Hd.mk (Stays.fresh KU4.out K5 FA.out)
        have HB5 := HB4.out.beside HA4.out HD.out K5
        have HA6 := Hd.mk (HA5.made ((Stays.refl (fun _ => False) _).alloc (.cells #[.int .i64 ans.err, .int .i64 ans.n, .int .i64 ans.m, .int .u32 ans.v] 56)))
        have HB6 := Hd.mk (HB5.made ((Stays.refl (fun _ => False) _).alloc (.cells #[.int .i64 ans.err, .int .i64 ans.n, .int .i64 ans.m, .int .u32 ans.v] 56)))
        have KU6 := Hd.mk (KU5.out.alloc (.cells #[.int .i64 ans.err, .int .i64 ans.n, .int .i64 ans.m, .int .u32 ans.v] 56))
        have Bo_ := (Bo.stays KU5.out (fun x => x)).alloc (.cells #[.int .i64 ans.err, .int .i64 ans.n, .int .i64 ans.m, .int .u32 ans.v] 56)
        have Ba_ := Blk.new w5 56 #[.int .i64 ans.err, .int .i64 ans.n, .int .i64 ans.m, .int .u32 ans.v]
        have hnBa : ¬ B.foot w5.heap.size := GA.foot_far HB5.held.top
        have hnBo : ¬ B.foot (w.heap.size + 1) := fun hf => by
          have h1 := FB.out _ hf
          have h2 := Bo.lt
          omega
        have hnN : ¬ B.foot 0 := fun hf => by
          have h1 := FB.out _ hf
          have h2 := World.block_lt_of_cell? w _ HN'.out
          have h3 := K0.out.size
          simp only at h2
          omega
        have hle : T.ws.length ≤ 8388608 := by
          have h1 := HA5.held.ok.len
          have h2 := HA5.held.ok.nw
          have h3 := HA5.held.ok.r2
          omega
        have HLE := Hd.mk hle
        clear q0 q1 q2 q3 q4 HA5 HB5 hle K5 eO
        have q0 := Bo_.cell 0
        have q1 := Bo_.cell 1
        have q2 := Bo_.cell 2
        have q3 := Bo_.cell 3
        have q4 := Bo_.cell 4
        have r0 := Ba_.cell 0
        have r1 := Ba_.cell 1
        have r2 := Ba_.cell 2
        have r3 := Ba_.cell 3
        go_upto_region 17 with fail
        generalize w5.alloc (.cells #[.int .i64 ans.err, .int .i64 ans.n, .int .i64 ans.m, .int .u32 ans.v] 56) = w6 at *
        go_region_held3 (fun wx => wx.cell? ⟨w.heap.size + 1, 0, none⟩ = some (.int .i64 kd) ∧ wx.cell? ⟨w.heap.size + 1, 1, none⟩ = some (.int .i64 a) ∧ wx.cell? ⟨w.heap.size + 1, 2, none⟩ = some (.int .i64 b) ∧ wx.cell? ⟨w.heap.size + 1, 3, none⟩ = some (.int .i64 c) ∧ wx.cell? ⟨w.heap.size + 1, 4, none⟩ = some (.int .u32 v) ∧ wx.cell? ⟨w5.heap.size, 0, none⟩ = some (.int .i64 ans.err) ∧ wx.cell? ⟨w5.heap.size, 1, none⟩ = some (.int .i64 ans.n) ∧ wx.cell? ⟨w5.heap.size, 2, none⟩ = some (.int .i64 ans.m) ∧ wx.cell? ⟨w5.heap.size, 3, none⟩ = some (.int .u32 ans.v))
          (first | exact ⟨q0, q1, q2, q3, q4, r0, r1, r2, r3⟩ | go_keep)
          (first | (go_at_call 57; (with_reducible refine (doL_x (HB6.out.made ((Stays.refl (fun _ => False) _).drew)) HV.out EL.out).mono ?_); (rintro _ w7 ⟨rfl, HB7, K7⟩); (have HA7 := (HA6.out.made ((Stays.refl (fun _ => False) _).drew)).beside (HB6.out.made ((Stays.refl (fun _ => False) _).drew)) HD.out.symm K7); (replace Bo_ := Blk.stays (by with_reducible repeat (first | exact Bo_ | apply zbd | apply zbn)) K7 hnBo); (replace Ba_ := Blk.stays (by with_reducible repeat (first | exact Ba_ | apply zbd | apply zbn)) K7 hnBa); (have q0 := Bo_.cell 0); (have q1 := Bo_.cell 1); (have q2 := Bo_.cell 2); (have q3 := Bo_.cell 3); (have q4 := Bo_.cell 4); (have r0 := Ba_.cell 0); (have r1 := Ba_.cell 1); (have r2 := Ba_.cell 2); (have r3 := Ba_.cell 3)) | (go_at_call 62; (with_reducible refine (hGround_c HA7).mono ?_); (rintro _ _ ⟨rfl, rfl⟩)) | (go_at_call 67; (with_reducible refine (gWords_c HA7.held).mono ?_); (rintro _ w8 ⟨vx, rfl, RX, K8⟩); (have RXH := Hd.mk RX); (obtain ⟨gx, cx, rfl, -, gx0, gx1⟩ := RX); (have HB8 := HB7.made K8); (replace Bo_ := Blk.stays (by with_reducible repeat (first | exact Bo_ | apply zbd | apply zbn)) K8 (fun x => x)); (replace Ba_ := Blk.stays (by with_reducible repeat (first | exact Ba_ | apply zbd | apply zbn)) K8 (fun x => x)); (have q0 := Bo_.cell 0); (have q1 := Bo_.cell 1); (have q2 := Bo_.cell 2); (have q3 := Bo_.cell 3); (have q4 := Bo_.cell 4); (have r0 := Ba_.cell 0); (have r1 := Ba_.cell 1); (have r2 := Ba_.cell 2); (have r3 := Ba_.cell 3)) | (go_at_call 62; (with_reducible refine (hGround_c HB8).mono ?_); (rintro _ _ ⟨rfl, rfl⟩)) | (go_at_call 67; (with_reducible refine (gWords_c HB8.held).mono ?_); (rintro _ w9 ⟨vy, rfl, RY, K9⟩); (have RYH := Hd.mk RY); (obtain ⟨gy, cy, rfl, -, gy0, gy1⟩ := RY); (have RX9 := Hd.mk (RXH.out.stays K9 (fun _ _ x => x))); (replace Bo_ := Blk.stays (by with_reducible repeat (first | exact Bo_ | apply zbd | apply zbn)) K9 (fun x => x)); (replace Ba_ := Blk.stays (by with_reducible repeat (first | exact Ba_ | apply zbd | apply zbn)) K9 (fun x => x)); (have q0 := Bo_.cell 0); (have q1 := Bo_.cell 1); (have q2 := Bo_.cell 2); (have q3 := Bo_.cell 3); (have q4 := Bo_.cell 4); (have r0 := Ba_.cell 0); (have r1 := Ba_.cell 1); (have r2 := Ba_.cell 2); (have r3 := Ba_.cell 3)) | (go_at_call 68; (with_reducible refine (Same_c _ _ _ _ T.ws _ RX9.out RYH.out HLE.out).mono ?_); (rintro _ w10 ⟨rfl, K10⟩); (replace Bo_ := Blk.stays (by with_reducible repeat (first | exact Bo_ | apply zbd | apply zbn)) K10 (fun x => x)); (replace Ba_ := Blk.stays (by with_reducible repeat (first | exact Ba_ | apply zbd | apply zbn)) K10 (fun x => x)); (have q0 := Bo_.cell 0); (have q1 := Bo_.cell 1); (have q2 := Bo_.cell 2); (have q3 := Bo_.cell 3); (have q4 := Bo_.cell 4); (have r0 := Ba_.cell 0); (have r1 := Ba_.cell 1); (have r2 := Ba_.cell 2); (have r3 := Ba_.cell 3)) | (go_at_call 72; (with_reducible refine (begun22_c _ ((((((HN'.out.stays K0.out (fun x => x)).stays KU6.out (fun x => x)).stays (Stays.refl (fun _ => False) _).drew (fun x => x)).stays K7 hnN).stays K8 (fun x => x)).stays K9 (fun x => x) |>.stays K10 (fun x => x))).mono ?_); (rintro _ w11 ⟨rfl, K11⟩); (replace Bo_ := Blk.stays (by with_reducible repeat (first | exact Bo_ | apply zbd | apply zbn)) K11 (fun x => x)); (replace Ba_ := Blk.stays (by with_reducible repeat (first | exact Ba_ | apply zbd | apply zbn)) K11 (fun x => x)); (have q0 := Bo_.cell 0); (have q1 := Bo_.cell 1); (have q2 := Bo_.cell 2); (have q3 := Bo_.cell 3); (have q4 := Bo_.cell 4); (have r0 := Ba_.cell 0); (have r1 := Ba_.cell 1); (have r2 := Ba_.cell 2); (have r3 := Ba_.cell 3)))
        all_goals
          go_wp2_with fail
          go_ret
          exact ⟨rfl, ((((K0.out.trans (Stays.fresh KU6.out.drew K7 FB.out)).trans K8).trans K9).trans K10).trans K11⟩
theorem lawOpDoes_n (N W R K : Int) (A0 : Option Addr) (cap : Nat) (l : List Op5) (kd a b c v : Int) (w : World) (HN : Name3 w) (HL : OpsIn w A0 l) (hr : (rightC N W R K && rightL l) = false) :
    Calls Tryz.prog 15 #[.agg #[.int .i64 N, .int .i64 W, .int .i64 R, .int .i64 K], .slice A0 l.length cap, .agg #[.int .i64 kd, .int .i64 a, .int .i64 b, .int .i64 c, .int .u32 v]] w (Made w (.bool true)) := by
  have HR := Hd.mk hr
  have HN' := Hd.mk HN
  have HL' := Hd.mk HL
  clear hr HN HL
  obtain ⟨w0, e0⟩ : ∃ w0, w0 = (w.alloc (.cells #[.int .i64 N, .int .i64 W, .int .i64 R, .int .i64 K] 46)).alloc (.cells #[.int .i64 kd, .int .i64 a, .int .i64 b, .int .i64 c, .int .u32 v] 53) := ⟨_, rfl⟩
  have K0 : Hd (Stays (fun _ => False) w w0) := ⟨by rw [e0]; exact ((Stays.refl _ _).alloc _).alloc _⟩
  have Bc : Blk w0 w.heap.size 46 #[.int .i64 N, .int .i64 W, .int .i64 R, .int .i64 K] := by rw [e0]; exact (Blk.new w _ _).alloc _
  go_enter Tryz.func15, Tryz.ntmps15
  go_wp2_with fail
  rw [← e0]
  have HLw := Hd.mk (HL'.out.made K0.out)
  refine (Right21_c N W R K A0 cap l w0 HLw.out).mono ?_
  rintro _ w1 ⟨rfl, K1⟩
  rw [HR.out]
  go_wp2_with fail
  refine (begun22_c _ ((HN'.out.stays K0.out (fun x => x)).stays K1 (fun x => x))).mono ?_
  rintro _ w9 ⟨rfl, K9⟩
  go_wp2_with fail
  go_ret
  exact ⟨rfl, (K0.out.trans K1).trans K9⟩
theorem lawOpDoes_c (N W R K : Int) (A0 : Option Addr) (cap : Nat) (l : List Op5) (kd a b c v : Int) (hv : 0 ≤ v ∧ v ≤ 4294967295) (w : World) (HZ : NoneZ w) (HN : Name3 w) (HL : OpsIn w A0 l) :
    Calls Tryz.prog 15 #[.agg #[.int .i64 N, .int .i64 W, .int .i64 R, .int .i64 K], .slice A0 l.length cap, .agg #[.int .i64 kd, .int .i64 a, .int .i64 b, .int .i64 c, .int .u32 v]] w (Made w (.bool true)) := by
  cases hr : (rightC N W R K && rightL l)
  · exact lawOpDoes_n N W R K A0 cap l kd a b c v w HN HL hr
  · exact lawOpDoes_y N W R K A0 cap l kd a b c v hv w HZ HN HL hr
end Go.Proofs.YtadhdjldcpkfiaaGreatDoor
