/- OpBare, walked. -/
import Derived.Test.YtadhdjldcpkfiaaGreatDoorAn
import Derived.Test.YtadhdjldcpkfiaaGreatDoorBa
namespace Go.Proofs.YtadhdjldcpkfiaaGreatDoor
set_option linter.unusedVariables false
set_option linter.unusedSimpArgs false
open Go.RowKit
set_option maxRecDepth 100000
set_option maxHeartbeats 8000000

theorem bareO_do (o : Op5) (h0 : 1 ≤ o.kind) (h1 : o.kind ≤ 10) : doO (bareO o) = doO o := by
  obtain ⟨kd, a, b, c, v⟩ := o
  dsimp only at h0 h1
  rcases (by omega : kd = 1 ∨ kd = 2 ∨ kd = 3 ∨ kd = 4 ∨ kd = 5 ∨ kd = 6 ∨ kd = 7 ∨ kd = 8 ∨ kd = 9 ∨ kd = 10) with rfl | rfl | rfl | rfl | rfl | rfl | rfl | rfl | rfl | rfl <;> simp [bareO, doO, doK]
theorem lawOpBare_y (N W R K : Int) (A0 : Option Addr) (cap : Nat) (l : List Op5) (w : World) (HZ : NoneZ w) (HN : Name3 w) (HL : OpsIn w A0 l) (hr : (rightC N W R K && rightL l) = true) :
    Calls Tryz.prog 17 #[.agg #[.int .i64 N, .int .i64 W, .int .i64 R, .int .i64 K], .slice A0 l.length cap] w (Made w (.bool true)) := by
  have hr' := hr
  simp only [rightC, rightL, Bool.and_eq_true, decide_eq_true_eq, List.all_eq_true] at hr'
  obtain ⟨⟨⟨⟨hp, -⟩, -⟩, -⟩, hl, hk⟩ := hr'
  have HR := Hd.mk hr
  have HP := Hd.mk hp
  have HZ' := Hd.mk HZ
  have HN' := Hd.mk HN
  have HL' := Hd.mk HL
  have HK := Hd.mk hk
  clear hr hp hk HZ HN HL
  obtain ⟨w0, e0⟩ : ∃ w0, w0 = w.alloc (.cells #[.int .i64 N, .int .i64 W, .int .i64 R, .int .i64 K] 46) := ⟨_, rfl⟩
  have K0 : Hd (Stays (fun _ => False) w w0) := ⟨by rw [e0]; exact (Stays.refl _ _).alloc _⟩
  have Bc : Blk w0 w.heap.size 46 #[.int .i64 N, .int .i64 W, .int .i64 R, .int .i64 K] := by rw [e0]; exact Blk.new w _ _
  go_enter Tryz.func17, Tryz.ntmps17
  go_wp2_with fail
  rw [← e0]
  have HLw : OpsIn w0 A0 l := HL'.out.made K0.out
  have HLw := Hd.mk HLw
  refine (Right21_c N W R K A0 cap l w0 HLw.out).mono ?_
  rintro _ w1 ⟨rfl, K1⟩
  rw [HR.out]
  have Bc1 := Bc.stays K1 (fun x => x)
  have c0 := Bc1.cell 0
  have c1 := Bc1.cell 1
  have c2 := Bc1.cell 2
  have c3 := Bc1.cell 3
  go_wp2_with fail
  refine (hNew_c N W R K _ ((HZ'.out.stays K0.out (fun x => x)).stays K1 (fun x => x)) HP.out).mono ?_
  rintro _ w2 ⟨A, hA, ⟨rfl, K2⟩, H2, Y2⟩
  have Bc2 := Bc1.stays K2 (fun x => x)
  clear c0 c1 c2 c3
  have c0 := Bc2.cell 0
  have c1 := Bc2.cell 1
  have c2 := Bc2.cell 2
  have c3 := Bc2.cell 3
  go_wp2_with fail
  refine (hNew_c N W R K _ (((HZ'.out.stays K0.out (fun x => x)).stays K1 (fun x => x)).stays K2 (fun x => x)) HP.out).mono ?_
  rintro _ w3 ⟨B, hB, ⟨rfl, K3⟩, H3, Y3⟩
  have D := Apart.of (n := 0) H2.lts Y3
  have HA3 := H2.made K3
  have z1 := K1.size
  have z2 := K2.size
  have FA : Hd (∀ k, A.foot k → w0.heap.size ≤ k) := ⟨fun k hk => by
    have := Y2.s
    have := Y2.a
    rcases hk with rfl | rfl <;> omega⟩
  have FB : Hd (∀ k, B.foot k → w0.heap.size ≤ k) := ⟨fun k hk => by
    have := Y3.s
    have := Y3.a
    rcases hk with rfl | rfl <;> omega⟩
  have KK : Hd (Stays (fun _ => False) w0 w3) := ⟨(K1.trans K2).trans K3⟩
  have HD := Hd.mk D
  have HA3 := Hd.mk HA3
  have HB3 := Hd.mk H3
  generalize newS N W R K = S0 at *
  clear H2 H3 Y2 Y3 D z1 z2 K1 K2 K3 Bc1 Bc2 c0 c1 c2 c3
  go_wp2_with fail
  go_loopw [35] (fun i wr => ∃ j : Nat, j ≤ l.length ∧ i = .int .i64 j ∧ Hd (HeapAt A hA (stO S0 l j) wr) ∧ Hd (HeapAt B hB (stO S0 l j) wr) ∧ Hd (Stays (fun _ => False) w0 wr)) (fun i _ => l.length - (intOf i).toNat)
  case atStart => exact ⟨0, by omega, rfl, HA3, HB3, KK⟩
  case round =>
    obtain ⟨j, hj, rfl, HA, HB, KU⟩ := hrel
    by_cases cj : j < l.length
    · obtain ⟨bb, off, hA0, x0, x1, x2, x3, x4⟩ := HLw.out.at_ j cj
      have hoj := HK.out l[j] (List.getElem_mem _)
      have hov := HLw.out.rng l[j] (List.getElem_mem _)
      subst hA0
      have lt0 := World.block_lt_of_cell? w0 _ x0
      have y0 := (KU.out.cell (p := ⟨bb, off + j * 5, none⟩) lt0 (fun x => x)).trans x0
      have y1 := (KU.out.cell (p := ⟨bb, off + j * 5 + 1, none⟩) lt0 (fun x => x)).trans x1
      have y2 := (KU.out.cell (p := ⟨bb, off + j * 5 + 2, none⟩) lt0 (fun x => x)).trans x2
      have y3 := (KU.out.cell (p := ⟨bb, off + j * 5 + 3, none⟩) lt0 (fun x => x)).trans x3
      have y4 := (KU.out.cell (p := ⟨bb, off + j * 5 + 4, none⟩) lt0 (fun x => x)).trans x4
      have hgd : l.getD j default = l[j] := by simp [List.getD_eq_getElem?_getD, cj]
      obtain ⟨o, ho⟩ : ∃ o, l[j] = o := ⟨_, rfl⟩
      have hst : stO S0 l (j + 1) = (doO o (stO S0 l j)).2 := by rw [← ho, ← hgd]; rfl
      rw [ho] at y0 y1 y2 y3 y4 hov hoj
      clear x0 x1 x2 x3 x4 ho lt0 hgd
      obtain ⟨x, hx⟩ : ∃ x, bareO o = x := ⟨_, rfl⟩
      have hxk := bareO_kind o hoj.1 hoj.2
      have hxx := bareO_bare o
      have hxv := bareO_v o hov
      have hxd := bareO_do o hoj.1 hoj.2
      rw [hx] at hxk hxx hxv hxd
      obtain ⟨k1, a1, b1, c1, v1⟩ := o
      obtain ⟨xk, xa, xb, xc, xv⟩ := x
      dsimp only at y0 y1 y2 y3 y4 hov hoj hxk hxv
      subst hxk
      generalize hSj : stO S0 l j = Sj at *
      obtain ⟨ans, T, eO⟩ : ∃ ans T, doO ⟨xk, a1, b1, c1, v1⟩ Sj = (ans, T) := ⟨_, _, rfl⟩
      have eX : doO ⟨xk, xa, xb, xc, xv⟩ Sj = (ans, T) := by rw [hxd]; exact eO
      rw [eO] at hst
      have EO := Hd.mk eO
      have EX := Hd.mk eX
      have HST := Hd.mk hst
      have HOV := Hd.mk hov
      have HXV := Hd.mk hxv
      have CB := Hd.mk (fun w => Bare_c hoj.1 hoj.2 w hx)
      have CX := Hd.mk (fun w => Bare_c hoj.1 hoj.2 w hxx)
      have CP := Hd.mk (fun w => Plain_c hoj.1 hoj.2 w hxx)
      have hme := Hd.mk (show l.length - ((j : Int) + 1).toNat < l.length - (j : Int).toNat by omega)
      have hj1 := Hd.mk (show j + 1 ≤ l.length by omega)
      have cb : decide ((j : Int) < (l.length : Int)) = true := decide_eq_true (by omega)
      have NQ := neqAns
      have NO := neqOp
      have AX : Stays (fun _ => False) wr (wr.alloc (.cells #[.int .i64 xk, .int .i64 a1, .int .i64 b1, .int .i64 c1, .int .u32 v1] 53)) := (Stays.refl (fun _ => False) wr).alloc _
      have BO := Blk.new wr 53 #[.int .i64 xk, .int .i64 a1, .int .i64 b1, .int .i64 c1, .int .u32 v1]
      have HAx := Hd.mk (HA.out.made AX)
      have HBx := Hd.mk (HB.out.made AX)
      have KUx := Hd.mk (KU.out.trans AX)
      have hnA : ¬ A.foot wr.heap.size := GA.foot_far HA.out.held.top
      have hnB : ¬ B.foot wr.heap.size := GA.foot_far HB.out.held.top
      clear eO eX hst hov hoj hxx hxv hxd hx AX
      go_wp2_with fail
      refine (CB.out _).mono ?_
      rintro _ w5 ⟨rfl, K5⟩
      have AY : Stays (fun _ => False) w5 (w5.alloc (.cells #[.int .i64 xk, .int .i64 xa, .int .i64 xb, .int .i64 xc, .int .u32 xv] 53)) := (Stays.refl (fun _ => False) w5).alloc _
      have BX_ := Blk.new w5 53 #[.int .i64 xk, .int .i64 xa, .int .i64 xb, .int .i64 xc, .int .u32 xv]
      have BO_ := (BO.stays K5 (fun x => x)).stays AY (fun x => x)
      have HA6 := Hd.mk ((HAx.out.made K5).made AY)
      have HB6 := Hd.mk ((HBx.out.made K5).made AY)
      have KU6 := Hd.mk ((KUx.out.trans K5).trans AY)
      have hsA := (HAx.out.made K5).lts
      have hsB := (HBx.out.made K5).lts
      have hmA : ¬ A.foot w5.heap.size := GA.foot_far (HAx.out.made K5).held.top
      have hmB : ¬ B.foot w5.heap.size := GA.foot_far (HBx.out.made K5).held.top
      clear K5 AY y0 y1 y2 y3 y4 BO HAx HBx KUx hsA hsB
      go_upto_region 11 with fail
      generalize hwq : w5.alloc (.cells #[.int .i64 xk, .int .i64 xa, .int .i64 xb, .int .i64 xc, .int .u32 xv] 53) = wq at *
      clear hwq
      have q0 := BO_.cell 0
      have q1 := BO_.cell 1
      have q2 := BO_.cell 2
      have q3 := BO_.cell 3
      have q4 := BO_.cell 4
      have r0 := BX_.cell 0
      have r1 := BX_.cell 1
      have r2 := BX_.cell 2
      have r3 := BX_.cell 3
      have r4 := BX_.cell 4
      go_region_held3 (fun wx => wx.cell? ⟨wr.heap.size, 0, none⟩ = some (.int .i64 xk) ∧ wx.cell? ⟨wr.heap.size, 1, none⟩ = some (.int .i64 a1) ∧ wx.cell? ⟨wr.heap.size, 2, none⟩ = some (.int .i64 b1) ∧ wx.cell? ⟨wr.heap.size, 3, none⟩ = some (.int .i64 c1) ∧ wx.cell? ⟨wr.heap.size, 4, none⟩ = some (.int .u32 v1) ∧ wx.cell? ⟨w5.heap.size, 0, none⟩ = some (.int .i64 xk) ∧ wx.cell? ⟨w5.heap.size, 1, none⟩ = some (.int .i64 xa) ∧ wx.cell? ⟨w5.heap.size, 2, none⟩ = some (.int .i64 xb) ∧ wx.cell? ⟨w5.heap.size, 3, none⟩ = some (.int .i64 xc) ∧ wx.cell? ⟨w5.heap.size, 4, none⟩ = some (.int .u32 xv))
        (first | exact ⟨q0, q1, q2, q3, q4, r0, r1, r2, r3, r4⟩ | go_keep)
        (first | (go_at_call 78; (with_reducible refine (CP.out _).mono ?_); (rintro _ w7 ⟨rfl, K7⟩); (replace BO_ := Blk.stays (by with_reducible repeat (first | exact BO_ | apply zbd | apply zbn)) K7 (fun x => x)); (replace BX_ := Blk.stays (by with_reducible repeat (first | exact BX_ | apply zbd | apply zbn)) K7 (fun x => x)); (have q0 := BO_.cell 0); (have r0 := BX_.cell 0); (have q1 := BO_.cell 1); (have r1 := BX_.cell 1); (have q2 := BO_.cell 2); (have r2 := BX_.cell 2); (have q3 := BO_.cell 3); (have r3 := BX_.cell 3); (have q4 := BO_.cell 4); (have r4 := BX_.cell 4)) | (go_at_call 77; (with_reducible refine (CX.out _).mono ?_); (rintro _ w8 ⟨rfl, K8⟩); (replace BO_ := Blk.stays (by with_reducible repeat (first | exact BO_ | apply zbd | apply zbn)) K8 (fun x => x)); (replace BX_ := Blk.stays (by with_reducible repeat (first | exact BX_ | apply zbd | apply zbn)) K8 (fun x => x)); (have q0 := BO_.cell 0); (have r0 := BX_.cell 0); (have q1 := BO_.cell 1); (have r1 := BX_.cell 1); (have q2 := BO_.cell 2); (have r2 := BX_.cell 2); (have q3 := BO_.cell 3); (have r3 := BX_.cell 3); (have q4 := BO_.cell 4); (have r4 := BX_.cell 4)) | (go_at_call 73; (with_reducible refine (doO_x (((HA6.out.made ((Stays.refl (fun _ => False) _).drew)).made K7).made K8) HOV.out EO.out).mono ?_); (rintro _ w9 ⟨rfl, HA9, K9⟩); (replace BO_ := Blk.stays (by with_reducible repeat (first | exact BO_ | apply zbd | apply zbn)) K9 (by assumption)); (replace BX_ := Blk.stays (by with_reducible repeat (first | exact BX_ | apply zbd | apply zbn)) K9 (by assumption)); (have q0 := BO_.cell 0); (have r0 := BX_.cell 0); (have q1 := BO_.cell 1); (have r1 := BX_.cell 1); (have q2 := BO_.cell 2); (have r2 := BX_.cell 2); (have q3 := BO_.cell 3); (have r3 := BX_.cell 3); (have q4 := BO_.cell 4); (have r4 := BX_.cell 4)) | (go_at_call 73; (with_reducible refine (doO_x ((((HB6.out.made ((Stays.refl (fun _ => False) _).drew)).made K7).made K8).beside (((HA6.out.made ((Stays.refl (fun _ => False) _).drew)).made K7).made K8) HD.out K9) HXV.out EX.out).mono ?_); (rintro _ w10 ⟨rfl, HB10, K10⟩); (replace BO_ := Blk.stays (by with_reducible repeat (first | exact BO_ | apply zbd | apply zbn)) K10 (by assumption)); (replace BX_ := Blk.stays (by with_reducible repeat (first | exact BX_ | apply zbd | apply zbn)) K10 (by assumption)); (have q0 := BO_.cell 0); (have r0 := BX_.cell 0); (have q1 := BO_.cell 1); (have r1 := BX_.cell 1); (have q2 := BO_.cell 2); (have r2 := BX_.cell 2); (have q3 := BO_.cell 3); (have r3 := BX_.cell 3); (have q4 := BO_.cell 4); (have r4 := BX_.cell 4)))
      all_goals
        have HA10 : Hd (HeapAt A hA (stO S0 l (j + 1)) w10) := ⟨by rw [HST.out]; exact HA9.beside ((((HB6.out.made ((Stays.refl (fun _ => False) _).drew)).made K7).made K8).beside (((HA6.out.made ((Stays.refl (fun _ => False) _).drew)).made K7).made K8) HD.out K9) HD.out.symm K10⟩
        have HB11 : Hd (HeapAt B hB (stO S0 l (j + 1)) w10) := ⟨by rw [HST.out]; exact HB10⟩
        have KE := Hd.mk (Stays.fresh (Stays.fresh ((KU6.out.drew.trans K7).trans K8) K9 FA.out) K10 FB.out)
        clear HA9 HB10 K7 K8 K9 K10 BO_ BX_ q0 q1 q2 q3 q4 r0 r1 r2 r3 r4
        go_wp2_with fail
        go_roundw
        case rel => exact ⟨j + 1, hj1.out, by first | rfl | simp, HA10, HB11, KE⟩
        case measure =>
          first
            | exact hme.out
            | (simp only [intOf]; exact hme.out)
    · have cb : decide ((j : Int) < (l.length : Int)) = false := decide_eq_false (by omega)
      obtain rfl : j = l.length := by omega
      generalize stO S0 l l.length = S1 at *
      have hle : S1.ws.length ≤ 8388608 := by
        have h1 := HA.out.held.ok.len
        have h2 := HA.out.held.ok.nw
        have h3 := HA.out.held.ok.r2
        omega
      have HLE := Hd.mk hle
      clear hle
      go_wp2_with fail
      refine (begun22_c _ ((HN'.out.stays K0.out (fun x => x)).stays KU.out (fun x => x))).mono ?_
      rintro _ w4 ⟨rfl, K4⟩
      have HA4 := Hd.mk (HA.out.made K4)
      have HB4 := Hd.mk (HB.out.made K4)
      go_wp2_with fail
      refine (hGround_c HA4.out).mono ?_
      rintro _ _ ⟨rfl, rfl⟩
      go_wp2_with fail
      refine (gWords_c HA4.out.held).mono ?_
      rintro _ w5 ⟨vw, rfl, RW, K5⟩
      have RWH := Hd.mk RW
      obtain ⟨gw, cw, rfl, -, gw0, gw1⟩ := RW
      have HB5 := Hd.mk (HB4.out.made K5)
      go_wp2_with fail
      refine (hGround_c HB5.out).mono ?_
      rintro _ _ ⟨rfl, rfl⟩
      go_wp2_with fail
      refine (gWords_c HB5.out.held).mono ?_
      rintro _ w6 ⟨vx, rfl, RX, K6⟩
      have RXH := Hd.mk RX
      obtain ⟨gx, cx, rfl, -, gx0, gx1⟩ := RX
      have RW6 := Hd.mk (RWH.out.stays K6 (fun _ _ x => x))
      go_wp2_with fail
      refine (Same_c _ _ _ _ S1.ws _ RW6.out RXH.out HLE.out).mono ?_
      rintro _ w7 ⟨rfl, K7⟩
      go_wp2_with fail
      go_ret
      exact ⟨rfl, ((((K0.out.trans KU.out).trans K4).trans K5).trans K6).trans K7⟩
theorem lawOpBare_n (N W R K : Int) (A0 : Option Addr) (cap : Nat) (l : List Op5) (w : World) (HN : Name3 w) (HL : OpsIn w A0 l) (hr : (rightC N W R K && rightL l) = false) :
    Calls Tryz.prog 17 #[.agg #[.int .i64 N, .int .i64 W, .int .i64 R, .int .i64 K], .slice A0 l.length cap] w (Made w (.bool true)) := by
  have HR := Hd.mk hr
  have HN' := Hd.mk HN
  have HL' := Hd.mk HL
  clear hr HN HL
  obtain ⟨w0, e0⟩ : ∃ w0, w0 = w.alloc (.cells #[.int .i64 N, .int .i64 W, .int .i64 R, .int .i64 K] 46) := ⟨_, rfl⟩
  have K0 : Hd (Stays (fun _ => False) w w0) := ⟨by rw [e0]; exact (Stays.refl _ _).alloc _⟩
  have Bc : Blk w0 w.heap.size 46 #[.int .i64 N, .int .i64 W, .int .i64 R, .int .i64 K] := by rw [e0]; exact Blk.new w _ _
  go_enter Tryz.func17, Tryz.ntmps17
  go_wp2_with fail
  rw [← e0]
  have HLw := Hd.mk (HL'.out.made K0.out)
  refine (Right21_c N W R K A0 cap l w0 HLw.out).mono ?_
  rintro _ w1 ⟨rfl, K1⟩
  rw [HR.out]
  go_wp2_with fail
  refine (begun22_c _ ((HN'.out.stays K0.out (fun x => x)).stays K1 (fun x => x))).mono ?_
  rintro _ w9 ⟨rfl, K9⟩
  go_wp2_with fail
  go_ret
  exact ⟨rfl, (K0.out.trans K1).trans K9⟩
theorem lawOpBare_c (N W R K : Int) (A0 : Option Addr) (cap : Nat) (l : List Op5) (w : World) (HZ : NoneZ w) (HN : Name3 w) (HL : OpsIn w A0 l) :
    Calls Tryz.prog 17 #[.agg #[.int .i64 N, .int .i64 W, .int .i64 R, .int .i64 K], .slice A0 l.length cap] w (Made w (.bool true)) := by
  cases hr : (rightC N W R K && rightL l)
  · exact lawOpBare_n N W R K A0 cap l w HN HL hr
  · exact lawOpBare_y N W R K A0 cap l w HZ HN HL hr
end Go.Proofs.YtadhdjldcpkfiaaGreatDoor
