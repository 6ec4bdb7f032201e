/- HeapOver, walked. -/
import Derived.Test.YtadhdjldcpkfiaaGreatDoorOv
import Derived.Test.YtadhdjldcpkfiaaGreatDoorPr
import Derived.Test.YtadhdjldcpkfiaaGreatDoorK11
import Derived.Test.YtadhdjldcpkfiaaGreatDoorCf
namespace Go.Proofs.YtadhdjldcpkfiaaGreatDoor
set_option linter.unusedVariables false
set_option linter.unusedSimpArgs false
open Go.RowKit
set_option maxRecDepth 100000
set_option maxHeartbeats 8000000

theorem hMeter_v {A : GA} {hb : Nat} {S : GS} {w : World} (H : HeapAt A hb S w) {M : Int} (h : S.m = M) :
    Calls Tryz.prog 59 #[.pointer (some ⟨hb, 0, none⟩)] w fun e w' => e = .returned (.int .u64 M) ∧ w = w' := h ▸ hMeter_c H
theorem wrap_u64 (x : Int) : IntKind.u64.wrap x = x % 18446744073709551616 := rfl
theorem lawHeapOver_y (N W R K : Int) (A0 : Addr) (cap : Nat) (l : List Op5) (at_ : Int) (ha : 0 ≤ at_ ∧ at_ ≤ 255) (hcap : l.length ≤ cap) (w : World) (HZ : NoneZ w) (HL : OpsIn w (some A0) l) (hr : (rightC N W R K && rightL l) = true) :
    Calls Tryz.prog 14 #[.agg #[.int .i64 N, .int .i64 W, .int .i64 R, .int .i64 K], .slice (some A0) l.length cap, .int .u8 at_] w (Made w (.bool true)) := by
  have hr' := hr
  simp only [rightC, rightL, Bool.and_eq_true, decide_eq_true_eq, List.all_eq_true] at hr'
  obtain ⟨⟨⟨⟨hp, -⟩, -⟩, -⟩, hl, hk⟩ := hr'
  have HR := Hd.mk hr
  have HP := Hd.mk hp
  have HZ' := Hd.mk HZ
  have HL' := Hd.mk HL
  have HK := Hd.mk hk
  clear hr hp hk HZ HL
  obtain ⟨w0, e0⟩ : ∃ w0, w0 = w.alloc (.cells #[.int .i64 N, .int .i64 W, .int .i64 R, .int .i64 K] 46) := ⟨_, rfl⟩
  have K0 : Hd (Stays (fun _ => False) w w0) := ⟨by rw [e0]; exact (Stays.refl _ _).alloc _⟩
  have Bc : Blk w0 w.heap.size 46 #[.int .i64 N, .int .i64 W, .int .i64 R, .int .i64 K] := by rw [e0]; exact Blk.new w _ _
  go_enter Tryz.func14, Tryz.ntmps14
  go_wp2_with fail
  rw [← e0]
  have HLw : OpsIn w0 (some A0) l := HL'.out.made K0.out
  have HLw := Hd.mk HLw
  refine (Right21_c N W R K (some A0) cap l w0 HLw.out).mono ?_
  rintro _ w1 ⟨rfl, K1⟩
  rw [HR.out]
  have Bc1 := Bc.stays K1 (fun x => x)
  have c0 := Bc1.cell 0
  have c1 := Bc1.cell 1
  have c2 := Bc1.cell 2
  have c3 := Bc1.cell 3
  go_wp2_with fail
  refine (hNew_c N W R K _ ((HZ'.out.stays K0.out (fun x => x)).stays K1 (fun x => x)) HP.out).mono ?_
  rintro _ w2 ⟨A, hA, ⟨rfl, K2⟩, H2, Y2⟩
  have Bc2 := Bc1.stays K2 (fun x => x)
  clear c0 c1 c2 c3
  have c0 := Bc2.cell 0
  have c1 := Bc2.cell 1
  have c2 := Bc2.cell 2
  have c3 := Bc2.cell 3
  have hcap' : l.length ≤ cap := hcap
  have ha' := ha
  go_upto_region 7 with fail
  obtain ⟨k, hk1, hk2⟩ : ∃ k : Nat, (if (l.length : Int) < at_ then (l.length : Int) else at_) = (k : Int) ∧ k ≤ l.length := by
    split
    · exact ⟨l.length, rfl, by omega⟩
    · exact ⟨at_.toNat, by omega, by omega⟩
  rw [hk1]
  clear hk1 ha ha'
  have hkc : k ≤ cap := by omega
  have YA := Hd.mk Y2
  have FA : Hd (∀ b, A.foot b → w0.heap.size ≤ b) := ⟨fun b hb => by
    have := Y2.s
    have := Y2.a
    have := K1.size
    rcases hb with rfl | rfl <;> omega⟩
  have HA2 := Hd.mk H2
  have KK : Hd (Stays (fun _ => False) w0 w2) := ⟨K1.trans K2⟩
  obtain ⟨S0, hS0⟩ : ∃ S0, S0 = newS N W R K := ⟨_, rfl⟩
  have HS0 := Hd.mk hS0
  rw [← hS0] at HA2
  have hl4 : k ≤ 400 := by omega
  clear hS0 H2 Y2 K1 K2 Bc1 Bc2 c0 c1 c2 c3
  go_wp2_with fail
  go_loopw [46] (fun i wr => ∃ j : Nat, j ≤ k ∧ i = .int .i64 j ∧ Hd (HeapAt A hA (stN S0 (l.take j)) wr) ∧ Hd (Stays A.foot w2 wr) ∧ Hd (Stays (fun _ => False) w0 wr)) (fun i _ => k - (intOf i).toNat)
  case atStart => exact ⟨0, by omega, rfl, HA2, ⟨Stays.refl _ _⟩, KK⟩
  case round =>
    obtain ⟨j, hj, rfl, HA, KG, KU⟩ := hrel
    by_cases cj : j < k
    · have cj' : j < l.length := by omega
      obtain ⟨bb, off, hA0, x0, x1, x2, x3, x4⟩ := HLw.out.at_ j cj'
      obtain rfl := Option.some.inj hA0
      have hov := HLw.out.rng l[j] (List.getElem_mem _)
      have lt0 := World.block_lt_of_cell? w0 _ x0
      have y0 := (KU.out.cell (p := ⟨bb, off + j * 5, none⟩) lt0 (fun x => x)).trans x0
      have y1 := (KU.out.cell (p := ⟨bb, off + j * 5 + 1, none⟩) lt0 (fun x => x)).trans x1
      have y2 := (KU.out.cell (p := ⟨bb, off + j * 5 + 2, none⟩) lt0 (fun x => x)).trans x2
      have y3 := (KU.out.cell (p := ⟨bb, off + j * 5 + 3, none⟩) lt0 (fun x => x)).trans x3
      have y4 := (KU.out.cell (p := ⟨bb, off + j * 5 + 4, none⟩) lt0 (fun x => x)).trans x4
      have hst := stN_succ S0 l j cj'
      obtain ⟨o, ho⟩ : ∃ o, l[j] = o := ⟨_, rfl⟩
      rw [ho] at y0 y1 y2 y3 y4 hov hst
      clear x0 x1 x2 x3 x4 ho lt0 cj'
      obtain ⟨k1, a1, b1, c1, v1⟩ := o
      dsimp only at y0 y1 y2 y3 y4 hov
      generalize hSj : stN S0 (l.take j) = Sj at *
      obtain ⟨ans, T, eL⟩ : ∃ ans T, doL ⟨k1, a1, b1, c1, v1⟩ Sj = (ans, T) := ⟨_, _, rfl⟩
      rw [eL] at hst
      have EL := Hd.mk eL
      have HST := Hd.mk hst
      have HOV := Hd.mk hov
      have hme := Hd.mk (show k - ((j : Int) + 1).toNat < k - (j : Int).toNat by omega)
      have hj1 := Hd.mk (show j + 1 ≤ k by omega)
      have cb : decide ((j : Int) < (k : Int)) = true := decide_eq_true (by omega)
      have AX : Stays (fun _ => False) wr (wr.alloc (.cells #[.int .i64 k1, .int .i64 a1, .int .i64 b1, .int .i64 c1, .int .u32 v1] 53)) := (Stays.refl (fun _ => False) wr).alloc _
      have HAx := Hd.mk (HA.out.made AX)
      have KGx := Hd.mk (KG.out.trans (AX.mono (fun _ x => x.elim)))
      have KUx := Hd.mk (KU.out.trans AX)
      clear eL hst hov AX
      go_wp2_with fail
      refine (doL_x HAx.out HOV.out EL.out).mono ?_
      rintro _ w5 ⟨rfl, HA5, K5⟩
      have HA6 : Hd (HeapAt A hA (stN S0 (l.take (j + 1))) w5) := ⟨by rw [HST.out]; exact HA5⟩
      have KG6 := Hd.mk (KGx.out.trans K5)
      have KU6 := Hd.mk (Stays.fresh KUx.out K5 FA.out)
      clear HA5 K5
      go_wp2_with fail
      go_roundw
      case rel => exact ⟨j + 1, hj1.out, by first | rfl | simp, HA6, KG6, KU6⟩
      case measure =>
        first
          | exact hme.out
          | (simp only [intOf]; exact hme.out)
    · have cb : decide ((j : Int) < (k : Int)) = false := decide_eq_false (by omega)
      obtain rfl : j = k := by omega
      go_wp2_with fail
      refine (hGround_c HA.out).mono ?_
      rintro _ _ ⟨rfl, rfl⟩
      go_wp2_with fail
      refine (gWords_c HA.out.held).mono ?_
      rintro _ w4 ⟨vw, rfl, RW, K4⟩
      have RWH := Hd.mk RW
      obtain ⟨gw, cw, rfl, hrow, gw0, gw1⟩ := RW
      obtain ⟨S1, hS1⟩ : ∃ S1, S1 = stN S0 (l.take j) := ⟨_, rfl⟩
      rw [← hS1] at HA RWH hrow ⊢
      have hcf := HA2.out.held.conf HA.out.held KG.out
      have hcf0 := newS_conf N W R K
      rw [← HS0.out] at hcf0
      have hn1 : S1.n = N := hcf.1.trans hcf0.1
      have hw1 : S1.w = W := hcf.2.1.trans hcf0.2.1
      have hr1 : S1.r = R := hcf.2.2.1.trans hcf0.2.2.1
      have hk1 : S1.k = K := hcf.2.2.2.trans hcf0.2.2.2
      have hm1 : 0 ≤ S1.m ∧ S1.m < 18446744073709551616 := by
        rw [hS1]
        exact stN_range _ _ (by rw [HS0.out]; exact newS_range N W R K)
      have HOK := HA.out.held.ok
      have hlen : S1.ws.length = (gsNew N W R K).ws.length := by
        obtain ⟨n0, n1, w0, w1, r0, r1, k0, k1, hp⟩ := plCheck_pos HP.out
        have h1 := HOK.len
        have h2 := (gsNew_ok N W R K n0 n1 w0 w1 r0 r1 k0 k1 hp).len
        rw [hn1, hw1, hr1] at h1
        have h3 : ((gsNew N W R K).ws.length : Int) = 24 + R + N * W := h2
        omega
      have hl24 : 24 ≤ S1.ws.length := by
        have h1 := HOK.len
        have h2 := HOK.r1
        have h3 : 0 ≤ S1.n * S1.w := Int.mul_nonneg (by have := HOK.n1; omega) (by have := HOK.w1; omega)
        omega
      have hl8 : S1.ws.length ≤ 8388608 := by
        have h1 := HOK.len
        have h2 := HOK.nw
        have h3 := HOK.r2
        omega
      obtain ⟨G, hG⟩ : ∃ G : GS, G = { gsNew N W R K with ws := S1.ws } := ⟨_, rfl⟩
      have hSG : S1 = shf S1.m G := by
        refine shf_zero hm1 ?_ ?_ ?_ ?_ ?_ ?_
        · rw [hG]; exact hn1
        · rw [hG]; exact hw1
        · rw [hG]; exact hr1
        · rw [hG]; exact hk1
        · rw [hG]
        · rw [hG]; rfl
      have HSG := Hd.mk hSG
      have HGG := Hd.mk hG
      have HLN := Hd.mk hlen
      have HWD := Hd.mk HOK.word
      have CEL := Hd.mk (fun (q : Nat) (hq : q < S1.ws.length) => Row.cell hrow rfl hq)
      have hcw : S1.ws.length ≤ cw := by
        rcases hrow.2 with ⟨h, h0⟩ | ⟨g', cap', cur, hv, hb', hg', hn, hc, hs, ht⟩
        · cases h
        · simp at hv
          omega
      have KU4 := Hd.mk (KU.out.trans K4)
      have HA4 := Hd.mk (HA.out.made K4)
      have Bc4 := Bc.stays KU4.out (fun x => x)
      have c0 := Bc4.cell 0
      have c1 := Bc4.cell 1
      have c2 := Bc4.cell 2
      have c3 := Bc4.cell 3
      have HZ4 := Hd.mk ((HZ'.out.stays K0.out (fun x => x)).stays KU4.out (fun x => x))
      have hgw := Hd.mk gw1
      have HL24 := Hd.mk hl24
      clear hS1 hcf hcf0 hn1 hw1 hr1 hk1 hm1 HOK hlen hG hSG hrow
      go_wp2_with fail
      have CO := hOver_c N W R K _ HZ4.out HP.out gw cw S1.ws HLN.out HWD.out hgw.out CEL.out
      rw [← HLN.out] at CO
      refine CO.mono ?_
      clear CO
      rintro _ w5 ⟨B, hB, ⟨rfl, K5⟩, HB5, YB⟩
      rw [← HGG.out] at HB5
      have hs4 := K4.size
      have hsu := KU.out.size
      have FB : Hd (∀ b, B.foot b → w0.heap.size ≤ b) := ⟨fun b hb => by
        have := YB.s
        have := YB.a
        rcases hb with rfl | rfl <;> omega⟩
      have HD := Hd.mk (Apart.of (n := 0) HA4.out.lts YB)
      have HA5 := Hd.mk (HA4.out.made K5)
      have HB5 := Hd.mk HB5
      have KU5 := Hd.mk (KU4.out.trans K5)
      have Bc5 := Bc.stays KU5.out (fun x => x)
      have HZ5 := Hd.mk ((HZ'.out.stays K0.out (fun x => x)).stays KU5.out (fun x => x))
      clear K5 K4 YB Bc4 c0 c1 c2 c3 hs4 hsu HA4 HZ4 KU4
      have c0 := Bc5.cell 0
      have c1 := Bc5.cell 1
      have c2 := Bc5.cell 2
      have c3 := Bc5.cell 3
      have hi1 : (1 : Int) ≤ (S1.ws.length : Int) := by omega
      have hi2 : (S1.ws.length : Int) ≤ (cw : Int) := by omega
      have hi3 : ¬ cw = 1 := by omega
      have hi4 : ¬ 1 = cw := by omega
      have hi5 : 1 ≤ S1.ws.length := by omega
      have hi6 : ¬ (1 : Int) = (cw : Int) := by omega
      go_upto_region 14 with fail
      go_region_held3 (fun wx => wx.cell? ⟨w.heap.size, 0, none⟩ = some (.int .i64 N) ∧ wx.cell? ⟨w.heap.size, 1, none⟩ = some (.int .i64 W) ∧ wx.cell? ⟨w.heap.size, 2, none⟩ = some (.int .i64 R) ∧ wx.cell? ⟨w.heap.size, 3, none⟩ = some (.int .i64 K))
        (first | exact ⟨c0, c1, c2, c3⟩ | go_keep)
        (first | (go_at_call 71; (with_reducible refine (hOver_few N W R K _ HZ5.out.drew HP.out _ _ _ (by have h1 := HLN.out; have h2 := HL24.out; simp; omega)).mono ?_); (rintro _ w6 ⟨rfl, K6⟩); (have Bc6 := Blk.stays (Blk.drew Bc5) K6 (fun x => x)); (have c0 := Bc6.cell 0); (have c1 := Bc6.cell 1); (have c2 := Bc6.cell 2); (have c3 := Bc6.cell 3)))
      all_goals
        have HA6 := Hd.mk ((HA5.out.made ((Stays.refl (fun _ => False) _).drew)).made K6)
        have HB6 := Hd.mk ((HB5.out.made ((Stays.refl (fun _ => False) _).drew)).made K6)
        have KU6 := Hd.mk (KU5.out.drew.trans K6)
        clear K6 Bc6 Bc5 c0 c1 c2 c3 HA5 HB5 KU5 HZ5
        by_cases hjl : j < l.length
        · obtain ⟨bb, off, hA0, -⟩ := HLw.out.at_ j hjl
          obtain rfl := Option.some.inj hA0
          have hjc : j < cap := by omega
          have HA6' : Hd (HeapAt A hA (shf S1.m G) w6) := ⟨by rw [HSG.out.symm]; exact HA6.out⟩
          go_wp2_with fail
          go_loopw [84] (fun i wr => ∃ q : Nat, q ≤ l.length - j ∧ i = .int .i64 q ∧ Hd (HeapAt A hA (shf S1.m (stN G ((l.drop j).take q))) wr) ∧ Hd (HeapAt B hB (stN G ((l.drop j).take q)) wr) ∧ Hd (Stays (fun _ => False) w0 wr)) (fun i _ => l.length - j - (intOf i).toNat)
          case atStart => exact ⟨0, by omega, rfl, HA6', HB6, KU6⟩
          case round =>
            obtain ⟨q, hq, rfl, HA, HB, KU⟩ := hrel
            by_cases cq : q < l.length - j
            · have cq' : j + q < l.length := by omega
              obtain ⟨b2, off2, hA0, x0, x1, x2, x3, x4⟩ := HLw.out.at_ (j + q) cq'
              obtain ⟨rfl, rfl⟩ : bb = b2 ∧ off = off2 := by simpa using hA0
              have hov := HLw.out.rng l[j + q] (List.getElem_mem _)
              have lt0 := World.block_lt_of_cell? w0 _ x0
              have hof : off + (j + q) * 5 = off + j * 5 + q * 5 := by omega
              rw [hof] at x0 x1 x2 x3 x4 lt0
              have y0 := (KU.out.cell (p := ⟨bb, off + j * 5 + q * 5, none⟩) lt0 (fun x => x)).trans x0
              have y1 := (KU.out.cell (p := ⟨bb, off + j * 5 + q * 5 + 1, none⟩) lt0 (fun x => x)).trans x1
              have y2 := (KU.out.cell (p := ⟨bb, off + j * 5 + q * 5 + 2, none⟩) lt0 (fun x => x)).trans x2
              have y3 := (KU.out.cell (p := ⟨bb, off + j * 5 + q * 5 + 3, none⟩) lt0 (fun x => x)).trans x3
              have y4 := (KU.out.cell (p := ⟨bb, off + j * 5 + q * 5 + 4, none⟩) lt0 (fun x => x)).trans x4
              have hst := stN_succ G (l.drop j) q (by simpa using cq)
              rw [List.getElem_drop] at hst
              obtain ⟨o, ho⟩ : ∃ o, l[j + q] = o := ⟨_, rfl⟩
              rw [ho] at y0 y1 y2 y3 y4 hov hst
              clear x0 x1 x2 x3 x4 ho lt0 cq' hof hA0
              obtain ⟨k1, a1, b1, c1, v1⟩ := o
              dsimp only at y0 y1 y2 y3 y4 hov
              generalize hSj : stN G ((l.drop j).take q) = U at *
              obtain ⟨ans, V, eL⟩ : ∃ ans V, doL ⟨k1, a1, b1, c1, v1⟩ U = (ans, V) := ⟨_, _, rfl⟩
              have eA : doL ⟨k1, a1, b1, c1, v1⟩ (shf S1.m U) = (ans, shf S1.m V) := by rw [doL_sh, eL]
              rw [eL] at hst
              obtain ⟨M0, hM0⟩ : ∃ M0, (shf S1.m U).m = M0 := ⟨_, rfl⟩
              obtain ⟨M1, hM1⟩ : ∃ M1, (shf S1.m V).m = M1 := ⟨_, rfl⟩
              obtain ⟨N0, hN0⟩ : ∃ N0, U.m = N0 := ⟨_, rfl⟩
              obtain ⟨N1, hN1⟩ : ∃ N1, V.m = N1 := ⟨_, rfl⟩
              have tm : IntKind.u64.wrap (M1 - M0) = IntKind.u64.wrap (N1 - N0) := by
                have e1 : (V.m + S1.m) % 18446744073709551616 = M1 := hM1
                have e0 : (U.m + S1.m) % 18446744073709551616 = M0 := hM0
                rw [hN1] at e1
                rw [hN0] at e0
                rw [wrap_u64, wrap_u64]
                omega
              have EL := Hd.mk eL
              have EA := Hd.mk eA
              have HST := Hd.mk hst
              have HOV := Hd.mk hov
              have HM0 := Hd.mk hM0
              have HM1 := Hd.mk hM1
              have HN0 := Hd.mk hN0
              have HN1 := Hd.mk hN1
              have hme := Hd.mk (show l.length - j - ((q : Int) + 1).toNat < l.length - j - (q : Int).toNat by omega)
              have hj1 := Hd.mk (show q + 1 ≤ l.length - j by omega)
              have cb : decide ((q : Int) < ((l.length - j : Nat) : Int)) = true := decide_eq_true (by omega)
              have NQ := neqAns
              have AX : Stays (fun _ => False) wr (wr.alloc (.cells #[.int .i64 k1, .int .i64 a1, .int .i64 b1, .int .i64 c1, .int .u32 v1] 53)) := (Stays.refl (fun _ => False) wr).alloc _
              have Bx := Blk.new wr 53 #[.int .i64 k1, .int .i64 a1, .int .i64 b1, .int .i64 c1, .int .u32 v1]
              have HAx := Hd.mk (HA.out.made AX)
              have HBx := Hd.mk (HB.out.made AX)
              have KUx := Hd.mk (KU.out.trans AX)
              have hnA : ¬ A.foot wr.heap.size := GA.foot_far HA.out.held.top
              have hnB : ¬ B.foot wr.heap.size := GA.foot_far HB.out.held.top
              clear eL eA hst hov hM0 hM1 hN0 hN1 AX hSj
              go_wp2_with fail
              refine (hMeter_v HAx.out HM0.out).mono ?_
              rintro _ _ ⟨rfl, rfl⟩
              go_wp2_with fail
              refine (hMeter_v HBx.out HN0.out).mono ?_
              rintro _ _ ⟨rfl, rfl⟩
              go_upto_region 21 with fail
              generalize hwq : wr.alloc (.cells #[.int .i64 k1, .int .i64 a1, .int .i64 b1, .int .i64 c1, .int .u32 v1] 53) = wq at *
              clear hwq y0 y1 y2 y3 y4
              have q0 := Bx.cell 0
              have q1 := Bx.cell 1
              have q2 := Bx.cell 2
              have q3 := Bx.cell 3
              have q4 := Bx.cell 4
              go_region_held3 (fun wx => wx.cell? ⟨wr.heap.size, 0, none⟩ = some (.int .i64 k1) ∧ wx.cell? ⟨wr.heap.size, 1, none⟩ = some (.int .i64 a1) ∧ wx.cell? ⟨wr.heap.size, 2, none⟩ = some (.int .i64 b1) ∧ wx.cell? ⟨wr.heap.size, 3, none⟩ = some (.int .i64 c1) ∧ wx.cell? ⟨wr.heap.size, 4, none⟩ = some (.int .u32 v1))
                (first | exact ⟨q0, q1, q2, q3, q4⟩ | go_keep)
                (first | (go_at_call 57; (with_reducible refine (doL_x (HAx.out.made ((Stays.refl (fun _ => False) _).drew)) HOV.out EA.out).mono ?_); (rintro _ w7 ⟨rfl, HA7, K7⟩); (replace Bx := Blk.stays (by with_reducible repeat (first | exact Bx | apply zbd | apply zbn)) K7 (by assumption)); (have q0 := Bx.cell 0); (have q1 := Bx.cell 1); (have q2 := Bx.cell 2); (have q3 := Bx.cell 3); (have q4 := Bx.cell 4)) | (go_at_call 57; (with_reducible refine (doL_x ((HBx.out.made ((Stays.refl (fun _ => False) _).drew)).beside (HAx.out.made ((Stays.refl (fun _ => False) _).drew)) HD.out K7) HOV.out EL.out).mono ?_); (rintro _ w8 ⟨rfl, HB8, K8⟩); (replace Bx := Blk.stays (by with_reducible repeat (first | exact Bx | apply zbd | apply zbn)) K8 (by assumption)); (have q0 := Bx.cell 0); (have q1 := Bx.cell 1); (have q2 := Bx.cell 2); (have q3 := Bx.cell 3); (have q4 := Bx.cell 4)) | (go_at_call 59; (with_reducible refine (hMeter_v (HA7.beside ((HBx.out.made ((Stays.refl (fun _ => False) _).drew)).beside (HAx.out.made ((Stays.refl (fun _ => False) _).drew)) HD.out K7) HD.out.symm K8) HM1.out).mono ?_); (rintro _ _ ⟨rfl, rfl⟩)) | (go_at_call 59; (with_reducible refine (hMeter_v HB8 HN1.out).mono ?_); (rintro _ _ ⟨rfl, rfl⟩)))
              all_goals
                have HA9 : Hd (HeapAt A hA (shf S1.m (stN G ((l.drop j).take (q + 1)))) w8) := ⟨by rw [HST.out]; exact HA7.beside ((HBx.out.made ((Stays.refl (fun _ => False) _).drew)).beside (HAx.out.made ((Stays.refl (fun _ => False) _).drew)) HD.out K7) HD.out.symm K8⟩
                have HB9 : Hd (HeapAt B hB (stN G ((l.drop j).take (q + 1))) w8) := ⟨by rw [HST.out]; exact HB8⟩
                have KE := Hd.mk (Stays.fresh (Stays.fresh KUx.out.drew K7 FA.out) K8 FB.out)
                clear HA7 HB8 K7 K8 Bx q0 q1 q2 q3 q4
                go_wp2_with fail
                go_roundw
                case rel => exact ⟨q + 1, hj1.out, by first | rfl | simp, HA9, HB9, KE⟩
                case measure =>
                  first
                    | exact hme.out
                    | (simp only [intOf]; exact hme.out)
            · have cb : decide ((q : Int) < ((l.length - j : Nat) : Int)) = false := decide_eq_false (by omega)
              generalize stN G ((l.drop j).take q) = S2 at *
              have hle : S2.ws.length ≤ 8388608 := by
                have h1 := HB.out.held.ok.len
                have h2 := HB.out.held.ok.nw
                have h3 := HB.out.held.ok.r2
                omega
              have HLE := Hd.mk hle
              clear hle
              go_wp2_with fail
              refine (begunHeap_c _ (((HZ'.out.stays K0.out (fun x => x)).stays KU.out (fun x => x)))).mono ?_
              rintro _ w8 ⟨rfl, K8⟩
              have HA8 := Hd.mk (HA.out.made K8)
              have HB8 := Hd.mk (HB.out.made K8)
              go_wp2_with fail
              refine (hGround_c HA8.out).mono ?_
              rintro _ _ ⟨rfl, rfl⟩
              go_wp2_with fail
              refine (gWords_c HA8.out.held).mono ?_
              rintro _ w9 ⟨vw, rfl, RV, K9⟩
              have RVH := Hd.mk RV
              obtain ⟨gv, cv, rfl, -, gv0, gv1⟩ := RV
              have HB9 := Hd.mk (HB8.out.made K9)
              go_wp2_with fail
              refine (hGround_c HB9.out).mono ?_
              rintro _ _ ⟨rfl, rfl⟩
              go_wp2_with fail
              refine (gWords_c HB9.out.held).mono ?_
              rintro _ w10 ⟨vx, rfl, RX, K10⟩
              have RXH := Hd.mk RX
              obtain ⟨gx, cx, rfl, -, gx0, gx1⟩ := RX
              have RV10 := Hd.mk (RVH.out.stays K10 (fun _ _ x => x))
              go_wp2_with fail
              refine (Same_c _ _ _ _ S2.ws _ RV10.out RXH.out HLE.out).mono ?_
              rintro _ w11 ⟨rfl, K11⟩
              go_wp2_with fail
              go_ret
              exact ⟨rfl, ((((K0.out.trans KU.out).trans K8).trans K9).trans K10).trans K11⟩
        · obtain rfl : j = l.length := by omega
          have HA6' : Hd (HeapAt A hA (shf S1.m G) w6) := ⟨by rw [HSG.out.symm]; exact HA6.out⟩
          have hle : G.ws.length ≤ 8388608 := by
            have h1 := HB6.out.held.ok.len
            have h2 := HB6.out.held.ok.nw
            have h3 := HB6.out.held.ok.r2
            omega
          have HLE := Hd.mk hle
          clear hle
          rcases (by omega : l.length = cap ∨ l.length < cap) with hc | hc
          · subst hc
            go_wp2_with fail
            go_loopw [84] (fun i wr => i = .int .i64 0 ∧ wr = w6) (fun _ _ => 0)
            case atStart => exact ⟨rfl, rfl⟩
            case round =>
              obtain ⟨rfl, rfl⟩ := hrel
              go_wp2_with fail
              refine (begunHeap_c _ (((HZ'.out.stays K0.out (fun x => x)).stays KU6.out (fun x => x)))).mono ?_
              rintro _ w8 ⟨rfl, K8⟩
              have HA8 := Hd.mk (HA6'.out.made K8)
              have HB8 := Hd.mk (HB6.out.made K8)
              go_wp2_with fail
              refine (hGround_c HA8.out).mono ?_
              rintro _ _ ⟨rfl, rfl⟩
              go_wp2_with fail
              refine (gWords_c HA8.out.held).mono ?_
              rintro _ w9 ⟨vw, rfl, RV, K9⟩
              have RVH := Hd.mk RV
              obtain ⟨gv, cv, rfl, -, gv0, gv1⟩ := RV
              have HB9 := Hd.mk (HB8.out.made K9)
              go_wp2_with fail
              refine (hGround_c HB9.out).mono ?_
              rintro _ _ ⟨rfl, rfl⟩
              go_wp2_with fail
              refine (gWords_c HB9.out.held).mono ?_
              rintro _ w10 ⟨vx, rfl, RX, K10⟩
              have RXH := Hd.mk RX
              obtain ⟨gx, cx, rfl, -, gx0, gx1⟩ := RX
              have RV10 := Hd.mk (RVH.out.stays K10 (fun _ _ x => x))
              go_wp2_with fail
              refine (Same_c _ _ _ _ G.ws _ RV10.out RXH.out HLE.out).mono ?_
              rintro _ w11 ⟨rfl, K11⟩
              go_wp2_with fail
              go_ret
              exact ⟨rfl, ((((K0.out.trans KU6.out).trans K8).trans K9).trans K10).trans K11⟩
          · go_wp2_with fail
            go_loopw [84] (fun i wr => i = .int .i64 0 ∧ wr = w6) (fun _ _ => 0)
            case atStart => exact ⟨rfl, rfl⟩
            case round =>
              obtain ⟨rfl, rfl⟩ := hrel
              go_wp2_with fail
              refine (begunHeap_c _ (((HZ'.out.stays K0.out (fun x => x)).stays KU6.out (fun x => x)))).mono ?_
              rintro _ w8 ⟨rfl, K8⟩
              have HA8 := Hd.mk (HA6'.out.made K8)
              have HB8 := Hd.mk (HB6.out.made K8)
              go_wp2_with fail
              refine (hGround_c HA8.out).mono ?_
              rintro _ _ ⟨rfl, rfl⟩
              go_wp2_with fail
              refine (gWords_c HA8.out.held).mono ?_
              rintro _ w9 ⟨vw, rfl, RV, K9⟩
              have RVH := Hd.mk RV
              obtain ⟨gv, cv, rfl, -, gv0, gv1⟩ := RV
              have HB9 := Hd.mk (HB8.out.made K9)
              go_wp2_with fail
              refine (hGround_c HB9.out).mono ?_
              rintro _ _ ⟨rfl, rfl⟩
              go_wp2_with fail
              refine (gWords_c HB9.out.held).mono ?_
              rintro _ w10 ⟨vx, rfl, RX, K10⟩
              have RXH := Hd.mk RX
              obtain ⟨gx, cx, rfl, -, gx0, gx1⟩ := RX
              have RV10 := Hd.mk (RVH.out.stays K10 (fun _ _ x => x))
              go_wp2_with fail
              refine (Same_c _ _ _ _ G.ws _ RV10.out RXH.out HLE.out).mono ?_
              rintro _ w11 ⟨rfl, K11⟩
              go_wp2_with fail
              go_ret
              exact ⟨rfl, ((((K0.out.trans KU6.out).trans K8).trans K9).trans K10).trans K11⟩
theorem lawHeapOver_z (N W R K : Int) (at_ : Int) (ha : 0 ≤ at_ ∧ at_ ≤ 255) (w : World) (HZ : NoneZ w) (hr : (rightC N W R K && rightL []) = true) :
    Calls Tryz.prog 14 #[.agg #[.int .i64 N, .int .i64 W, .int .i64 R, .int .i64 K], .slice none 0 0, .int .u8 at_] w (Made w (.bool true)) := by
  have hr' := hr
  simp only [rightC, rightL, Bool.and_eq_true, decide_eq_true_eq, List.all_eq_true] at hr'
  obtain ⟨⟨⟨⟨hp, -⟩, -⟩, -⟩, hl, hk⟩ := hr'
  have HR := Hd.mk hr
  have HP := Hd.mk hp
  have HZ' := Hd.mk HZ
  have HK := Hd.mk hk
  clear hr hp hk HZ
  obtain ⟨w0, e0⟩ : ∃ w0, w0 = w.alloc (.cells #[.int .i64 N, .int .i64 W, .int .i64 R, .int .i64 K] 46) := ⟨_, rfl⟩
  have K0 : Hd (Stays (fun _ => False) w w0) := ⟨by rw [e0]; exact (Stays.refl _ _).alloc _⟩
  have Bc : Blk w0 w.heap.size 46 #[.int .i64 N, .int .i64 W, .int .i64 R, .int .i64 K] := by rw [e0]; exact Blk.new w _ _
  go_enter Tryz.func14, Tryz.ntmps14
  go_wp2_with fail
  rw [← e0]
  have HLw : OpsIn w0 none [] := ⟨fun i hi => by simp at hi, fun o ho => by cases ho⟩
  have HLw := Hd.mk HLw
  refine (Right21_c N W R K none 0 [] w0 HLw.out).mono ?_
  rintro _ w1 ⟨rfl, K1⟩
  rw [HR.out]
  have Bc1 := Bc.stays K1 (fun x => x)
  have c0 := Bc1.cell 0
  have c1 := Bc1.cell 1
  have c2 := Bc1.cell 2
  have c3 := Bc1.cell 3
  go_wp2_with fail
  refine (hNew_c N W R K _ ((HZ'.out.stays K0.out (fun x => x)).stays K1 (fun x => x)) HP.out).mono ?_
  rintro _ w2 ⟨A, hA, ⟨rfl, K2⟩, H2, Y2⟩
  have Bc2 := Bc1.stays K2 (fun x => x)
  clear c0 c1 c2 c3
  have c0 := Bc2.cell 0
  have c1 := Bc2.cell 1
  have c2 := Bc2.cell 2
  have c3 := Bc2.cell 3
  have hk1 : (if (0 : Int) < at_ then (0 : Int) else at_) = 0 := by
    split <;> omega
  go_upto_region 7 with fail
  clear hk1 ha
  have YA := Hd.mk Y2
  have FA : Hd (∀ b, A.foot b → w0.heap.size ≤ b) := ⟨fun b hb => by
    have := Y2.s
    have := Y2.a
    have := K1.size
    rcases hb with rfl | rfl <;> omega⟩
  have HA2 := Hd.mk H2
  have KK : Hd (Stays (fun _ => False) w0 w2) := ⟨K1.trans K2⟩
  obtain ⟨S0, hS0⟩ : ∃ S0, S0 = newS N W R K := ⟨_, rfl⟩
  have HS0 := Hd.mk hS0
  rw [← hS0] at HA2
  clear hS0 H2 Y2 K1 K2 Bc1 Bc2 c0 c1 c2 c3
  go_wp2_with fail
  go_loopw [46] (fun i wr => i = .int .i64 0 ∧ wr = w2) (fun _ _ => 0)
  case atStart => exact ⟨rfl, rfl⟩
  case round =>
      obtain ⟨rfl, rfl⟩ := hrel
      have HA := HA2
      have KU := KK
      go_wp2_with fail
      refine (hGround_c HA.out).mono ?_
      rintro _ _ ⟨rfl, rfl⟩
      go_wp2_with fail
      refine (gWords_c HA.out.held).mono ?_
      rintro _ w4 ⟨vw, rfl, RW, K4⟩
      have RWH := Hd.mk RW
      obtain ⟨gw, cw, rfl, hrow, gw0, gw1⟩ := RW
      obtain ⟨S1, hS1⟩ : ∃ S1, S1 = S0 := ⟨_, rfl⟩
      rw [← hS1] at HA RWH hrow ⊢
      have hcf0 := newS_conf N W R K
      rw [← HS0.out, ← hS1] at hcf0
      have hn1 : S1.n = N := hcf0.1
      have hw1 : S1.w = W := hcf0.2.1
      have hr1 : S1.r = R := hcf0.2.2.1
      have hk1 : S1.k = K := hcf0.2.2.2
      have hm1 : 0 ≤ S1.m ∧ S1.m < 18446744073709551616 := by
        rw [hS1, HS0.out]
        exact newS_range N W R K
      have HOK := HA.out.held.ok
      have hlen : S1.ws.length = (gsNew N W R K).ws.length := by
        obtain ⟨n0, n1, w0, w1, r0, r1, k0, k1, hp⟩ := plCheck_pos HP.out
        have h1 := HOK.len
        have h2 := (gsNew_ok N W R K n0 n1 w0 w1 r0 r1 k0 k1 hp).len
        rw [hn1, hw1, hr1] at h1
        have h3 : ((gsNew N W R K).ws.length : Int) = 24 + R + N * W := h2
        omega
      have hl24 : 24 ≤ S1.ws.length := by
        have h1 := HOK.len
        have h2 := HOK.r1
        have h3 : 0 ≤ S1.n * S1.w := Int.mul_nonneg (by have := HOK.n1; omega) (by have := HOK.w1; omega)
        omega
      have hl8 : S1.ws.length ≤ 8388608 := by
        have h1 := HOK.len
        have h2 := HOK.nw
        have h3 := HOK.r2
        omega
      obtain ⟨G, hG⟩ : ∃ G : GS, G = { gsNew N W R K with ws := S1.ws } := ⟨_, rfl⟩
      have hSG : S1 = shf S1.m G := by
        refine shf_zero hm1 ?_ ?_ ?_ ?_ ?_ ?_
        · rw [hG]; exact hn1
        · rw [hG]; exact hw1
        · rw [hG]; exact hr1
        · rw [hG]; exact hk1
        · rw [hG]
        · rw [hG]; rfl
      have HSG := Hd.mk hSG
      have HGG := Hd.mk hG
      have HLN := Hd.mk hlen
      have HWD := Hd.mk HOK.word
      have CEL := Hd.mk (fun (q : Nat) (hq : q < S1.ws.length) => Row.cell hrow rfl hq)
      have hcw : S1.ws.length ≤ cw := by
        rcases hrow.2 with ⟨h, h0⟩ | ⟨g', cap', cur, hv, hb', hg', hn, hc, hs, ht⟩
        · cases h
        · simp at hv
          omega
      have KU4 := Hd.mk (KU.out.trans K4)
      have HA4 := Hd.mk (HA.out.made K4)
      have Bc4 := Bc.stays KU4.out (fun x => x)
      have c0 := Bc4.cell 0
      have c1 := Bc4.cell 1
      have c2 := Bc4.cell 2
      have c3 := Bc4.cell 3
      have HZ4 := Hd.mk ((HZ'.out.stays K0.out (fun x => x)).stays KU4.out (fun x => x))
      have hgw := Hd.mk gw1
      have HL24 := Hd.mk hl24
      clear hS1 hcf0 hn1 hw1 hr1 hk1 hm1 HOK hlen hG hSG hrow
      go_wp2_with fail
      have CO := hOver_c N W R K _ HZ4.out HP.out gw cw S1.ws HLN.out HWD.out hgw.out CEL.out
      rw [← HLN.out] at CO
      refine CO.mono ?_
      clear CO
      rintro _ w5 ⟨B, hB, ⟨rfl, K5⟩, HB5, YB⟩
      rw [← HGG.out] at HB5
      have hs4 := K4.size
      have hsu := KU.out.size
      have FB : Hd (∀ b, B.foot b → w0.heap.size ≤ b) := ⟨fun b hb => by
        have := YB.s
        have := YB.a
        rcases hb with rfl | rfl <;> omega⟩
      have HD := Hd.mk (Apart.of (n := 0) HA4.out.lts YB)
      have HA5 := Hd.mk (HA4.out.made K5)
      have HB5 := Hd.mk HB5
      have KU5 := Hd.mk (KU4.out.trans K5)
      have Bc5 := Bc.stays KU5.out (fun x => x)
      have HZ5 := Hd.mk ((HZ'.out.stays K0.out (fun x => x)).stays KU5.out (fun x => x))
      clear K5 K4 YB Bc4 c0 c1 c2 c3 hs4 hsu HA4 HZ4 KU4
      have c0 := Bc5.cell 0
      have c1 := Bc5.cell 1
      have c2 := Bc5.cell 2
      have c3 := Bc5.cell 3
      have hi1 : (1 : Int) ≤ (S1.ws.length : Int) := by omega
      have hi2 : (S1.ws.length : Int) ≤ (cw : Int) := by omega
      have hi3 : ¬ cw = 1 := by omega
      have hi4 : ¬ 1 = cw := by omega
      have hi5 : 1 ≤ S1.ws.length := by omega
      have hi6 : ¬ (1 : Int) = (cw : Int) := by omega
      go_upto_region 14 with fail
      go_region_held3 (fun wx => wx.cell? ⟨w.heap.size, 0, none⟩ = some (.int .i64 N) ∧ wx.cell? ⟨w.heap.size, 1, none⟩ = some (.int .i64 W) ∧ wx.cell? ⟨w.heap.size, 2, none⟩ = some (.int .i64 R) ∧ wx.cell? ⟨w.heap.size, 3, none⟩ = some (.int .i64 K))
        (first | exact ⟨c0, c1, c2, c3⟩ | go_keep)
        (first | (go_at_call 71; (with_reducible refine (hOver_few N W R K _ HZ5.out.drew HP.out _ _ _ (by have h1 := HLN.out; have h2 := HL24.out; simp; omega)).mono ?_); (rintro _ w6 ⟨rfl, K6⟩); (have Bc6 := Blk.stays (Blk.drew Bc5) K6 (fun x => x)); (have c0 := Bc6.cell 0); (have c1 := Bc6.cell 1); (have c2 := Bc6.cell 2); (have c3 := Bc6.cell 3)))
      all_goals
        have HA6 := Hd.mk ((HA5.out.made ((Stays.refl (fun _ => False) _).drew)).made K6)
        have HB6 := Hd.mk ((HB5.out.made ((Stays.refl (fun _ => False) _).drew)).made K6)
        have KU6 := Hd.mk (KU5.out.drew.trans K6)
        clear K6 Bc6 Bc5 c0 c1 c2 c3 HA5 HB5 KU5 HZ5
        have HA6' : Hd (HeapAt A hA (shf S1.m G) w6) := ⟨by rw [HSG.out.symm]; exact HA6.out⟩
        have hle : G.ws.length ≤ 8388608 := by
          have h1 := HB6.out.held.ok.len
          have h2 := HB6.out.held.ok.nw
          have h3 := HB6.out.held.ok.r2
          omega
        have HLE := Hd.mk hle
        clear hle
        go_wp2_with fail
        go_loopw [84] (fun i wr => i = .int .i64 0 ∧ wr = w6) (fun _ _ => 0)
        case atStart => exact ⟨rfl, rfl⟩
        case round =>
          obtain ⟨rfl, rfl⟩ := hrel
          go_wp2_with fail
          refine (begunHeap_c _ (((HZ'.out.stays K0.out (fun x => x)).stays KU6.out (fun x => x)))).mono ?_
          rintro _ w8 ⟨rfl, K8⟩
          have HA8 := Hd.mk (HA6'.out.made K8)
          have HB8 := Hd.mk (HB6.out.made K8)
          go_wp2_with fail
          refine (hGround_c HA8.out).mono ?_
          rintro _ _ ⟨rfl, rfl⟩
          go_wp2_with fail
          refine (gWords_c HA8.out.held).mono ?_
          rintro _ w9 ⟨vw, rfl, RV, K9⟩
          have RVH := Hd.mk RV
          obtain ⟨gv, cv, rfl, -, gv0, gv1⟩ := RV
          have HB9 := Hd.mk (HB8.out.made K9)
          go_wp2_with fail
          refine (hGround_c HB9.out).mono ?_
          rintro _ _ ⟨rfl, rfl⟩
          go_wp2_with fail
          refine (gWords_c HB9.out.held).mono ?_
          rintro _ w10 ⟨vx, rfl, RX, K10⟩
          have RXH := Hd.mk RX
          obtain ⟨gx, cx, rfl, -, gx0, gx1⟩ := RX
          have RV10 := Hd.mk (RVH.out.stays K10 (fun _ _ x => x))
          go_wp2_with fail
          refine (Same_c _ _ _ _ G.ws _ RV10.out RXH.out HLE.out).mono ?_
          rintro _ w11 ⟨rfl, K11⟩
          go_wp2_with fail
          go_ret
          exact ⟨rfl, ((((K0.out.trans KU6.out).trans K8).trans K9).trans K10).trans K11⟩
theorem lawHeapOver_n (N W R K : Int) (A0 : Option Addr) (cap : Nat) (l : List Op5) (at_ : Int) (w : World) (HZ : NoneZ w) (HL : OpsIn w A0 l) (hr : (rightC N W R K && rightL l) = false) :
    Calls Tryz.prog 14 #[.agg #[.int .i64 N, .int .i64 W, .int .i64 R, .int .i64 K], .slice A0 l.length cap, .int .u8 at_] w (Made w (.bool true)) := by
  have HR := Hd.mk hr
  have HZ' := Hd.mk HZ
  have HL' := Hd.mk HL
  clear hr HZ HL
  obtain ⟨w0, e0⟩ : ∃ w0, w0 = w.alloc (.cells #[.int .i64 N, .int .i64 W, .int .i64 R, .int .i64 K] 46) := ⟨_, rfl⟩
  have K0 : Hd (Stays (fun _ => False) w w0) := ⟨by rw [e0]; exact (Stays.refl _ _).alloc _⟩
  have Bc : Blk w0 w.heap.size 46 #[.int .i64 N, .int .i64 W, .int .i64 R, .int .i64 K] := by rw [e0]; exact Blk.new w _ _
  go_enter Tryz.func14, Tryz.ntmps14
  go_wp2_with fail
  rw [← e0]
  have HLw := Hd.mk (HL'.out.made K0.out)
  refine (Right21_c N W R K A0 cap l w0 HLw.out).mono ?_
  rintro _ w1 ⟨rfl, K1⟩
  rw [HR.out]
  go_wp2_with fail
  refine (begunHeap_c _ ((HZ'.out.stays K0.out (fun x => x)).stays K1 (fun x => x))).mono ?_
  rintro _ w9 ⟨rfl, K9⟩
  go_wp2_with fail
  go_ret
  exact ⟨rfl, (K0.out.trans K1).trans K9⟩
theorem lawHeapOver_c (N W R K : Int) (A0 : Option Addr) (cap : Nat) (l : List Op5) (at_ : Int) (hu : (Lit.int .u8 at_).wf = true) (w : World) (HZ : NoneZ w) (HL : OpsIn w A0 l) (hcap : l.length ≤ cap ∧ (A0 = none → cap = 0)) :
    Calls Tryz.prog 14 #[.agg #[.int .i64 N, .int .i64 W, .int .i64 R, .int .i64 K], .slice A0 l.length cap, .int .u8 at_] w (Made w (.bool true)) := by
  have ha : 0 ≤ at_ ∧ at_ ≤ 255 := by
    have e : IntKind.u8.min = 0 := rfl
    have e' : IntKind.u8.max = 255 := rfl
    have h : IntKind.u8.min ≤ at_ ∧ at_ ≤ IntKind.u8.max := by simpa [Lit.wf] using hu
    omega
  cases hr : (rightC N W R K && rightL l)
  · exact lawHeapOver_n N W R K A0 cap l at_ w HZ HL hr
  · cases A0 with
    | some A => exact lawHeapOver_y N W R K A cap l at_ ha hcap.1 w HZ HL hr
    | none =>
      obtain rfl := hcap.2 rfl
      obtain rfl : l = [] := List.eq_nil_of_length_eq_zero (by omega)
      exact lawHeapOver_z N W R K at_ ha w HZ hr
end Go.Proofs.YtadhdjldcpkfiaaGreatDoor
