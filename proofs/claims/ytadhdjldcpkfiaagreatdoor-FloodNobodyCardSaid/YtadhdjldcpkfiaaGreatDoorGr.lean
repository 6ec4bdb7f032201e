/- quitrentlaw14.Grown with two sizes and no edge: two objects are made on a new ground. -/
import Derived.Test.YtadhdjldcpkfiaaGreatDoorN2
namespace Go.Proofs.YtadhdjldcpkfiaaGreatDoor
set_option linter.unusedVariables false
set_option linter.unusedSimpArgs false
open Go.RowKit
set_option maxRecDepth 100000
set_option maxHeartbeats 16000000

/-- What Grown does on the new ground, for the sizes 2 and 1, as long as all goes well. -/
def grow2 : GM Bool := poOpen >>= fun o => obMake 2 0 >>= fun x => tiDye x.1 >>= fun d => obMake 1 0 >>= fun y => tiDye y.1 >>= fun f =>
  pure (decide (o = true) && (decide (x.1 = 1) && (decide (x.2 = 0) && (decide (d = true) && (decide (y.1 = 2) && (decide (y.2 = 0) && decide (f = true)))))))

theorem Held.grown {A : GA} {S : GS} {w w' : World} (H : Held A S w) {v : Value} {B n : Nat} {xs : List Value} (hown : w.ownsRow B 3 1 v n xs) (hB : A.top ≤ B) (hg : w.grownBy w' v.ownBlock) : Held A S w' := by
  have ks : Stays (fun k => some k = v.ownBlock) w w' := ⟨hg.os, hg.tape, hg.output, hg.size, fun k hk hf => hg.block k hk hf⟩
  refine H.stays ks (fun b hb h => ?_)
  exact GA.far (Nat.le_trans hB (hown.lt b h.symm).1) hb rfl

theorem own_stays {F : Nat → Prop} {w w' : World} {B n : Nat} {v : Value} {xs : List Value} (h : w.ownsRow B 3 1 v n xs) (k : Stays F w w') (hF : ∀ q, F q → q < B) : w'.ownsRow B 3 1 v n xs := by
  obtain ⟨h1, h2⟩ := h
  refine ⟨h1, ?_⟩
  rcases h2 with h2 | ⟨g, cap, cur, rfl, hg, hh, r⟩
  · exact .inl h2
  · exact .inr ⟨g, cap, cur, rfl, hg, (k.block g (lt_of_get hh) (fun x => by have := hF g x; omega)).trans hh, r⟩
theorem GA.foot_lt {A : GA} {n q : Nat} (h : A.top ≤ n) (hq : A.foot q) : q < n := by
  unfold GA.top at h
  rcases hq with rfl | rfl <;> omega
theorem Stays.grown {F : Nat → Prop} {a w w' : World} (h : Stays F a w) {row : Option Nat} (hg : w.grownBy w' row) (hr : ∀ k, row = some k → a.heap.size ≤ k) : Stays F a w' :=
  ⟨hg.os.trans h.os, hg.tape.trans h.tape, hg.output.trans h.output, Nat.le_trans h.size hg.size, fun k hk hf => by
    have := h.size
    rw [hg.block k (by omega) (fun e => by have := hr k e.symm; omega), h.block k hk hf]⟩
theorem plCheck_ok {N W R K : Int} (n0 : 1 ≤ N) (n1 : N ≤ 1048576) (w0 : 16 ≤ W) (w1 : W ≤ 256) (r0 : 1 ≤ R) (r1 : R ≤ 4096) (k0 : 1 ≤ K) (k1 : K ≤ 65536) (hp : N * W ≤ 4194304) : plCheck N W R K = 0 := by
  unfold plCheck
  rw [if_pos]
  simp [inB]
  omega
theorem Grown_c (u : Int) (u0 : 0 ≤ u) (u1 : u ≤ 255) (b : Nat) (w : World) (HZ : NoneZ w) (BS : Blk w b 35 #[.int .i64 2, .int .i64 0, .int .i64 1, .int .i64 0]) {T : GS} (e : grow2 (gsNew (u % 60 + 4) 16 1 1) = (true, T)) :
    Calls Tryz.prog 26 #[.int .u8 u, .slice (some ⟨b, 0, none⟩) 2 2, .slice none 0 0] w (fun e w' => ∃ (A : GA) (g cap : Nat), Made w (.tuple #[.pointer (some ⟨A.g, 0, none⟩), .slice (some ⟨g, 0, none⟩) 2 cap, .bool true]) e w' ∧ Held A T w' ∧ (∀ k, A.foot k → w.heap.size ≤ k)) := by
  obtain ⟨N, hN⟩ : ∃ N, N = u % 60 + 4 := ⟨_, rfl⟩
  rw [← hN] at e
  obtain ⟨S0, hS0⟩ : ∃ S0, S0 = gsNew N 16 1 1 := ⟨_, rfl⟩
  rw [← hS0] at e
  unfold grow2 at e
  replace e := GM.bind_eq e; obtain ⟨o, S1, e1, e⟩ := e
  replace e := GM.bind_eq e; obtain ⟨⟨x1, x2⟩, S2, e2, e⟩ := e
  replace e := GM.bind_eq e; obtain ⟨d, S3, e3, e⟩ := e
  replace e := GM.bind_eq e; obtain ⟨⟨y1, y2⟩, S4, e4, e⟩ := e
  replace e := GM.bind_eq e; obtain ⟨f, S5, e5, e⟩ := e
  obtain ⟨hv, rfl⟩ := GM.pure_eq e
  simp only [Bool.and_eq_true, decide_eq_true_eq] at hv
  obtain ⟨rfl, rfl, rfl, rfl, rfl, rfl, rfl⟩ := hv
  rw [hS0] at e1
  clear hS0 e
  have E1 := Hd.mk e1
  have E2 := Hd.mk e2
  have E3 := Hd.mk e3
  have E4 := Hd.mk e4
  have E5 := Hd.mk e5
  have hN1 : 4 ≤ N := by omega
  have hN2 : N ≤ 63 := by omega
  have HO := Hd.mk (fun w HZ => Opened_c N 16 1 1 w HZ (plCheck_ok (by omega) (by omega) (by decide) (by decide) (by decide) (by decide) (by decide) (by decide) (by omega)) (by omega) (by omega) (by decide) (by decide) (by decide) (by decide) (by decide) (by decide) (by omega) e1)
  clear e1 e2 e3 e4 e5
  have HB := Hd.mk BS
  obtain ⟨i0, hi, hx⟩ := Option.map_eq_some_iff.1 (show (Tryz.prog.info? 3).map (fun i => (i.zero, i.size, i.bytes)) = some (some (.int .i64 0), 1, 8) by kernel_rfl)
  simp only [Prod.mk.injEq] at hx
  obtain ⟨hz0, hz1, hz2⟩ := hx
  have HI := Hd.mk (And.intro hi (And.intro hz0 (And.intro hz1 hz2)))
  clear hi hz0 hz1 hz2
  have HZ' := Hd.mk HZ
  have R4 : Hd (wrap64 (wrap64 (u.tmod 60) + 4) = N) := ⟨by
    rw [Int.tmod_eq_emod_of_nonneg u0]
    unfold wrap64
    omega⟩
  clear BS HZ hN hN1 hN2 u0 u1
  go_enter Tryz.func26, Tryz.ntmps26
  go_wp2_with fail
  rw [R4.out]
  with_reducible refine (HO.out w HZ'.out).mono ?_
  rintro _ w1 ⟨A, b', ⟨rfl, K1⟩, H1, HF⟩
  have HF' := Hd.mk HF
  have HT := Hd.mk H1.top
  clear HF
  go_wp2_with fail
  go_loopw [12, 37] (fun l i wr => ∃ n : Nat, n ≤ 2 ∧ i = .int .i64 n ∧ Hd (∃ xs, wr.ownsRow w1.heap.size 3 1 l n xs) ∧ Hd (n = 0 → Held A S1 wr) ∧ Hd (n = 1 → Held A S3 wr) ∧ Hd (n = 2 → Held A S5 wr) ∧ Hd (Stays A.foot w1 wr)) (fun _ i _ => 2 - (intOf i).toNat)
  case atStart => exact ⟨0, by omega, rfl, ⟨[], World.ownsRow_nil _ _ _ _⟩, ⟨fun _ => H1⟩, ⟨fun h => (by cases h)⟩, ⟨fun h => (by cases h)⟩, ⟨Stays.refl _ _⟩⟩
  case round =>
    obtain ⟨n, hn, rfl, HX, hh0, hh1, hh2, KU⟩ := hrel
    rcases (show n = 0 ∨ n = 1 ∨ n = 2 by omega) with rfl | rfl | rfl
    · have HU := hh0.out rfl
      have Bw := (HB.out.stays K1 (fun x => x)).stays KU.out (fun x => by have := HF'.out b x; have := HB.out.lt; omega)
      have c0 := Bw.cell 0
      have c1 := Bw.cell 1
      clear Bw
      go_wp2_with fail
      refine (obMake_c (HU.alloc _) E2.out).mono ?_
      rintro _ w2 ⟨rfl, H2, K2⟩
      go_wp2_with fail
      refine (tiDye_c H2 E3.out).mono ?_
      rintro _ w3 ⟨rfl, H3, K3⟩
      have KX : Stays A.foot wr w3 := (((Stays.refl _ _).alloc _).trans K2).trans K3
      obtain ⟨xs, hown0⟩ := HX.out
      have hown := own_stays hown0 KX (fun q hq => GA.foot_lt HT.out hq)
      obtain ⟨hi, hz0, hz1, hz2⟩ := HI.out
      have hsz : w1.heap.size ≤ w3.heap.size := (KU.out.trans KX).size
      go_wp2_with (at_builtin; refine wpList_append_own _ rfl (.tmp 57) (.tmp 59) 31 rfl w1.heap.size 3 i0 (.int .i64 0) 1 8 Tryz.underlying31 hi hz0 hz1 hz2 rfl (by decide) _ 0 _ rfl (hown.alloc _) ⟨w3.heap.size, 0, none⟩ 1 1 [.int .i64 1] rfl rfl (World.news_of_block (cs := #[.int .i64 1]) (t := 3) (fr := (0, 0)) (heap_alloc_new w3 _)) (by simp [Value.oneCell']) (by unfold maxLen; omega) (by omega) (by simp; omega) ?_; intro l' w4 hown4 hgrow _)
      have H4 := Hd.mk ((H3.alloc _).grown (hown.alloc _) HT.out hgrow)
      have K4 := Hd.mk (((KU.out.trans KX).alloc _).grown hgrow (fun q hq => (hown.lt q hq).1))
      have HX4 : Hd (∃ xs, w4.ownsRow w1.heap.size 3 1 l' 1 xs) := ⟨⟨_, hown4⟩⟩
      clear hown hown0 hown4 hgrow hi hz0 hz1 hz2 H2 H3 K2 K3 KX
      go_wp2_with fail
      go_roundw
      case rel => exact ⟨1, by omega, rfl, HX4, ⟨fun h => by cases h⟩, ⟨fun h => H4.out⟩, ⟨fun h => (by cases h)⟩, K4⟩
      case measure => simp [intOf]
    · have HU := hh1.out rfl
      have Bw := (HB.out.stays K1 (fun x => x)).stays KU.out (fun x => by have := HF'.out b x; have := HB.out.lt; omega)
      have c0 := Bw.cell 2
      have c1 := Bw.cell 3
      clear Bw
      go_wp2_with fail
      refine (obMake_c (HU.alloc _) E4.out).mono ?_
      rintro _ w2 ⟨rfl, H2, K2⟩
      go_wp2_with fail
      refine (tiDye_c H2 E5.out).mono ?_
      rintro _ w3 ⟨rfl, H3, K3⟩
      have KX : Stays A.foot wr w3 := (((Stays.refl _ _).alloc _).trans K2).trans K3
      obtain ⟨xs, hown0⟩ := HX.out
      have hown := own_stays hown0 KX (fun q hq => GA.foot_lt HT.out hq)
      obtain ⟨hi, hz0, hz1, hz2⟩ := HI.out
      have hsz : w1.heap.size ≤ w3.heap.size := (KU.out.trans KX).size
      go_wp2_with (at_builtin; refine wpList_append_own _ rfl (.tmp 57) (.tmp 59) 31 rfl w1.heap.size 3 i0 (.int .i64 0) 1 8 Tryz.underlying31 hi hz0 hz1 hz2 rfl (by decide) _ 1 _ rfl (hown.alloc _) ⟨w3.heap.size, 0, none⟩ 1 1 [.int .i64 2] rfl rfl (World.news_of_block (cs := #[.int .i64 2]) (t := 3) (fr := (0, 0)) (heap_alloc_new w3 _)) (by simp [Value.oneCell']) (by unfold maxLen; omega) (by omega) (by simp; omega) ?_; intro l' w4 hown4 hgrow _)
      have H4 := Hd.mk ((H3.alloc _).grown (hown.alloc _) HT.out hgrow)
      have K4 := Hd.mk (((KU.out.trans KX).alloc _).grown hgrow (fun q hq => (hown.lt q hq).1))
      have HX4 : Hd (∃ xs, w4.ownsRow w1.heap.size 3 1 l' 2 xs) := ⟨⟨_, hown4⟩⟩
      clear hown hown0 hown4 hgrow hi hz0 hz1 hz2 H2 H3 K2 K3 KX
      go_wp2_with fail
      go_roundw
      case rel => exact ⟨2, by omega, rfl, HX4, ⟨fun h => by cases h⟩, ⟨fun h => (by cases h)⟩, ⟨fun h => H4.out⟩, K4⟩
      case measure => simp [intOf]
    · have HU := hh2.out rfl
      obtain ⟨xs, hown⟩ := HX.out
      rcases hown.2 with ⟨-, h0⟩ | ⟨g, cap, cur, rfl, -⟩
      · exact absurd h0 (by simp)
      · clear hown
        go_wp2_with fail
        go_loopw [64] (fun i wx => i = .int .i64 0 ∧ Held A S5 wx ∧ Stays A.foot w1 wx) (fun _ _ => 0)
        case atStart => exact ⟨rfl, HU, KU.out⟩
        case round =>
          obtain ⟨rfl, HV, KV⟩ := hrel
          go_wp2_with fail
          go_ret3
          exact ⟨A, g, cap, ⟨rfl, K1.fresh KV HF'.out⟩, HV, HF'.out⟩
end Go.Proofs.YtadhdjldcpkfiaaGreatDoor
