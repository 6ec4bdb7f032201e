/- store.Load, ground.Load, heap.Over. Nothing is asked. -/
import Derived.Test.YtadhdjldcpkfiaaGreatDoorN2
import Derived.Test.YtadhdjldcpkfiaaGreatDoorPk
import Derived.Test.YtadhdjldcpkfiaaGreatDoorAn
import Derived.Test.YtadhdjldcpkfiaaGreatDoorSh
import Derived.Laws.CopyOwn
namespace Go.Proofs.YtadhdjldcpkfiaaGreatDoor
set_option linter.unusedVariables false
set_option linter.unusedSimpArgs false
open Go.RowKit
set_option maxRecDepth 100000
set_option maxHeartbeats 3200000

theorem Held.loaded {A : GA} {S : GS} {w : World} (H : Held A S w) (l : List Int) (hl : l.length = S.ws.length) (hr : ∀ i, 0 ≤ l.getD i 0 ∧ l.getD i 0 ≤ 4294967295) {cs : Array Value} (hcs : cs = (l.map (Value.int .u32)).toArray) :
    Held A { S with ws := l } (w.setRow A.a cs) ∧ Stays A.foot w (w.setRow A.a cs) := by
  subst hcs
  have K : Stays (fun k => k = A.a) w (w.setRow A.a (l.map (Value.int .u32)).toArray) := ⟨rfl, rfl, rfl, by simp [World.setRow], fun k _ hk => setRow_other w A.a k _ hk⟩
  refine ⟨⟨⟨H.ok.n1, H.ok.n2, H.ok.w1, H.ok.w2, H.ok.r1, H.ok.r2, H.ok.k1, H.ok.k2, H.ok.nw, ?_, hr⟩, H.gs, H.ga, H.sa, H.zs, H.za, H.z.stays K (fun x => H.za x.symm), ?_, ?_, ?_⟩, ⟨K.os, K.tape, K.output, K.size, fun k hk hf => K.block k hk (fun x => hf (Or.inr x))⟩⟩
  · have := H.ok.len
    show (l.length : Int) = _
    rw [hl]
    exact this
  · exact (K.block _ (lt_of_get H.hg) (fun x => H.ga x)).trans H.hg
  · show _ = some (Obj.cells #[.slice (some ⟨A.a, 0, none⟩) l.length l.length, .int .u64 S.m] _ _)
    rw [hl]
    exact (K.block _ (lt_of_get H.hs) (fun x => H.sa x)).trans H.hs
  · exact setRow_heap w A.a _ _ _ _ H.ha
theorem stLoad_c {A : GA} {S : GS} {w : World} (H : Held A S w) (gw cap : Nat) (l : List Int) (hl : l.length = S.ws.length) (hr : ∀ i, 0 ≤ l.getD i 0 ∧ l.getD i 0 ≤ 4294967295) (hc : ∀ j, j < l.length → w.cell? ⟨gw, j, none⟩ = some (.int .u32 (l.getD j 0))) :
    Calls Tryz.prog 221 #[.pointer (some ⟨A.s, 0, none⟩), .slice (some ⟨gw, 0, none⟩) S.ws.length cap] w (Did A w (.bool true) { S with ws := l }) := by
  have HH := Hd.mk H
  have HL := Hd.mk hl
  have HR := Hd.mk hr
  have HC := Hd.mk hc
  have h2 := H.scell
  clear H hl hr hc
  go_enter Tryz.func221, Tryz.ntmps221
  go_wp2_with (refine wpList_copy_own rfl _ _ 69 69 rfl 51 Tryz.underlying69 (by kernel_rfl) A.a 0 _ _ ⟨gw, 0, none⟩ _ _ rfl rfl _ 51 HH.out.ha (l.map (Value.int .u32)) ?c1 ?c2 ?c3 ?c4 ?_)
  case c1 => rw [List.length_map, HL.out]; simp
  case c2 =>
    intro j v hv
    rw [List.getElem?_map] at hv
    by_cases hj : j < l.length
    · rw [List.getElem?_eq_getElem hj] at hv
      have := HC.out j hj
      rw [List.getD_eq_getElem?_getD, List.getElem?_eq_getElem hj] at this
      simp at hv this
      subst hv
      cases j with
      | zero => simpa [Addr.add] using this
      | succ k => simpa [Addr.add] using this
    · rw [List.getElem?_eq_none (by omega)] at hv
      cases hv
  case c3 => simp [HL.out]
  case c4 =>
    intro v hv
    obtain ⟨x, -, rfl⟩ := List.mem_map.1 hv
    rfl
  have hld := HH.out.loaded l HL.out HR.out (cs := (l.map (Value.int .u32) ++ List.drop l.length (S.ws.map (Value.int .u32))).toArray) (by simp [HL.out])
  have HLD := Hd.mk hld
  clear hld

  go_wp2_with fail
  go_ret
  exact ⟨rfl, HLD.out.1, HLD.out.2⟩
theorem stLoad_few {A : GA} {S : GS} {w : World} (H : Held A S w) (v : Option Addr) (n cap : Nat) (hn : ((n : Int) != (S.ws.length : Int)) = true) :
    Calls Tryz.prog 221 #[.pointer (some ⟨A.s, 0, none⟩), .slice v n cap] w fun e w' => e = .returned (.bool false) ∧ w = w' := by
  have h2 := H.scell
  clear H
  go_enter Tryz.func221, Tryz.ntmps221
  go_wp2_with fail
  go_ret
  exact ⟨rfl, rfl⟩
theorem gLoad_c {A : GA} {S : GS} {w : World} (H : Held A S w) (gw cap : Nat) (l : List Int) (hl : l.length = S.ws.length) (hr : ∀ i, 0 ≤ l.getD i 0 ∧ l.getD i 0 ≤ 4294967295) (hc : ∀ j, j < l.length → w.cell? ⟨gw, j, none⟩ = some (.int .u32 (l.getD j 0))) :
    Calls Tryz.prog 151 #[.pointer (some ⟨A.g, 0, none⟩), .slice (some ⟨gw, 0, none⟩) S.ws.length cap] w (Did A w (.bool true) { S with ws := l }) := by
  have HC := Hd.mk (stLoad_c H gw cap l hl hr hc)
  have HH := Hd.mk H
  clear H hl hr hc
  go_enter Tryz.func151, Tryz.ntmps151
  go_wp2_with fail
  refine (all_c HH.out).mono ?_
  rintro _ _ ⟨rfl, rfl⟩
  go_wp2_with fail
  refine HC.out.mono ?_
  rintro _ w1 ⟨rfl, H1, K1⟩
  go_wp2_with fail
  go_ret
  exact ⟨rfl, H1, K1⟩
theorem gLoad_few {A : GA} {S : GS} {w : World} (H : Held A S w) (v : Option Addr) (n cap : Nat) (hn : ((n : Int) != (S.ws.length : Int)) = true) :
    Calls Tryz.prog 151 #[.pointer (some ⟨A.g, 0, none⟩), .slice v n cap] w fun e w' => e = .returned (.bool false) ∧ w = w' := by
  have HC := Hd.mk (stLoad_few H v n cap hn)
  have HH := Hd.mk H
  clear H hn
  go_enter Tryz.func151, Tryz.ntmps151
  go_wp2_with fail
  refine (all_c HH.out).mono ?_
  rintro _ _ ⟨rfl, rfl⟩
  go_wp2_with fail
  refine HC.out.mono ?_
  rintro _ _ ⟨rfl, rfl⟩
  go_wp2_with fail
  go_ret
  exact ⟨rfl, rfl⟩
theorem hOver_c (N W R K : Int) (w : World) (HZ : NoneZ w) (h : plCheck N W R K = 0) (gw cap : Nat) (l : List Int) (hl : l.length = (gsNew N W R K).ws.length) (hr : ∀ i, 0 ≤ l.getD i 0 ∧ l.getD i 0 ≤ 4294967295) (hg : gw < w.heap.size) (hc : ∀ j, j < l.length → w.cell? ⟨gw, j, none⟩ = some (.int .u32 (l.getD j 0))) :
    Calls Tryz.prog 71 #[.agg #[.int .i64 N, .int .i64 W, .int .i64 R, .int .i64 K], .slice (some ⟨gw, 0, none⟩) (gsNew N W R K).ws.length cap] w (fun e w' => ∃ (A : GA) (hb : Nat), Made w (.tuple #[.pointer (some ⟨hb, 0, none⟩), .int .i64 0]) e w' ∧ HeapAt A hb { gsNew N W R K with ws := l } w' ∧ Young A hb w.heap.size) := by
  obtain ⟨n0, n1, w0, w1, r0, r1, k0, k1, hp⟩ := plCheck_pos h
  have HC := Hd.mk (fun w HZ => gNew_c N W R K w HZ h n0 n1 w0 w1 r0 r1 k0 k1 hp)
  have HZ' := Hd.mk HZ
  have HL := Hd.mk hl
  have HR := Hd.mk hr
  have HG := Hd.mk hg
  have HCE := Hd.mk hc
  clear h n0 n1 w0 w1 r0 r1 k0 k1 hp HZ hl hr hg hc
  go_enter Tryz.func71, Tryz.ntmps71
  go_wp2_with fail
  refine (HC.out _ (HZ'.out.alloc _)).mono ?_
  rintro _ wa ⟨A, ⟨rfl, K1⟩, H1, g1, g2, g3⟩
  have KA := Hd.mk (((Stays.refl (fun _ => False) w).alloc (.cells #[.int .i64 N, .int .i64 W, .int .i64 R, .int .i64 K] 46)).trans K1)
  go_wp2_with fail
  refine (gLoad_c H1 gw cap l HL.out HR.out (fun j hj => (KA.out.cell (p := ⟨gw, j, none⟩) HG.out (fun x => x)).trans (HCE.out j hj))).mono ?_
  rintro _ wb ⟨rfl, H2, K2⟩
  go_wp2_with fail
  go_ret2
  have g1' : w.heap.size + 1 ≤ A.g := by simpa using g1
  have g2' : w.heap.size + 1 ≤ A.s := by simpa using g2
  have g3' : w.heap.size + 1 ≤ A.a := by simpa using g3
  have z1 : w.heap.size + 1 ≤ wa.heap.size := by have := K1.size; simpa using this
  have z2 := K2.size
  have KF : Stays (fun _ => False) w wb := by
    refine Stays.fresh KA.out K2 (fun b hb => ?_)
    rcases hb with rfl | rfl <;> omega
  refine ⟨A, wb.heap.size, ⟨rfl, by with_reducible repeat (first | exact KF | apply zsa | apply zsd)⟩, ⟨?_, ?_, ?_⟩, ⟨by omega, by omega, by omega, by omega⟩⟩
  · with_reducible repeat (first | exact H2 | apply zha | apply zhd)
  · repeat (first | exact Blk.new _ _ _ | with_reducible apply Blk.drew)
  · exact GA.foot_far H2.top
theorem hOver_few (N W R K : Int) (w : World) (HZ : NoneZ w) (h : plCheck N W R K = 0) (v : Option Addr) (n cap : Nat) (hn : ((n : Int) != ((gsNew N W R K).ws.length : Int)) = true) :
    Calls Tryz.prog 71 #[.agg #[.int .i64 N, .int .i64 W, .int .i64 R, .int .i64 K], .slice v n cap] w (Made w (.tuple #[.pointer none, .int .i64 2])) := by
  obtain ⟨n0, n1, w0, w1, r0, r1, k0, k1, hp⟩ := plCheck_pos h
  have HC := Hd.mk (fun w HZ => gNew_c N W R K w HZ h n0 n1 w0 w1 r0 r1 k0 k1 hp)
  have HZ' := Hd.mk HZ
  have HN := Hd.mk hn
  clear h n0 n1 w0 w1 r0 r1 k0 k1 hp HZ hn
  go_enter Tryz.func71, Tryz.ntmps71
  go_wp2_with fail
  refine (HC.out _ (HZ'.out.alloc _)).mono ?_
  rintro _ wa ⟨A, ⟨rfl, K1⟩, H1, g1, g2, g3⟩
  go_wp2_with fail
  refine (gLoad_few H1 v n cap HN.out).mono ?_
  rintro _ _ ⟨rfl, rfl⟩
  go_wp2_with fail
  go_ret2
  refine ⟨rfl, ?_⟩
  with_reducible repeat (first | apply zsd | apply zsa)
  refine Stays.trans ?_ K1
  with_reducible repeat (first | apply zsd | apply zsa)
  exact Stays.refl _ _
end Go.Proofs.YtadhdjldcpkfiaaGreatDoor
