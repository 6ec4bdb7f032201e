/- What the calls of heap do. Nothing is asked but that the ground lies there, and the heap's own block. -/
import Derived.Test.YtadhdjldcpkfiaaGreatDoorRl
import Derived.Test.YtadhdjldcpkfiaaGreatDoorT8
import Derived.Test.YtadhdjldcpkfiaaGreatDoorDu
namespace Go.Proofs.YtadhdjldcpkfiaaGreatDoor
set_option linter.unusedVariables false
set_option linter.unusedSimpArgs false
open Go.RowKit
set_option maxRecDepth 100000
set_option maxHeartbeats 1600000

/-- Is there such a slot? -/
def hSl1 (s : Int) : GM Int := getS >>= fun c => if s < 0 then pure 5 else if s ≥ c.r then pure 5 else pure 0
theorem hSl1_c {A : GA} {S : GS} {w : World} (H : Held A S w) {s : Int} {v0 : Int} {hb gb : Nat} (hf : ¬ A.foot hb) (Bh : Blk w hb 128 #[.pointer (some ⟨A.g, 0, none⟩)]) (hg : ¬ A.foot gb) (Bl : Blk w gb 3 #[.int .i64 s]) {T : GS} (e : hSl1 s S = (v0, T)) :
    Calls Tryz.prog 204 #[.pointer (some ⟨hb, 0, none⟩), .slice (some ⟨gb, 0, none⟩) 1 1] w (Did A w (.int .i64 v0) T) := by
  unfold hSl1 at e
  replace e := GM.bind_eq e
  obtain ⟨c, S1, e1, e⟩ := e
  obtain ⟨rfl, rfl⟩ := getS_eq e1
  clear e1
  have E := Hd.mk e
  clear e
  have Bh0 := Hd.mk Bh
  have Bl0 := Hd.mk Bl
  clear Bh Bl
  go_enter Tryz.func204, Tryz.ntmps204
  go_wp2_with fail
  go_loopw [11] (fun i wr => ∃ j : Nat, j ≤ 1 ∧ i = .int .i64 j ∧ Hd (∀ q, q < j → 0 ≤ [s].getD q 0 ∧ [s].getD q 0 < S.r) ∧ Held A S wr ∧ Hd (Stays A.foot w wr)) (fun i _ => 1 - (intOf i).toNat)
  case atStart => exact ⟨0, by omega, rfl, ⟨fun q hq => by omega⟩, H, ⟨Stays.refl _ _⟩⟩
  case round =>
    clear H
    obtain ⟨j, hj, rfl, HQ, H, KU⟩ := hrel
    have Bh := Bh0.out.stays KU.out hf
    have Bl := Bl0.out.stays KU.out hg
    have b0 := Bh.cell 0
    rcases (by omega : j = 0 ∨ j = 1) with rfl | rfl
    · have l0 := Bl.cell 0
      by_cases c1 : s < 0
      · have hv : v0 = 5 ∧ S = T := by
          have e := E.out
          skip
          skip
          skip
          rw [if_pos c1] at e
          obtain ⟨h, k⟩ := GM.pure_eq e
          exact ⟨h.symm, k⟩
        obtain ⟨rfl, rfl⟩ := hv
        go_wp2_with fail
        go_ret
        exact ⟨rfl, H, KU.out⟩
      · by_cases c2 : s ≥ S.r
        · have hv : v0 = 5 ∧ S = T := by
            have e := E.out
            skip
            skip
            skip
            rw [if_neg c1, if_pos c2] at e
            obtain ⟨h, k⟩ := GM.pure_eq e
            exact ⟨h.symm, k⟩
          obtain ⟨rfl, rfl⟩ := hv
          go_wp2_with fail
          refine (conf_c H).mono ?_
          rintro _ w1 ⟨rfl, H1, K1⟩
          go_wp2_with fail
          go_ret
          exact ⟨rfl, H1, KU.out.trans K1⟩
        · have HN : Hd (∀ q, q < 1 → 0 ≤ [s].getD q 0 ∧ [s].getD q 0 < S.r) := ⟨fun q hq => by
            rcases (by omega : q < 0 ∨ q = 0) with h | rfl
            · exact HQ.out q h
            · simp only [List.getD_cons_zero, List.getD_cons_succ]
              omega⟩
          go_wp2_with fail
          refine (conf_c H).mono ?_
          rintro _ w1 ⟨rfl, H1, K1⟩
          go_wp2_with fail
          go_roundw
          case rel => exact ⟨1, by omega, by first | rfl | simp, HN, H1, ⟨KU.out.trans K1⟩⟩
          case measure => simp [intOf]
    · have hv : v0 = 0 ∧ S = T := by
        have e := E.out
        have hq0 := HQ.out 0 (by omega)
        skip
        simp only [List.getD_cons_zero, List.getD_cons_succ] at hq0 
        rw [if_neg (by omega), if_neg (by omega)] at e
        obtain ⟨h, k⟩ := GM.pure_eq e
        exact ⟨h.symm, k⟩
      obtain ⟨rfl, rfl⟩ := hv
      go_wp2_with fail
      go_ret
      exact ⟨rfl, H, KU.out⟩

/-- Is there such a slot? -/
def hSl2 (s f : Int) : GM Int := getS >>= fun c => if s < 0 then pure 5 else if s ≥ c.r then pure 5 else if f < 0 then pure 5 else if f ≥ c.r then pure 5 else pure 0
theorem hSl2_c {A : GA} {S : GS} {w : World} (H : Held A S w) {s f : Int} {v0 : Int} {hb gb : Nat} (hf : ¬ A.foot hb) (Bh : Blk w hb 128 #[.pointer (some ⟨A.g, 0, none⟩)]) (hg : ¬ A.foot gb) (Bl : Blk w gb 3 #[.int .i64 s, .int .i64 f]) {T : GS} (e : hSl2 s f S = (v0, T)) :
    Calls Tryz.prog 204 #[.pointer (some ⟨hb, 0, none⟩), .slice (some ⟨gb, 0, none⟩) 2 2] w (Did A w (.int .i64 v0) T) := by
  unfold hSl2 at e
  replace e := GM.bind_eq e
  obtain ⟨c, S1, e1, e⟩ := e
  obtain ⟨rfl, rfl⟩ := getS_eq e1
  clear e1
  have E := Hd.mk e
  clear e
  have Bh0 := Hd.mk Bh
  have Bl0 := Hd.mk Bl
  clear Bh Bl
  go_enter Tryz.func204, Tryz.ntmps204
  go_wp2_with fail
  go_loopw [11] (fun i wr => ∃ j : Nat, j ≤ 2 ∧ i = .int .i64 j ∧ Hd (∀ q, q < j → 0 ≤ [s, f].getD q 0 ∧ [s, f].getD q 0 < S.r) ∧ Held A S wr ∧ Hd (Stays A.foot w wr)) (fun i _ => 2 - (intOf i).toNat)
  case atStart => exact ⟨0, by omega, rfl, ⟨fun q hq => by omega⟩, H, ⟨Stays.refl _ _⟩⟩
  case round =>
    clear H
    obtain ⟨j, hj, rfl, HQ, H, KU⟩ := hrel
    have Bh := Bh0.out.stays KU.out hf
    have Bl := Bl0.out.stays KU.out hg
    have b0 := Bh.cell 0
    rcases (by omega : j = 0 ∨ j = 1 ∨ j = 2) with rfl | rfl | rfl
    · have l0 := Bl.cell 0
      by_cases c1 : s < 0
      · have hv : v0 = 5 ∧ S = T := by
          have e := E.out
          skip
          skip
          skip
          rw [if_pos c1] at e
          obtain ⟨h, k⟩ := GM.pure_eq e
          exact ⟨h.symm, k⟩
        obtain ⟨rfl, rfl⟩ := hv
        go_wp2_with fail
        go_ret
        exact ⟨rfl, H, KU.out⟩
      · by_cases c2 : s ≥ S.r
        · have hv : v0 = 5 ∧ S = T := by
            have e := E.out
            skip
            skip
            skip
            rw [if_neg c1, if_pos c2] at e
            obtain ⟨h, k⟩ := GM.pure_eq e
            exact ⟨h.symm, k⟩
          obtain ⟨rfl, rfl⟩ := hv
          go_wp2_with fail
          refine (conf_c H).mono ?_
          rintro _ w1 ⟨rfl, H1, K1⟩
          go_wp2_with fail
          go_ret
          exact ⟨rfl, H1, KU.out.trans K1⟩
        · have HN : Hd (∀ q, q < 1 → 0 ≤ [s, f].getD q 0 ∧ [s, f].getD q 0 < S.r) := ⟨fun q hq => by
            rcases (by omega : q < 0 ∨ q = 0) with h | rfl
            · exact HQ.out q h
            · simp only [List.getD_cons_zero, List.getD_cons_succ]
              omega⟩
          go_wp2_with fail
          refine (conf_c H).mono ?_
          rintro _ w1 ⟨rfl, H1, K1⟩
          go_wp2_with fail
          go_roundw
          case rel => exact ⟨1, by omega, by first | rfl | simp, HN, H1, ⟨KU.out.trans K1⟩⟩
          case measure => simp [intOf]
    · have l0 := Bl.cell 1
      by_cases c1 : f < 0
      · have hv : v0 = 5 ∧ S = T := by
          have e := E.out
          have hq0 := HQ.out 0 (by omega)
          simp only [List.getD_cons_zero] at hq0
          rw [if_neg (by omega), if_neg (by omega)] at e
          rw [if_pos c1] at e
          obtain ⟨h, k⟩ := GM.pure_eq e
          exact ⟨h.symm, k⟩
        obtain ⟨rfl, rfl⟩ := hv
        go_wp2_with fail
        go_ret
        exact ⟨rfl, H, KU.out⟩
      · by_cases c2 : f ≥ S.r
        · have hv : v0 = 5 ∧ S = T := by
            have e := E.out
            have hq0 := HQ.out 0 (by omega)
            simp only [List.getD_cons_zero] at hq0
            rw [if_neg (by omega), if_neg (by omega)] at e
            rw [if_neg c1, if_pos c2] at e
            obtain ⟨h, k⟩ := GM.pure_eq e
            exact ⟨h.symm, k⟩
          obtain ⟨rfl, rfl⟩ := hv
          go_wp2_with fail
          refine (conf_c H).mono ?_
          rintro _ w1 ⟨rfl, H1, K1⟩
          go_wp2_with fail
          go_ret
          exact ⟨rfl, H1, KU.out.trans K1⟩
        · have HN : Hd (∀ q, q < 2 → 0 ≤ [s, f].getD q 0 ∧ [s, f].getD q 0 < S.r) := ⟨fun q hq => by
            rcases (by omega : q < 1 ∨ q = 1) with h | rfl
            · exact HQ.out q h
            · simp only [List.getD_cons_zero, List.getD_cons_succ]
              omega⟩
          go_wp2_with fail
          refine (conf_c H).mono ?_
          rintro _ w1 ⟨rfl, H1, K1⟩
          go_wp2_with fail
          go_roundw
          case rel => exact ⟨2, by omega, by first | rfl | simp, HN, H1, ⟨KU.out.trans K1⟩⟩
          case measure => simp [intOf]
    · have hv : v0 = 0 ∧ S = T := by
        have e := E.out
        have hq0 := HQ.out 0 (by omega)
        have hq1 := HQ.out 1 (by omega)
        simp only [List.getD_cons_zero, List.getD_cons_succ] at hq0 hq1
        rw [if_neg (by omega), if_neg (by omega), if_neg (by omega), if_neg (by omega)] at e
        obtain ⟨h, k⟩ := GM.pure_eq e
        exact ⟨h.symm, k⟩
      obtain ⟨rfl, rfl⟩ := hv
      go_wp2_with fail
      go_ret
      exact ⟨rfl, H, KU.out⟩

theorem poLen_range {S T : GS} {v : Int} (h : S.Ok) (e : poLen S = (v, T)) : 0 ≤ v ∧ v ≤ 4294967295 := by
  unfold poLen chLen at e
  obtain ⟨n, U, e1, e2⟩ := GM.bind_eq e
  obtain ⟨rfl, _⟩ := GM.pure_eq e2
  exact stGet_range h e1
theorem gvPending_range {S T : GS} {v : Int} (h : S.Ok) (e : gvPending S = (v, T)) : 0 ≤ v ∧ v ≤ 4294967295 := by
  unfold gvPending at e
  obtain ⟨n, U, e1, e2⟩ := GM.bind_eq e
  obtain ⟨rfl, _⟩ := GM.pure_eq e2
  exact stGet_range h e1
theorem gvPendingD_c {A : GA} {S : GS} {w : World} (H : Held A S w) {v0 : Int} {T : GS} (e : gvPending S = (v0, T)) :
    Calls Tryz.prog 35 #[.pointer (some ⟨A.g, 0, none⟩)] w (Did A w (.int .i64 v0) T) := (gvPending_c H e).mono fun _ _ h => h.1
theorem plCheck_ok {S : GS} (h : S.Ok) : plCheck S.n S.w S.r S.k = 0 := by
  have := h.n1
  have := h.n2
  have := h.w1
  have := h.w2
  have := h.r1
  have := h.r2
  have := h.k1
  have := h.k2
  have := h.nw
  simp [plCheck, inB, *]
theorem due_le {W K kind b : Int} (w0 : 16 ≤ W) (w1 : W ≤ 256) (k0 : 1 ≤ K) (k1 : K ≤ 65536) : dueOk W K kind b ≤ 1099511627776 := by
  have hb := dueB_range (b := b) w0 w1
  have := Int.mul_le_mul hb.2 k1 (by omega) (by omega)
  unfold dueOk
  repeat' split
  all_goals omega

def hPay (kd b : Int) : GM Int := getS >>= fun c => paPay (dueOk c.w c.k kd b) >>= fun _ => pure 0
theorem hPay_c {A : GA} {S : GS} {w : World} (H : Held A S w) {kd b v0 : Int} {hb : Nat} (hf : ¬ A.foot hb) (Bh : Blk w hb 128 #[.pointer (some ⟨A.g, 0, none⟩)]) {T : GS} (e : hPay kd b S = (v0, T)) :
    Calls Tryz.prog 206 #[.pointer (some ⟨hb, 0, none⟩), .int .i64 kd, .int .i64 b] w (Did A w (.int .i64 v0) T) := by
  unfold hPay at e
  replace e := GM.bind_eq e
  obtain ⟨c, S1, e1, e⟩ := e
  obtain ⟨rfl, rfl⟩ := getS_eq e1
  clear e1
  replace e := GM.bind_eq e
  obtain ⟨k, S2, e2, e⟩ := e
  obtain ⟨rfl, rfl⟩ := GM.pure_eq e
  have E2 := Hd.mk e2
  clear e e2
  have Bh0 := Bh.cell 0
  go_enter Tryz.func206, Tryz.ntmps206
  go_wp2_with fail
  go_region_held3 (fun wx => wx.cell? ⟨hb, 0, none⟩ = some (.pointer (some ⟨A.g, 0, none⟩)))
    (first | with_reducible exact Bh0 | go_keep)
    (first | (go_at_call 98; (with_reducible refine (conf_c (by with_reducible repeat (first | exact H | apply zha | apply zhd | apply zhn))).mono ?_); (rintro _ w1 ⟨rfl, H1, K1⟩); (replace Bh := Blk.stays (by with_reducible repeat (first | exact Bh | apply zba | apply zbd | apply zbn)) K1 hf); clear Bh0; have Bh0 := Bh.cell 0) | (go_at_call 50; (with_reducible refine (Due_c _ _ _ _ _ _ _ (plCheck_ok H1.ok) H1.ok.n1 H1.ok.n2 H1.ok.w1 H1.ok.w2 H1.ok.r1 H1.ok.r2 H1.ok.k1 H1.ok.k2).mono ?_); (rintro _ w2 ⟨rfl, K2⟩); (have H2 := H1.stays K2 (fun _ _ x => x)); (replace Bh := Blk.stays (by with_reducible repeat (first | exact Bh | apply zba | apply zbd | apply zbn)) K2 (fun x => x)); clear Bh0; have Bh0 := Bh.cell 0) | (go_at_call 54; (with_reducible refine (paPay_c (by with_reducible repeat (first | exact H2 | apply zha | apply zhd | apply zhn)) (due_le H2.ok.w1 H2.ok.w2 H2.ok.k1 H2.ok.k2) E2.out).mono ?_); (rintro _ w3 ⟨rfl, H3, K3⟩); (replace Bh := Blk.stays (by with_reducible repeat (first | exact Bh | apply zba | apply zbd | apply zbn)) K3 hf); clear Bh0; have Bh0 := Bh.cell 0))
  go_wp2_with fail
  go_ret
  refine ⟨rfl, (by with_reducible repeat (first | exact H3 | apply zha | apply zhd | apply zhn)), ?_⟩
  with_reducible repeat (first | apply zsa | apply zsd | apply zsn)
  refine Stays.trans ?_ K3
  with_reducible repeat (first | apply zsa | apply zsd | apply zsn)
  refine Stays.trans ?_ (K2.mono (fun _ x => x.elim))
  with_reducible repeat (first | apply zsa | apply zsd | apply zsn)
  refine Stays.trans ?_ K1
  with_reducible repeat (first | apply zsa | apply zsd | apply zsn)
  exact Stays.refl _ _

def hSet (s : Int) (r : Int) : GM Unit :=
  Root s >>= fun old =>
  SetRoot s r >>= fun _ =>
  if old > 0 then
    lkLet old >>= fun _ =>
    pure ()
  else
    pure ()

theorem hSet_c {A : GA} {S : GS} {w : World} (H : Held A S w) {s : Int} {r : Int} {hb : Nat} (hf : ¬ A.foot hb) (Bh : Blk w hb 128 #[.pointer (some ⟨A.g, 0, none⟩)]) {T : GS} (e : hSet s r S = ((), T)) :
    Calls Tryz.prog 205 #[.pointer (some ⟨hb, 0, none⟩), .int .i64 s, .int .i64 r] w (Did A w (.tuple #[]) T) := by
  unfold hSet at e
  replace e := GM.bind_eq e; obtain ⟨old, S1, e1_, e⟩ := e; have e1 := Hd.mk e1_; clear e1_
  replace e := GM.bind_eq e; obtain ⟨u2, S2, e2_, e⟩ := e; have e2 := Hd.mk e2_; clear e2_
  by_cases c3 : old > 0
  · rw [if_pos c3] at e
    replace e := GM.bind_eq e; obtain ⟨u4, S4, e4_, e⟩ := e; have e4 := Hd.mk e4_; clear e4_
    obtain ⟨hv, rfl⟩ := GM.pure_eq e
    clear hv
    go_enter Tryz.func205, Tryz.ntmps205
    have Bh0 : w.cell? ⟨hb, 0, none⟩ = some (.pointer (some ⟨A.g, 0, none⟩)) := Bh.cell 0
    go_wp2_with fail
    with_reducible refine (Root_c (by with_reducible repeat (first | exact H | apply zha | apply zhd | apply zhn)) e1.out).mono ?_
    rintro _ w1 ⟨rfl, H1, K1⟩
    replace Bh := Blk.stays (by with_reducible repeat (first | exact Bh | apply zba | apply zbd | apply zbn)) K1 hf
    have Bh0 : w1.cell? ⟨hb, 0, none⟩ = some (.pointer (some ⟨A.g, 0, none⟩)) := Bh.cell 0
    go_wp2_with fail
    with_reducible refine (SetRoot_c (by with_reducible repeat (first | exact H1 | apply zha | apply zhd | apply zhn)) e2.out).mono ?_
    rintro _ w2 ⟨rfl, H2, K2⟩
    replace Bh := Blk.stays (by with_reducible repeat (first | exact Bh | apply zba | apply zbd | apply zbn)) K2 hf
    clear Bh0
    have Bh0 : w2.cell? ⟨hb, 0, none⟩ = some (.pointer (some ⟨A.g, 0, none⟩)) := Bh.cell 0
    go_wp2_with fail
    with_reducible refine (lkLet_c (by with_reducible repeat (first | exact H2 | apply zha | apply zhd | apply zhn)) e4.out).mono ?_
    rintro _ w4 ⟨rfl, H4, K4⟩
    replace Bh := Blk.stays (by with_reducible repeat (first | exact Bh | apply zba | apply zbd | apply zbn)) K4 hf
    clear Bh0
    have Bh0 : w4.cell? ⟨hb, 0, none⟩ = some (.pointer (some ⟨A.g, 0, none⟩)) := Bh.cell 0
    go_wp2_with fail
    go_end0
    exact ⟨by first | rfl | (simp; done) | (simp [*]; done), (by with_reducible repeat (first | exact H4 | apply zha | apply zhd | apply zhn)), by
      with_reducible repeat (first | apply zsa | apply zsd | apply zsn)
      refine Stays.trans ?_ K4
      with_reducible repeat (first | apply zsa | apply zsd | apply zsn)
      refine Stays.trans ?_ K2
      with_reducible repeat (first | apply zsa | apply zsd | apply zsn)
      refine Stays.trans ?_ K1
      with_reducible repeat (first | apply zsa | apply zsd | apply zsn)
      exact Stays.refl _ _⟩
  · rw [if_neg c3] at e
    obtain ⟨hv, rfl⟩ := GM.pure_eq e
    clear hv
    go_enter Tryz.func205, Tryz.ntmps205
    have Bh0 : w.cell? ⟨hb, 0, none⟩ = some (.pointer (some ⟨A.g, 0, none⟩)) := Bh.cell 0
    go_wp2_with fail
    with_reducible refine (Root_c (by with_reducible repeat (first | exact H | apply zha | apply zhd | apply zhn)) e1.out).mono ?_
    rintro _ w1 ⟨rfl, H1, K1⟩
    replace Bh := Blk.stays (by with_reducible repeat (first | exact Bh | apply zba | apply zbd | apply zbn)) K1 hf
    have Bh0 : w1.cell? ⟨hb, 0, none⟩ = some (.pointer (some ⟨A.g, 0, none⟩)) := Bh.cell 0
    go_wp2_with fail
    with_reducible refine (SetRoot_c (by with_reducible repeat (first | exact H1 | apply zha | apply zhd | apply zhn)) e2.out).mono ?_
    rintro _ w2 ⟨rfl, H2, K2⟩
    replace Bh := Blk.stays (by with_reducible repeat (first | exact Bh | apply zba | apply zbd | apply zbn)) K2 hf
    clear Bh0
    have Bh0 : w2.cell? ⟨hb, 0, none⟩ = some (.pointer (some ⟨A.g, 0, none⟩)) := Bh.cell 0
    go_wp2_with fail
    go_end0
    exact ⟨by first | rfl | (simp; done) | (simp [*]; done), (by with_reducible repeat (first | exact H2 | apply zha | apply zhd | apply zhn)), by
      with_reducible repeat (first | apply zsa | apply zsd | apply zsn)
      refine Stays.trans ?_ K2
      with_reducible repeat (first | apply zsa | apply zsd | apply zsn)
      refine Stays.trans ?_ K1
      with_reducible repeat (first | apply zsa | apply zsd | apply zsn)
      exact Stays.refl _ _⟩

def hTake (s : Int) (r : Int) : GM Unit :=
  if r > 0 then
    lkHold r >>= fun _ =>
    hSet s r >>= fun _ =>
    pure ()
  else
    hSet s r >>= fun _ =>
    pure ()

theorem hTake_c {A : GA} {S : GS} {w : World} (H : Held A S w) {s : Int} {r : Int} {hb : Nat} (hf : ¬ A.foot hb) (Bh : Blk w hb 128 #[.pointer (some ⟨A.g, 0, none⟩)]) {T : GS} (e : hTake s r S = ((), T)) :
    Calls Tryz.prog 208 #[.pointer (some ⟨hb, 0, none⟩), .int .i64 s, .int .i64 r] w (Did A w (.tuple #[]) T) := by
  unfold hTake at e
  by_cases c1 : r > 0
  · rw [if_pos c1] at e
    replace e := GM.bind_eq e; obtain ⟨u2, S2, e2_, e⟩ := e; have e2 := Hd.mk e2_; clear e2_
    replace e := GM.bind_eq e; obtain ⟨u3, S3, e3_, e⟩ := e; have e3 := Hd.mk e3_; clear e3_
    obtain ⟨hv, rfl⟩ := GM.pure_eq e
    clear hv
    go_enter Tryz.func208, Tryz.ntmps208
    have Bh0 : w.cell? ⟨hb, 0, none⟩ = some (.pointer (some ⟨A.g, 0, none⟩)) := Bh.cell 0
    go_wp2_with fail
    with_reducible refine (lkHold_c (by with_reducible repeat (first | exact H | apply zha | apply zhd | apply zhn)) e2.out).mono ?_
    rintro _ w2 ⟨rfl, H2, K2⟩
    replace Bh := Blk.stays (by with_reducible repeat (first | exact Bh | apply zba | apply zbd | apply zbn)) K2 hf
    have Bh0 : w2.cell? ⟨hb, 0, none⟩ = some (.pointer (some ⟨A.g, 0, none⟩)) := Bh.cell 0
    go_wp2_with fail
    with_reducible refine (hSet_c (by with_reducible repeat (first | exact H2 | apply zha | apply zhd | apply zhn)) hf (by with_reducible repeat (first | exact Bh | apply zba | apply zbd | apply zbn)) e3.out).mono ?_
    rintro _ w3 ⟨rfl, H3, K3⟩
    replace Bh := Blk.stays (by with_reducible repeat (first | exact Bh | apply zba | apply zbd | apply zbn)) K3 hf
    clear Bh0
    have Bh0 : w3.cell? ⟨hb, 0, none⟩ = some (.pointer (some ⟨A.g, 0, none⟩)) := Bh.cell 0
    go_wp2_with fail
    go_end0
    exact ⟨by first | rfl | (simp; done) | (simp [*]; done), (by with_reducible repeat (first | exact H3 | apply zha | apply zhd | apply zhn)), by
      with_reducible repeat (first | apply zsa | apply zsd | apply zsn)
      refine Stays.trans ?_ K3
      with_reducible repeat (first | apply zsa | apply zsd | apply zsn)
      refine Stays.trans ?_ K2
      with_reducible repeat (first | apply zsa | apply zsd | apply zsn)
      exact Stays.refl _ _⟩
  · rw [if_neg c1] at e
    replace e := GM.bind_eq e; obtain ⟨u2, S2, e2_, e⟩ := e; have e2 := Hd.mk e2_; clear e2_
    obtain ⟨hv, rfl⟩ := GM.pure_eq e
    clear hv
    go_enter Tryz.func208, Tryz.ntmps208
    have Bh0 : w.cell? ⟨hb, 0, none⟩ = some (.pointer (some ⟨A.g, 0, none⟩)) := Bh.cell 0
    go_wp2_with fail
    with_reducible refine (hSet_c (by with_reducible repeat (first | exact H | apply zha | apply zhd | apply zhn)) hf (by with_reducible repeat (first | exact Bh | apply zba | apply zbd | apply zbn)) e2.out).mono ?_
    rintro _ w2 ⟨rfl, H2, K2⟩
    replace Bh := Blk.stays (by with_reducible repeat (first | exact Bh | apply zba | apply zbd | apply zbn)) K2 hf
    have Bh0 : w2.cell? ⟨hb, 0, none⟩ = some (.pointer (some ⟨A.g, 0, none⟩)) := Bh.cell 0
    go_wp2_with fail
    go_end0
    exact ⟨by first | rfl | (simp; done) | (simp [*]; done), (by with_reducible repeat (first | exact H2 | apply zha | apply zhd | apply zhn)), by
      with_reducible repeat (first | apply zsa | apply zsd | apply zsn)
      refine Stays.trans ?_ K2
      with_reducible repeat (first | apply zsa | apply zsd | apply zsn)
      exact Stays.refl _ _⟩

def hIn (s : Int) : GM (Int × Int) :=
  Root s >>= fun r =>
  if r = 0 then
    pure (0, 6)
  else
    pure (r, 0)

theorem hIn_c {A : GA} {S : GS} {w : World} (H : Held A S w) {s : Int} {v0 : Int} {v1 : Int} {hb : Nat} (hf : ¬ A.foot hb) (Bh : Blk w hb 128 #[.pointer (some ⟨A.g, 0, none⟩)]) {T : GS} (e : hIn s S = ((v0, v1), T)) :
    Calls Tryz.prog 207 #[.pointer (some ⟨hb, 0, none⟩), .int .i64 s] w (Did A w (.tuple #[.int .i64 v0, .int .i64 v1]) T) := by
  unfold hIn at e
  replace e := GM.bind_eq e; obtain ⟨r, S1, e1_, e⟩ := e; have e1 := Hd.mk e1_; clear e1_
  by_cases c2 : r = 0
  · rw [if_pos c2] at e; subst c2
    obtain ⟨hv, rfl⟩ := GM.pure_eq e
    cases hv
    go_enter Tryz.func207, Tryz.ntmps207
    have Bh0 : w.cell? ⟨hb, 0, none⟩ = some (.pointer (some ⟨A.g, 0, none⟩)) := Bh.cell 0
    go_wp2_with fail
    with_reducible refine (Root_c (by with_reducible repeat (first | exact H | apply zha | apply zhd | apply zhn)) e1.out).mono ?_
    rintro _ w1 ⟨rfl, H1, K1⟩
    replace Bh := Blk.stays (by with_reducible repeat (first | exact Bh | apply zba | apply zbd | apply zbn)) K1 hf
    have Bh0 : w1.cell? ⟨hb, 0, none⟩ = some (.pointer (some ⟨A.g, 0, none⟩)) := Bh.cell 0
    go_wp2_with fail
    go_ret2
    exact ⟨by first | rfl | (simp; done) | (simp [*]; done), (by with_reducible repeat (first | exact H1 | apply zha | apply zhd | apply zhn)), by
      with_reducible repeat (first | apply zsa | apply zsd | apply zsn)
      refine Stays.trans ?_ K1
      with_reducible repeat (first | apply zsa | apply zsd | apply zsn)
      exact Stays.refl _ _⟩
  · rw [if_neg c2] at e; have c2b : (r == 0) = false := beq_eq_false_iff_ne.2 c2; have c2n : (r != 0) = true := bne_iff_ne.2 c2
    obtain ⟨hv, rfl⟩ := GM.pure_eq e
    cases hv
    go_enter Tryz.func207, Tryz.ntmps207
    have Bh0 : w.cell? ⟨hb, 0, none⟩ = some (.pointer (some ⟨A.g, 0, none⟩)) := Bh.cell 0
    go_wp2_with fail
    with_reducible refine (Root_c (by with_reducible repeat (first | exact H | apply zha | apply zhd | apply zhn)) e1.out).mono ?_
    rintro _ w1 ⟨rfl, H1, K1⟩
    replace Bh := Blk.stays (by with_reducible repeat (first | exact Bh | apply zba | apply zbd | apply zbn)) K1 hf
    have Bh0 : w1.cell? ⟨hb, 0, none⟩ = some (.pointer (some ⟨A.g, 0, none⟩)) := Bh.cell 0
    go_wp2_with fail
    go_ret2
    exact ⟨by first | rfl | (simp; done) | (simp [*]; done), (by with_reducible repeat (first | exact H1 | apply zha | apply zhd | apply zhn)), by
      with_reducible repeat (first | apply zsa | apply zsd | apply zsn)
      refine Stays.trans ?_ K1
      with_reducible repeat (first | apply zsa | apply zsd | apply zsn)
      exact Stays.refl _ _⟩
end Go.Proofs.YtadhdjldcpkfiaaGreatDoor
