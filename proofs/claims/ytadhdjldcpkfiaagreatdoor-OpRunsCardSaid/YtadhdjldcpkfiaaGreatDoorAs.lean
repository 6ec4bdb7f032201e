/- op.First, quitrentref22.Same. Nothing is asked. -/
import Derived.Test.YtadhdjldcpkfiaaGreatDoorAn
namespace Go.Proofs.YtadhdjldcpkfiaaGreatDoor
set_option linter.unusedVariables false
set_option linter.unusedSimpArgs false
open Go.RowKit
set_option maxRecDepth 100000
set_option maxHeartbeats 3200000

theorem First_c (w : World) (A0 : Option Addr) (n cap : Nat) (f : Nat → Ans) (e : Int) (HA : AnsIn w A0 n f) (hn : n ≤ 400) :
    Calls Tryz.prog 76 #[.slice A0 n cap, .int .i64 e] w (Made w (.int .i64 (fstA f e n))) := by
  have HA' := Hd.mk HA
  clear HA
  go_enter Tryz.func76, Tryz.ntmps76
  go_wp2_with fail
  go_loopw [9] (fun i wr => ∃ j : Nat, j ≤ n ∧ i = .int .i64 j ∧ Hd (fstA f e j = -1) ∧ Hd (Stays (fun _ => False) w wr)) (fun i _ => n - (intOf i).toNat)
  case atStart => exact ⟨0, by omega, rfl, ⟨rfl⟩, ⟨Stays.refl _ _⟩⟩
  case round =>
    obtain ⟨j, hj, rfl, HF, KU⟩ := hrel
    by_cases cj : j < n
    · obtain ⟨b, hA0, x0, x1, x2, x3⟩ := HA'.out j cj
      have lt0 := World.block_lt_of_cell? w _ x0
      have y0 := (KU.out.cell (p := ⟨b, j * 4, none⟩) lt0 (fun x => x)).trans x0
      have y1 := (KU.out.cell (p := ⟨b, j * 4 + 1, none⟩) lt0 (fun x => x)).trans x1
      have y2 := (KU.out.cell (p := ⟨b, j * 4 + 2, none⟩) lt0 (fun x => x)).trans x2
      have y3 := (KU.out.cell (p := ⟨b, j * 4 + 3, none⟩) lt0 (fun x => x)).trans x3
      subst hA0
      clear x0 x1 x2 x3 lt0
      have hst : fstA f e (j + 1) = if fstA f e j < 0 ∧ (f j).err = e then (j : Int) else fstA f e j := rfl
      rw [HF.out] at hst
      have hkp : 0 ≤ fstA f e (j + 1) → fstA f e n = fstA f e (j + 1) := fun h => by
        have := fstA_keep f e h (n - (j + 1))
        rwa [show j + 1 + (n - (j + 1)) = n by omega] at this
      obtain ⟨a, ha⟩ : ∃ a, f j = a := ⟨_, rfl⟩
      rw [ha] at y0 y1 y2 y3 hst
      obtain ⟨a0, a1, a2, a3⟩ := a
      dsimp only at y0 y1 y2 y3 hst
      have cb : decide ((j : Int) < (n : Int)) = true := decide_eq_true (by omega)
      by_cases ce : a0 = e
      · rw [if_pos ⟨by omega, ce⟩] at hst
        have hres := Hd.mk ((hkp (by omega)).trans hst)
        have te : (a0 == e) = true := by simp [ce]
        clear hkp hst ce ha
        go_wp2_with fail
        go_ret
        exact ⟨by rw [hres.out]; rfl, KU.out.alloc _⟩
      · rw [if_neg (fun h => ce h.2)] at hst
        have HF' := Hd.mk hst
        have te : (a0 == e) = false := by simp [ce]
        have hme := Hd.mk (show n - ((j : Int) + 1).toNat < n - (j : Int).toNat by omega)
        have hj1 := Hd.mk (show j + 1 ≤ n by omega)
        clear hkp hst ce ha
        go_wp2_with fail
        go_roundw
        case rel => exact ⟨j + 1, hj1.out, by first | rfl | simp, HF', ⟨KU.out.alloc _⟩⟩
        case measure =>
          first
            | exact hme.out
            | (simp only [intOf]; exact hme.out)
    · have cb : decide ((j : Int) < (n : Int)) = false := decide_eq_false (by omega)
      obtain rfl : j = n := by omega
      go_wp2_with fail
      go_ret
      exact ⟨by rw [HF.out]; rfl, KU.out⟩

theorem Same22_c (w : World) (A0 A1 : Option Addr) (n c0 c1 : Nat) (f : Nat → Ans) (HA : AnsIn w A0 n f) (HB : AnsIn w A1 n f) (hn : n ≤ 400) :
    Calls Tryz.prog 75 #[.slice A0 n c0, .slice A1 n c1] w (Made w (.bool true)) := by
  have HA' := Hd.mk HA
  have HB' := Hd.mk HB
  clear HA HB
  go_enter Tryz.func75, Tryz.ntmps75
  go_wp2_with fail
  go_loopw [5] (fun i wr => ∃ j : Nat, j ≤ n ∧ i = .int .i64 j ∧ Hd (Stays (fun _ => False) w wr)) (fun i _ => n - (intOf i).toNat)
  case atStart => exact ⟨0, by omega, rfl, ⟨Stays.refl _ _⟩⟩
  case round =>
    obtain ⟨j, hj, rfl, KU⟩ := hrel
    by_cases c : j < n
    · obtain ⟨b, hA0, x0, x1, x2, x3⟩ := HA'.out j c
      obtain ⟨b', hA1, z0, z1, z2, z3⟩ := HB'.out j c
      have lt0 := World.block_lt_of_cell? w _ x0
      have lt1 := World.block_lt_of_cell? w _ z0
      have y0 := (KU.out.cell (p := ⟨b, j * 4, none⟩) lt0 (fun x => x)).trans x0
      have y1 := (KU.out.cell (p := ⟨b, j * 4 + 1, none⟩) lt0 (fun x => x)).trans x1
      have y2 := (KU.out.cell (p := ⟨b, j * 4 + 2, none⟩) lt0 (fun x => x)).trans x2
      have y3 := (KU.out.cell (p := ⟨b, j * 4 + 3, none⟩) lt0 (fun x => x)).trans x3
      have u0 := (KU.out.cell (p := ⟨b', j * 4, none⟩) lt1 (fun x => x)).trans z0
      have u1 := (KU.out.cell (p := ⟨b', j * 4 + 1, none⟩) lt1 (fun x => x)).trans z1
      have u2 := (KU.out.cell (p := ⟨b', j * 4 + 2, none⟩) lt1 (fun x => x)).trans z2
      have u3 := (KU.out.cell (p := ⟨b', j * 4 + 3, none⟩) lt1 (fun x => x)).trans z3
      subst hA0
      subst hA1
      clear x0 x1 x2 x3 z0 z1 z2 z3 lt0 lt1
      have hme := Hd.mk (show n - ((j : Int) + 1).toNat < n - (j : Int).toNat by omega)
      have hj1 := Hd.mk (show j + 1 ≤ n by omega)
      have cc : decide ((j : Int) < (n : Int)) = true := decide_eq_true (by omega)
      generalize f j = u at *
      obtain ⟨a0, a1, a2, a3⟩ := u
      dsimp only at y0 y1 y2 y3 u0 u1 u2 u3
      have NQ := neqAns
      go_wp2_with fail
      go_quiet (fail)
      go_wp2_with fail
      go_roundw
      case rel => exact ⟨j + 1, hj1.out, by first | rfl | simp, ⟨by with_reducible repeat (first | exact KU.out | apply zsd | apply zsn)⟩⟩
      case measure =>
        first
          | exact hme.out
          | (simp only [intOf]; exact hme.out)
    · have cc : decide ((j : Int) < (n : Int)) = false := decide_eq_false (by omega)
      go_wp2_with fail
      go_ret
      exact ⟨rfl, KU.out⟩
end Go.Proofs.YtadhdjldcpkfiaaGreatDoor
