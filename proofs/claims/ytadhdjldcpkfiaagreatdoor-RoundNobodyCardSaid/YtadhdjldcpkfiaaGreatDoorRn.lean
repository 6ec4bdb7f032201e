/- round.Run. -/
import Derived.Test.YtadhdjldcpkfiaaGreatDoorT8
namespace Go.Proofs.YtadhdjldcpkfiaaGreatDoor
set_option linter.unusedVariables false
set_option linter.unusedSimpArgs false
open Go.RowKit
set_option maxRecDepth 100000
set_option maxHeartbeats 1600000

def rdRun (n : Int) : GM Int := timesL rdStep n.toNat 0
theorem rdRun_c {A : GA} {S : GS} {w : World} (H : Held A S w) {n kk : Int} {S1 : GS} (hn : n ≤ 1099511627776) (e : rdRun n S = (kk, S1)) :
    Calls Tryz.prog 44 #[.pointer (some ⟨A.g, 0, none⟩), .int .i64 n] w (Did A w (.int .i64 kk) S1) := by
  have E1 := Hd.mk e
  clear e
  go_enter Tryz.func44, Tryz.ntmps44
  go_wp2_with fail
  go_loopg [5] n.toNat (fun g s wr => ∃ j : Nat, s = .int .i64 j ∧ g = n.toNat - j ∧ j ≤ n.toNat ∧ ∃ U, Held A U wr ∧ timesL rdStep (n.toNat - j) j U = (kk, S1) ∧ Stays A.foot w wr)
  case atStart => exact ⟨0, rfl, rfl, Nat.zero_le _, S, H, E1.out, Stays.refl _ _⟩
  case round =>
    obtain ⟨j, rfl, hg, hj, U, HU, hU, KU⟩ := hrel
    have HG := Hd.mk hg
    clear hg
    by_cases hlt : (j : Int) < n
    · obtain ⟨m, hm⟩ : ∃ m, n.toNat - j = m + 1 := ⟨n.toNat - j - 1, by omega⟩
      rw [hm] at hU
      have HM := Hd.mk hm
      clear hm
      obtain ⟨b, V, h1, h2⟩ := GM.bind_eq hU
      have H1' := Hd.mk h1
      clear hU h1
      cases b with
      | true =>
        rw [if_pos rfl] at h2
        have H2' := Hd.mk h2
        clear h2
        go_wp2_with fail
        refine (rdStep_c HU H1'.out).mono ?_
        rintro _ w1 ⟨rfl, H1, K1⟩
        go_wp2_with fail
        go_roundg m
        case measure => have := HG.out; have := HM.out; omega
        case rel => exact ⟨j + 1, by go_num, by have := HM.out; omega, by omega, V, H1, by rw [show n.toNat - (j + 1) = m by have := HM.out; omega]; exact H2'.out, KU.trans K1⟩
      | false =>
        rw [if_neg (by decide)] at h2
        have h3 : (j : Int) = kk ∧ V = S1 := GM.pure_eq h2
        obtain ⟨rfl, rfl⟩ := h3
        clear h2
        go_wp2_with fail
        refine (rdStep_c HU H1'.out).mono ?_
        rintro _ w1 ⟨rfl, H1, K1⟩
        go_wp2_with fail
        go_ret
        exact ⟨rfl, H1, KU.trans K1⟩
    · rw [show n.toNat - j = 0 by omega] at hU
      have h3 : (j : Int) = kk ∧ U = S1 := GM.pure_eq hU
      obtain ⟨rfl, rfl⟩ := h3
      clear hU
      go_wp2_with fail
      go_ret
      exact ⟨rfl, HU, KU⟩
end Go.Proofs.YtadhdjldcpkfiaaGreatDoor
