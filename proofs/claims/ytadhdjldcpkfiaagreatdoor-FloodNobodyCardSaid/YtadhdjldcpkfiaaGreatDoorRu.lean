/- quitrentlaw17.Run: a whole count and a whole flood, where each has fewer than 1000 steps. -/
import Derived.Test.YtadhdjldcpkfiaaGreatDoorT8
namespace Go.Proofs.YtadhdjldcpkfiaaGreatDoor
set_option linter.unusedVariables false
set_option linter.unusedSimpArgs false
open Go.RowKit
set_option maxRecDepth 100000
set_option maxHeartbeats 1600000

def run17 : GM (Int × Int) := tiTurn >>= fun _ => tiBegin 1 >>= fun _ => timesL taStep 1000 0 >>= fun a => tiBegin 2 >>= fun _ => timesL flStep 1000 0 >>= fun n => pure (a, n)
theorem run17_c {A : GA} {S : GS} {w : World} (H : Held A S w) {a n : Int} {T : GS} (ha : a < 1000) (hn : n < 1000) (e : run17 S = ((a, n), T)) :
    Calls Tryz.prog 120 #[.pointer (some ⟨A.g, 0, none⟩)] w (Did A w (.int .i64 n) T) := by
  unfold run17 at e
  replace e := GM.bind_eq e; obtain ⟨_, S1, e1, e⟩ := e
  replace e := GM.bind_eq e; obtain ⟨o, S2, e2, e⟩ := e
  replace e := GM.bind_eq e; obtain ⟨a', S3, e3, e⟩ := e
  replace e := GM.bind_eq e; obtain ⟨q, S4, e4, e⟩ := e
  replace e := GM.bind_eq e; obtain ⟨n', S5, e5, e⟩ := e
  obtain ⟨hv, rfl⟩ := GM.pure_eq e
  obtain ⟨rfl, rfl⟩ := Prod.mk.inj hv
  clear hv e
  have E1 := Hd.mk e1
  have E2 := Hd.mk e2
  have E3 := Hd.mk e3
  have E4 := Hd.mk e4
  have E5 := Hd.mk e5
  clear e1 e2 e3 e4 e5
  have HA := Hd.mk ha
  have HN := Hd.mk hn
  clear ha hn
  go_enter Tryz.func120, Tryz.ntmps120
  go_wp2_with fail
  refine (tiTurn_c H E1.out).mono ?_
  rintro _ w1 ⟨rfl, H1, K1⟩
  go_wp2_with fail
  refine (tiBegin_c H1 E2.out).mono ?_
  rintro _ w2 ⟨rfl, H2, K2⟩
  have K := K1.trans K2
  cases o
  all_goals
    go_wp2_with fail
    go_loopg [] 1000 (fun g wr => ∃ j : Nat, g + j = 1000 ∧ ∃ U, Held A U wr ∧ timesL taStep g j U = (a', S3) ∧ Stays A.foot w wr)
    case atStart => exact ⟨0, rfl, S2, H2, E3.out, K⟩
    case round =>
      obtain ⟨j, hg, U, HU, hU, KU⟩ := hrel
      cases gk with
      | zero =>
        have h3 : (j : Int) = a' := (GM.pure_eq hU).1
        have := HA.out
        exfalso; omega
      | succ m =>
        have HG := Hd.mk hg
        clear hg
        obtain ⟨b, V, h1, h2⟩ := GM.bind_eq hU
        have H1' := Hd.mk h1
        clear hU h1
        cases b with
        | true =>
          rw [if_pos rfl] at h2
          have H2' := Hd.mk h2
          clear h2
          go_wp2_with fail
          refine (taStep_c HU H1'.out).mono ?_
          rintro _ w3 ⟨rfl, H3, K3⟩
          go_wp2_with fail
          go_roundg m
          case measure => omega
          case rel => exact ⟨j + 1, by have := HG.out; omega, V, H3, H2'.out, KU.trans K3⟩
        | false =>
          rw [if_neg (by decide)] at h2
          obtain ⟨-, rfl⟩ : (j : Int) = a' ∧ V = S3 := GM.pure_eq h2
          clear h2
          go_wp2_with fail
          refine (taStep_c HU H1'.out).mono ?_
          rintro _ w3 ⟨rfl, H3, K3⟩
          go_wp2_with fail
          refine (tiBegin_c H3 E4.out).mono ?_
          rintro _ w4 ⟨rfl, H4, K4⟩
          have KK := (KU.trans K3).trans K4
          clear KU K3 K4 K K1 K2
          cases q
          all_goals
            go_wp2_with fail
            go_loopg [3] 1000 (fun g s wr => ∃ j : Nat, g + j = 1000 ∧ s = .int .i64 j ∧ ∃ U, Held A U wr ∧ timesL flStep g j U = (n', S5) ∧ Stays A.foot w wr)
            case atStart => exact ⟨0, rfl, rfl, S4, H4, E5.out, KK⟩
            case round =>
              obtain ⟨i, hg, rfl, U2, HU2, hU2, KU2⟩ := hrel
              cases gk with
              | zero =>
                have h3 : (i : Int) = n' := (GM.pure_eq hU2).1
                have := HN.out
                exfalso; omega
              | succ m2 =>
                have HG2 := Hd.mk hg
                clear hg
                obtain ⟨b2, V2, h1, h2⟩ := GM.bind_eq hU2
                have HH1 := Hd.mk h1
                clear hU2 h1
                cases b2 with
                | true =>
                  rw [if_pos rfl] at h2
                  have HH2 := Hd.mk h2
                  clear h2
                  have hi : i ≤ 1000 := by have := HG2.out; omega
                  go_wp2_with fail
                  refine (flStep_c HU2 HH1.out).mono ?_
                  rintro _ w5 ⟨rfl, H5, K5⟩
                  go_wp2_with fail
                  go_roundg m2
                  case measure => omega
                  case rel => exact ⟨i + 1, by have := HG2.out; omega, by go_num, V2, H5, HH2.out, KU2.trans K5⟩
                | false =>
                  rw [if_neg (by decide)] at h2
                  obtain ⟨rfl, rfl⟩ : (i : Int) = n' ∧ V2 = S5 := GM.pure_eq h2
                  clear h2
                  go_wp2_with fail
                  refine (flStep_c HU2 HH1.out).mono ?_
                  rintro _ w5 ⟨rfl, H5, K5⟩
                  go_wp2_with fail
                  go_ret
                  exact ⟨rfl, H5, KU2.trans K5⟩
end Go.Proofs.YtadhdjldcpkfiaaGreatDoor
