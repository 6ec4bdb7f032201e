/- Release, and what is done so many times. Nothing is asked but that the ground lies there; of Release, that it ends. -/
import Derived.Test.YtadhdjldcpkfiaaGreatDoorT7
import Derived.Deep.LoopGhost
namespace Go.Proofs.YtadhdjldcpkfiaaGreatDoor
set_option linter.unusedVariables false
set_option linter.unusedSimpArgs false
open Go.RowKit
set_option maxRecDepth 100000
set_option maxHeartbeats 1600000

/-- Steps of the grave till one gave a block, with so many steps at most. -/
def gvRel : Nat → GS → Option (Bool × GS)
  | 0, _ => none
  | k + 1, S => match gvWork S with
    | ((gave, ok), T) => if ok = false then some (gave, T) else if gave = true then some (gave, T) else gvRel k T
theorem gvRelease_c {A : GA} {S : GS} {w : World} (H : Held A S w) {k : Nat} {b : Bool} {T : GS} (e : gvRel k S = some (b, T)) :
    Calls Tryz.prog 34 #[.pointer (some ⟨A.g, 0, none⟩)] w (Did A w (.bool b) T) := by
  have E := Hd.mk e
  clear e
  go_enter Tryz.func34, Tryz.ntmps34
  go_wp2_with fail
  go_loopg [2] k (fun g s wr => s = .bool false ∧ ∃ U, Held A U wr ∧ gvRel g U = some (b, T) ∧ Stays A.foot w wr)
  case atStart => exact ⟨rfl, S, H, E.out, Stays.refl _ _⟩
  case round =>
    obtain ⟨rfl, U, HU, hU, KU⟩ := hrel
    cases gk with
    | zero => cases hU
    | succ m =>
      obtain ⟨gave, ok, V, hw⟩ : ∃ gave ok V, gvWork U = ((gave, ok), V) := ⟨_, _, _, rfl⟩
      have hU' : (if ok = false then some (gave, V) else if gave = true then some (gave, V) else gvRel m V) = some (b, T) := by
        have h := hU
        unfold gvRel at h
        rw [hw] at h
        exact h
      have HW := Hd.mk hw
      clear hU hw
      cases ok with
      | false =>
        rw [if_pos rfl] at hU'
        cases hU'
        go_wp2_with fail
        refine (gvWork_c HU HW.out).mono ?_
        rintro _ w1 ⟨rfl, H1, K1⟩
        go_wp2_with fail
        go_ret
        exact ⟨rfl, H1, KU.trans K1⟩
      | true =>
        rw [if_neg (by decide)] at hU'
        cases gave with
        | true =>
          rw [if_pos rfl] at hU'
          cases hU'
          go_wp2_with fail
          refine (gvWork_c HU HW.out).mono ?_
          rintro _ w1 ⟨rfl, H1, K1⟩
          go_wp2_with fail
          go_ret
          exact ⟨rfl, H1, KU.trans K1⟩
        | false =>
          rw [if_neg (by decide)] at hU'
          have HH := Hd.mk hU'
          clear hU'
          go_wp2_with fail
          refine (gvWork_c HU HW.out).mono ?_
          rintro _ w1 ⟨rfl, H1, K1⟩
          go_wp2_with fail
          go_roundg m
          case measure => omega
          case rel => exact ⟨rfl, V, H1, HH.out, KU.trans K1⟩

/-- f, so many times, or till it can't be done: how many times. -/
def timesL (f : GM Bool) : Nat → Int → GM Int
  | 0, k => pure k
  | m + 1, k => f >>= fun b => if b = true then timesL f m (k + 1) else pure k
def paTimes (f : GM Bool) (reg n : Int) : GM Int := timesL f n.toNat 0 >>= fun k => if k > 0 then Reg reg >>= fun v => SetReg reg ((v + k) % 4294967296) >>= fun _ => pure k else pure k

theorem paPayT_t {A : GA} {S : GS} {w : World} (H : Held A S w) {reg n v0 : Int} {T : GS} (hn : n ≤ 1099511627776) (e : paTimes rdStep reg n S = (v0, T)) :
    Calls Tryz.prog 130 #[.pointer (some ⟨A.g, 0, none⟩), .int .i64 reg, .int .i64 n, .func (.func 43) #[] #[]] w (Did A w (.int .i64 v0) T) := by
  unfold paTimes at e
  replace e := GM.bind_eq e
  obtain ⟨kk, S1, e1, e⟩ := e
  have E1 := Hd.mk e1
  have E := Hd.mk e
  clear e e1
  go_enter Tryz.func130, Tryz.ntmps130
  go_wp2_with fail
  go_loopg [9] n.toNat (fun g s wr => ∃ j : Nat, s = .int .i64 j ∧ g = n.toNat - j ∧ j ≤ n.toNat ∧ ∃ U, Held A U wr ∧ timesL rdStep (n.toNat - j) j U = (kk, S1) ∧ Stays A.foot w wr)
  case atStart => exact ⟨0, rfl, rfl, Nat.zero_le _, S, H, E1.out, Stays.refl _ _⟩
  case round =>
    obtain ⟨j, rfl, hg, hj, U, HU, hU, KU⟩ := hrel
    have HG := Hd.mk hg
    clear hg
    have key : ∀ {w2 : World} {U2 : GS}, True := fun {_ _} => trivial
    by_cases hlt : (j : Int) < n
    · obtain ⟨m, hm⟩ : ∃ m, n.toNat - j = m + 1 := ⟨n.toNat - j - 1, by omega⟩
      rw [hm] at hU
      have HM := Hd.mk hm
      clear hm
      obtain ⟨b, V, h1, h2⟩ := GM.bind_eq hU
      have H1' := Hd.mk h1
      clear hU h1
      cases b with
      | true =>
        rw [if_pos rfl] at h2
        have H2' := Hd.mk h2
        clear h2
        go_wp2_with fail
        refine (rdStep_c HU H1'.out).mono ?_
        rintro _ w1 ⟨rfl, H1, K1⟩
        go_wp2_with fail
        go_roundg m
        case measure => have := HG.out; have := HM.out; omega
        case rel => exact ⟨j + 1, by go_num, by have := HM.out; omega, by omega, V, H1, by rw [show n.toNat - (j + 1) = m by have := HM.out; omega]; exact H2'.out, KU.trans K1⟩
      | false =>
        rw [if_neg (by decide)] at h2
        have h3 : (j : Int) = kk ∧ V = S1 := GM.pure_eq h2
        obtain ⟨rfl, rfl⟩ := h3
        clear h2
        have e := E.out
        by_cases hk : (j : Int) > 0
        · rw [if_pos hk] at e
          replace e := GM.bind_eq e
          obtain ⟨v, S2, e2, e⟩ := e
          replace e := GM.bind_eq e
          obtain ⟨u, S3, e3, e⟩ := e
          obtain ⟨rfl, rfl⟩ := GM.pure_eq e
          have E2 := Hd.mk e2
          have E3 := Hd.mk e3
          clear e e2 e3
          go_wp2_with fail
          refine (rdStep_c HU H1'.out).mono ?_
          rintro _ w1 ⟨rfl, H1, K1⟩
          go_wp2_with fail
          refine (Reg_c H1 E2.out).mono ?_
          rintro _ w2 ⟨rfl, H2, K2⟩
          obtain ⟨rv0, rv1⟩ := stGet_range H1.ok E2.out
          go_wp2_with fail
          refine (SetReg_c H2 E3.out).mono ?_
          rintro _ w3 ⟨rfl, H3, K3⟩
          go_wp2_with fail
          go_ret
          exact ⟨rfl, H3, ((KU.trans K1).trans K2).trans K3⟩
        · rw [if_neg hk] at e
          obtain ⟨rfl, rfl⟩ := GM.pure_eq e
          clear e
          go_wp2_with fail
          refine (rdStep_c HU H1'.out).mono ?_
          rintro _ w1 ⟨rfl, H1, K1⟩
          go_wp2_with fail
          go_ret
          exact ⟨rfl, H1, KU.trans K1⟩
    · rw [show n.toNat - j = 0 by omega] at hU
      have h3 : (j : Int) = kk ∧ U = S1 := GM.pure_eq hU
      obtain ⟨rfl, rfl⟩ := h3
      clear hU
      have e := E.out
      by_cases hk : (j : Int) > 0
      · rw [if_pos hk] at e
        replace e := GM.bind_eq e
        obtain ⟨v, S2, e2, e⟩ := e
        replace e := GM.bind_eq e
        obtain ⟨u, S3, e3, e⟩ := e
        obtain ⟨rfl, rfl⟩ := GM.pure_eq e
        have E2 := Hd.mk e2
        have E3 := Hd.mk e3
        clear e e2 e3
        go_wp2_with fail
        refine (Reg_c HU E2.out).mono ?_
        rintro _ w2 ⟨rfl, H2, K2⟩
        obtain ⟨rv0, rv1⟩ := stGet_range HU.ok E2.out
        go_wp2_with fail
        refine (SetReg_c H2 E3.out).mono ?_
        rintro _ w3 ⟨rfl, H3, K3⟩
        go_wp2_with fail
        go_ret
        exact ⟨rfl, H3, (KU.trans K2).trans K3⟩
      · rw [if_neg hk] at e
        obtain ⟨rfl, rfl⟩ := GM.pure_eq e
        clear e
        go_wp2_with fail
        go_ret
        exact ⟨rfl, HU, KU⟩

def paPay (n : Int) : GM Int := paTimes rdStep 19 n
theorem paPay_c {A : GA} {S : GS} {w : World} (H : Held A S w) {n v0 : Int} {T : GS} (hn : n ≤ 1099511627776) (e : paPay n S = (v0, T)) :
    Calls Tryz.prog 54 #[.pointer (some ⟨A.g, 0, none⟩), .int .i64 n] w (Did A w (.int .i64 v0) T) := by
  go_enter Tryz.func54, Tryz.ntmps54
  go_wp2_with fail
  refine (paPayT_t H hn e).mono ?_
  rintro _ w1 ⟨rfl, H1, K1⟩
  go_wp2_with fail
  go_ret
  exact ⟨rfl, H1, K1⟩

theorem paDrainT_t {A : GA} {S : GS} {w : World} (H : Held A S w) {reg n v0 : Int} {T : GS} (hn : n ≤ 1099511627776) (e : paTimes gvStep reg n S = (v0, T)) :
    Calls Tryz.prog 130 #[.pointer (some ⟨A.g, 0, none⟩), .int .i64 reg, .int .i64 n, .func (.func 33) #[] #[]] w (Did A w (.int .i64 v0) T) := by
  unfold paTimes at e
  replace e := GM.bind_eq e
  obtain ⟨kk, S1, e1, e⟩ := e
  have E1 := Hd.mk e1
  have E := Hd.mk e
  clear e e1
  go_enter Tryz.func130, Tryz.ntmps130
  go_wp2_with fail
  go_loopg [9] n.toNat (fun g s wr => ∃ j : Nat, s = .int .i64 j ∧ g = n.toNat - j ∧ j ≤ n.toNat ∧ ∃ U, Held A U wr ∧ timesL gvStep (n.toNat - j) j U = (kk, S1) ∧ Stays A.foot w wr)
  case atStart => exact ⟨0, rfl, rfl, Nat.zero_le _, S, H, E1.out, Stays.refl _ _⟩
  case round =>
    obtain ⟨j, rfl, hg, hj, U, HU, hU, KU⟩ := hrel
    have HG := Hd.mk hg
    clear hg
    have key : ∀ {w2 : World} {U2 : GS}, True := fun {_ _} => trivial
    by_cases hlt : (j : Int) < n
    · obtain ⟨m, hm⟩ : ∃ m, n.toNat - j = m + 1 := ⟨n.toNat - j - 1, by omega⟩
      rw [hm] at hU
      have HM := Hd.mk hm
      clear hm
      obtain ⟨b, V, h1, h2⟩ := GM.bind_eq hU
      have H1' := Hd.mk h1
      clear hU h1
      cases b with
      | true =>
        rw [if_pos rfl] at h2
        have H2' := Hd.mk h2
        clear h2
        go_wp2_with fail
        refine (gvStep_c HU H1'.out).mono ?_
        rintro _ w1 ⟨rfl, H1, K1⟩
        go_wp2_with fail
        go_roundg m
        case measure => have := HG.out; have := HM.out; omega
        case rel => exact ⟨j + 1, by go_num, by have := HM.out; omega, by omega, V, H1, by rw [show n.toNat - (j + 1) = m by have := HM.out; omega]; exact H2'.out, KU.trans K1⟩
      | false =>
        rw [if_neg (by decide)] at h2
        have h3 : (j : Int) = kk ∧ V = S1 := GM.pure_eq h2
        obtain ⟨rfl, rfl⟩ := h3
        clear h2
        have e := E.out
        by_cases hk : (j : Int) > 0
        · rw [if_pos hk] at e
          replace e := GM.bind_eq e
          obtain ⟨v, S2, e2, e⟩ := e
          replace e := GM.bind_eq e
          obtain ⟨u, S3, e3, e⟩ := e
          obtain ⟨rfl, rfl⟩ := GM.pure_eq e
          have E2 := Hd.mk e2
          have E3 := Hd.mk e3
          clear e e2 e3
          go_wp2_with fail
          refine (gvStep_c HU H1'.out).mono ?_
          rintro _ w1 ⟨rfl, H1, K1⟩
          go_wp2_with fail
          refine (Reg_c H1 E2.out).mono ?_
          rintro _ w2 ⟨rfl, H2, K2⟩
          obtain ⟨rv0, rv1⟩ := stGet_range H1.ok E2.out
          go_wp2_with fail
          refine (SetReg_c H2 E3.out).mono ?_
          rintro _ w3 ⟨rfl, H3, K3⟩
          go_wp2_with fail
          go_ret
          exact ⟨rfl, H3, ((KU.trans K1).trans K2).trans K3⟩
        · rw [if_neg hk] at e
          obtain ⟨rfl, rfl⟩ := GM.pure_eq e
          clear e
          go_wp2_with fail
          refine (gvStep_c HU H1'.out).mono ?_
          rintro _ w1 ⟨rfl, H1, K1⟩
          go_wp2_with fail
          go_ret
          exact ⟨rfl, H1, KU.trans K1⟩
    · rw [show n.toNat - j = 0 by omega] at hU
      have h3 : (j : Int) = kk ∧ U = S1 := GM.pure_eq hU
      obtain ⟨rfl, rfl⟩ := h3
      clear hU
      have e := E.out
      by_cases hk : (j : Int) > 0
      · rw [if_pos hk] at e
        replace e := GM.bind_eq e
        obtain ⟨v, S2, e2, e⟩ := e
        replace e := GM.bind_eq e
        obtain ⟨u, S3, e3, e⟩ := e
        obtain ⟨rfl, rfl⟩ := GM.pure_eq e
        have E2 := Hd.mk e2
        have E3 := Hd.mk e3
        clear e e2 e3
        go_wp2_with fail
        refine (Reg_c HU E2.out).mono ?_
        rintro _ w2 ⟨rfl, H2, K2⟩
        obtain ⟨rv0, rv1⟩ := stGet_range HU.ok E2.out
        go_wp2_with fail
        refine (SetReg_c H2 E3.out).mono ?_
        rintro _ w3 ⟨rfl, H3, K3⟩
        go_wp2_with fail
        go_ret
        exact ⟨rfl, H3, (KU.trans K2).trans K3⟩
      · rw [if_neg hk] at e
        obtain ⟨rfl, rfl⟩ := GM.pure_eq e
        clear e
        go_wp2_with fail
        go_ret
        exact ⟨rfl, HU, KU⟩

def paDrain (n : Int) : GM Int := paTimes gvStep 20 n
theorem paDrain_c {A : GA} {S : GS} {w : World} (H : Held A S w) {n v0 : Int} {T : GS} (hn : n ≤ 1099511627776) (e : paDrain n S = (v0, T)) :
    Calls Tryz.prog 55 #[.pointer (some ⟨A.g, 0, none⟩), .int .i64 n] w (Did A w (.int .i64 v0) T) := by
  go_enter Tryz.func55, Tryz.ntmps55
  go_wp2_with fail
  refine (paDrainT_t H hn e).mono ?_
  rintro _ w1 ⟨rfl, H1, K1⟩
  go_wp2_with fail
  go_ret
  exact ⟨rfl, H1, K1⟩

def paTick : GM Unit := getS >>= fun c => paDrain c.k >>= fun _ => paPay c.k >>= fun _ => pure ()
theorem paTick_c {A : GA} {S : GS} {w : World} (H : Held A S w) {T : GS} (e : paTick S = ((), T)) :
    Calls Tryz.prog 52 #[.pointer (some ⟨A.g, 0, none⟩)] w (Did A w (.tuple #[]) T) := by
  unfold paTick at e
  have hk := H.ok.k2
  replace e := GM.bind_eq e
  obtain ⟨c, S0, e0, e⟩ := e
  obtain ⟨rfl, rfl⟩ := getS_eq e0
  clear e0
  replace e := GM.bind_eq e
  obtain ⟨u1, S1, e1, e⟩ := e
  replace e := GM.bind_eq e
  obtain ⟨u2, S2, e2, e⟩ := e
  obtain ⟨_, rfl⟩ := GM.pure_eq e
  have E1 := Hd.mk e1
  have E2 := Hd.mk e2
  clear e e1 e2
  go_enter Tryz.func52, Tryz.ntmps52
  go_wp2_with fail
  refine (conf_c H).mono ?_
  rintro _ w1 ⟨rfl, H1, K1⟩
  go_wp2_with fail
  refine (paDrain_c H1 (by omega) E1.out).mono ?_
  rintro _ w2 ⟨rfl, H2, K2⟩
  go_wp2_with fail
  refine (paPay_c H2 (by omega) E2.out).mono ?_
  rintro _ w3 ⟨rfl, H3, K3⟩
  go_wp2_with fail
  go_end0
  exact ⟨rfl, H3, (K1.trans K2).trans K3⟩
end Go.Proofs.YtadhdjldcpkfiaaGreatDoor
