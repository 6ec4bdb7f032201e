/- pace.Free, where each Release ends within 1000 steps. -/
import Derived.Test.YtadhdjldcpkfiaaGreatDoorT8
namespace Go.Proofs.YtadhdjldcpkfiaaGreatDoor
set_option linter.unusedVariables false
set_option linter.unusedSimpArgs false
open Go.RowKit
set_option maxRecDepth 100000
set_option maxHeartbeats 1600000

/-- Release, so many times, or till it gives none: how many times. -/
def timesR : Nat → Int → GS → Option (Int × GS)
  | 0, k, S => some (k, S)
  | m + 1, k, S => match gvRel 1000 S with
    | none => none
    | some (b, T) => if b = true then timesR m (k + 1) T else some (k, T)
def addUp (reg k : Int) : GM Int := if k > 0 then Reg reg >>= fun v => SetReg reg ((v + k) % 4294967296) >>= fun _ => pure k else pure k
def paFreeG (n : Int) : GM (Int × Bool) := fun S => match timesR n.toNat 0 S with
  | none => ((0, false), S)
  | some (k, T) => ((k, true), (addUp 21 k T).2)
theorem addUp_1 {reg k : Int} {S : GS} : (addUp reg k S).1 = k := by
  unfold addUp
  split
  · rfl
  · rfl
theorem paFreeT_t {A : GA} {S : GS} {w : World} (H : Held A S w) {reg n v0 kk : Int} {S1 T : GS} (hn : n ≤ 1099511627776) (e1 : timesR n.toNat 0 S = some (kk, S1)) (e : addUp reg kk S1 = (v0, T)) :
    Calls Tryz.prog 130 #[.pointer (some ⟨A.g, 0, none⟩), .int .i64 reg, .int .i64 n, .func (.func 34) #[] #[]] w (Did A w (.int .i64 v0) T) := by
  unfold addUp at e
  have E1 := Hd.mk e1
  have E := Hd.mk e
  clear e e1
  go_enter Tryz.func130, Tryz.ntmps130
  go_wp2_with fail
  go_loopg [9] n.toNat (fun g s wr => ∃ j : Nat, s = .int .i64 j ∧ g = n.toNat - j ∧ j ≤ n.toNat ∧ ∃ U, Held A U wr ∧ timesR (n.toNat - j) j U = some (kk, S1) ∧ Stays A.foot w wr)
  case atStart => exact ⟨0, rfl, rfl, Nat.zero_le _, S, H, E1.out, Stays.refl _ _⟩
  case round =>
    obtain ⟨j, rfl, hg, hj, U, HU, hU, KU⟩ := hrel
    have HG := Hd.mk hg
    clear hg
    have key : ∀ {w2 : World} {U2 : GS}, True := fun {_ _} => trivial
    by_cases hlt : (j : Int) < n
    · obtain ⟨m, hm⟩ : ∃ m, n.toNat - j = m + 1 := ⟨n.toNat - j - 1, by omega⟩
      rw [hm] at hU
      have HM := Hd.mk hm
      clear hm
      obtain ⟨b, V, h1, h2⟩ : ∃ b V, gvRel 1000 U = some (b, V) ∧ (if b = true then timesR m (j + 1) V else some ((j : Int), V)) = some (kk, S1) := by
        unfold timesR at hU
        cases hg : gvRel 1000 U with
        | none => rw [hg] at hU; cases hU
        | some x => rw [hg] at hU; exact ⟨x.1, x.2, rfl, hU⟩
      have H1' := Hd.mk h1
      clear hU h1
      cases b with
      | true =>
        rw [if_pos rfl] at h2
        have H2' := Hd.mk h2
        clear h2
        go_wp2_with fail
        refine (gvRelease_c HU H1'.out).mono ?_
        rintro _ w1 ⟨rfl, H1, K1⟩
        go_wp2_with fail
        go_roundg m
        case measure => have := HG.out; have := HM.out; omega
        case rel => exact ⟨j + 1, by go_num, by have := HM.out; omega, by omega, V, H1, by rw [show n.toNat - (j + 1) = m by have := HM.out; omega]; exact H2'.out, KU.trans K1⟩
      | false =>
        rw [if_neg (by decide)] at h2
        have h3 : (j : Int) = kk ∧ V = S1 := Prod.mk.inj (Option.some.inj h2)
        obtain ⟨rfl, rfl⟩ := h3
        clear h2
        have e := E.out
        by_cases hk : (j : Int) > 0
        · rw [if_pos hk] at e
          replace e := GM.bind_eq e
          obtain ⟨v, S2, e2, e⟩ := e
          replace e := GM.bind_eq e
          obtain ⟨u, S3, e3, e⟩ := e
          obtain ⟨rfl, rfl⟩ := GM.pure_eq e
          have E2 := Hd.mk e2
          have E3 := Hd.mk e3
          clear e e2 e3
          go_wp2_with fail
          refine (gvRelease_c HU H1'.out).mono ?_
          rintro _ w1 ⟨rfl, H1, K1⟩
          go_wp2_with fail
          refine (Reg_c H1 E2.out).mono ?_
          rintro _ w2 ⟨rfl, H2, K2⟩
          obtain ⟨rv0, rv1⟩ := stGet_range H1.ok E2.out
          go_wp2_with fail
          refine (SetReg_c H2 E3.out).mono ?_
          rintro _ w3 ⟨rfl, H3, K3⟩
          go_wp2_with fail
          go_ret
          exact ⟨rfl, H3, ((KU.trans K1).trans K2).trans K3⟩
        · rw [if_neg hk] at e
          obtain ⟨rfl, rfl⟩ := GM.pure_eq e
          clear e
          go_wp2_with fail
          refine (gvRelease_c HU H1'.out).mono ?_
          rintro _ w1 ⟨rfl, H1, K1⟩
          go_wp2_with fail
          go_ret
          exact ⟨rfl, H1, KU.trans K1⟩
    · rw [show n.toNat - j = 0 by omega] at hU
      have h3 : (j : Int) = kk ∧ U = S1 := Prod.mk.inj (Option.some.inj hU)
      obtain ⟨rfl, rfl⟩ := h3
      clear hU
      have e := E.out
      by_cases hk : (j : Int) > 0
      · rw [if_pos hk] at e
        replace e := GM.bind_eq e
        obtain ⟨v, S2, e2, e⟩ := e
        replace e := GM.bind_eq e
        obtain ⟨u, S3, e3, e⟩ := e
        obtain ⟨rfl, rfl⟩ := GM.pure_eq e
        have E2 := Hd.mk e2
        have E3 := Hd.mk e3
        clear e e2 e3
        go_wp2_with fail
        refine (Reg_c HU E2.out).mono ?_
        rintro _ w2 ⟨rfl, H2, K2⟩
        obtain ⟨rv0, rv1⟩ := stGet_range HU.ok E2.out
        go_wp2_with fail
        refine (SetReg_c H2 E3.out).mono ?_
        rintro _ w3 ⟨rfl, H3, K3⟩
        go_wp2_with fail
        go_ret
        exact ⟨rfl, H3, (KU.trans K2).trans K3⟩
      · rw [if_neg hk] at e
        obtain ⟨rfl, rfl⟩ := GM.pure_eq e
        clear e
        go_wp2_with fail
        go_ret
        exact ⟨rfl, HU, KU⟩

theorem paFreeG_c {A : GA} {S : GS} {w : World} (H : Held A S w) {n v0 : Int} {T : GS} (hn : n ≤ 1099511627776) (e : paFreeG n S = ((v0, true), T)) :
    Calls Tryz.prog 56 #[.pointer (some ⟨A.g, 0, none⟩), .int .i64 n] w (Did A w (.int .i64 v0) T) := by
  obtain ⟨kk, S1, h1, h2⟩ : ∃ kk S1, timesR n.toNat 0 S = some (kk, S1) ∧ addUp 21 kk S1 = (v0, T) := by
    unfold paFreeG at e
    cases h : timesR n.toNat 0 S with
    | none => rw [h] at e; cases e
    | some x =>
      rw [h] at e
      obtain ⟨k, U⟩ := x
      simp only [Prod.mk.injEq, and_true] at e
      obtain ⟨rfl, rfl⟩ := e
      exact ⟨k, U, rfl, Prod.ext addUp_1 rfl⟩
  clear e
  go_enter Tryz.func56, Tryz.ntmps56
  go_wp2_with fail
  refine (paFreeT_t H hn h1 h2).mono ?_
  rintro _ w1 ⟨rfl, H1, K1⟩
  go_wp2_with fail
  go_ret
  exact ⟨rfl, H1, K1⟩
end Go.Proofs.YtadhdjldcpkfiaaGreatDoor
