/- Release, and what is done so many times. Nothing is asked but that the ground lies there; of Release, that it ends. -/
/- obj.Make and link.Born. Nothing is asked but that the ground lies there. -/
/- What link.Born does. Nothing is asked but that the ground lies there. -/
import Derived.Test.YtadhdjldcpkfiaaGreatDoorT7
import Derived.Deep.LoopGhost
namespace Go.Proofs.YtadhdjldcpkfiaaGreatDoor
set_option linter.unusedVariables false
set_option linter.unusedSimpArgs false
open Go.RowKit
set_option maxRecDepth 100000
set_option maxHeartbeats 1600000

/-- Steps of the grave till one gave a block, with so many steps at most. -/
def gvRel : Nat → GS → Option (Bool × GS)
  | 0, _ => none
  | k + 1, S => match gvWork S with
    | ((gave, ok), T) => if ok = false then some (gave, T) else if gave = true then some (gave, T) else gvRel k T
theorem gvRelease_c {A : GA} {S : GS} {w : World} (H : Held A S w) {k : Nat} {b : Bool} {T : GS} (e : gvRel k S = some (b, T)) :
    Calls Tryz.prog 34 #[.pointer (some ⟨A.g, 0, none⟩)] w (Did A w (.bool b) T) := by
  have E := Hd.mk e
  clear e
  go_enter Tryz.func34, Tryz.ntmps34
  go_wp2_with fail
  go_loopg [2] k (fun g s wr => s = .bool false ∧ ∃ U, Held A U wr ∧ gvRel g U = some (b, T) ∧ Stays A.foot w wr)
  case atStart => exact ⟨rfl, S, H, E.out, Stays.refl _ _⟩
  case round =>
    obtain ⟨rfl, U, HU, hU, KU⟩ := hrel
    cases gk with
    | zero => cases hU
    | succ m =>
      obtain ⟨gave, ok, V, hw⟩ : ∃ gave ok V, gvWork U = ((gave, ok), V) := ⟨_, _, _, rfl⟩
      have hU' : (if ok = false then some (gave, V) else if gave = true then some (gave, V) else gvRel m V) = some (b, T) := by
        have h := hU
        unfold gvRel at h
        rw [hw] at h
        exact h
      have HW := Hd.mk hw
      clear hU hw
      cases ok with
      | false =>
        rw [if_pos rfl] at hU'
        cases hU'
        go_wp2_with fail
        refine (gvWork_c HU HW.out).mono ?_
        rintro _ w1 ⟨rfl, H1, K1⟩
        go_wp2_with fail
        go_ret
        exact ⟨rfl, H1, KU.trans K1⟩
      | true =>
        rw [if_neg (by decide)] at hU'
        cases gave with
        | true =>
          rw [if_pos rfl] at hU'
          cases hU'
          go_wp2_with fail
          refine (gvWork_c HU HW.out).mono ?_
          rintro _ w1 ⟨rfl, H1, K1⟩
          go_wp2_with fail
          go_ret
          exact ⟨rfl, H1, KU.trans K1⟩
        | false =>
          rw [if_neg (by decide)] at hU'
          have HH := Hd.mk hU'
          clear hU'
          go_wp2_with fail
          refine (gvWork_c HU HW.out).mono ?_
          rintro _ w1 ⟨rfl, H1, K1⟩
          go_wp2_with fail
          go_roundg m
          case measure => omega
          case rel => exact ⟨rfl, V, H1, HH.out, KU.trans K1⟩

/-- f, so many times, or till it can't be done: how many times. -/
def timesL (f : GM Bool) : Nat → Int → GM Int
  | 0, k => pure k
  | m + 1, k => f >>= fun b => if b = true then timesL f m (k + 1) else pure k
def paTimes (f : GM Bool) (reg n : Int) : GM Int := timesL f n.toNat 0 >>= fun k => if k > 0 then Reg reg >>= fun v => SetReg reg ((v + k) % 4294967296) >>= fun _ => pure k else pure k

theorem paPayT_t {A : GA} {S : GS} {w : World} (H : Held A S w) {reg n v0 : Int} {T : GS} (hn : n ≤ 1099511627776) (e : paTimes rdStep reg n S = (v0, T)) :
    Calls Tryz.prog 130 #[.pointer (some ⟨A.g, 0, none⟩), .int .i64 reg, .int .i64 n, .func (.func 43) #[] #[]] w (Did A w (.int .i64 v0) T) := by
  unfold paTimes at e
  replace e := GM.bind_eq e
  obtain ⟨kk, S1, e1, e⟩ := e
  have E1 := Hd.mk e1
  have E := Hd.mk e
  clear e e1
  go_enter Tryz.func130, Tryz.ntmps130
  go_wp2_with fail
  go_loopg [9] n.toNat (fun g s wr => ∃ j : Nat, s = .int .i64 j ∧ g = n.toNat - j ∧ j ≤ n.toNat ∧ ∃ U, Held A U wr ∧ timesL rdStep (n.toNat - j) j U = (kk, S1) ∧ Stays A.foot w wr)
  case atStart => exact ⟨0, rfl, rfl, Nat.zero_le _, S, H, E1.out, Stays.refl _ _⟩
  case round =>
    obtain ⟨j, rfl, hg, hj, U, HU, hU, KU⟩ := hrel
    have HG := Hd.mk hg
    clear hg
    have key : ∀ {w2 : World} {U2 : GS}, True := fun {_ _} => trivial
    by_cases hlt : (j : Int) < n
    · obtain ⟨m, hm⟩ : ∃ m, n.toNat - j = m + 1 := ⟨n.toNat - j - 1, by omega⟩
      rw [hm] at hU
      have HM := Hd.mk hm
      clear hm
      obtain ⟨b, V, h1, h2⟩ := GM.bind_eq hU
      have H1' := Hd.mk h1
      clear hU h1
      cases b with
      | true =>
        rw [if_pos rfl] at h2
        have H2' := Hd.mk h2
        clear h2
        go_wp2_with fail
        refine (rdStep_c HU H1'.out).mono ?_
        rintro _ w1 ⟨rfl, H1, K1⟩
        go_wp2_with fail
        go_roundg m
        case measure => have := HG.out; have := HM.out; omega
        case rel => exact ⟨j + 1, by go_num, by have := HM.out; omega, by omega, V, H1, by rw [show n.toNat - (j + 1) = m by have := HM.out; omega]; exact H2'.out, KU.trans K1⟩
      | false =>
        rw [if_neg (by decide)] at h2
        have h3 : (j : Int) = kk ∧ V = S1 := GM.pure_eq h2
        obtain ⟨rfl, rfl⟩ := h3
        clear h2
        have e := E.out
        by_cases hk : (j : Int) > 0
        · rw [if_pos hk] at e
          replace e := GM.bind_eq e
          obtain ⟨v, S2, e2, e⟩ := e
          replace e := GM.bind_eq e
          obtain ⟨u, S3, e3, e⟩ := e
          obtain ⟨rfl, rfl⟩ := GM.pure_eq e
          have E2 := Hd.mk e2
          have E3 := Hd.mk e3
          clear e e2 e3
          go_wp2_with fail
          refine (rdStep_c HU H1'.out).mono ?_
          rintro _ w1 ⟨rfl, H1, K1⟩
          go_wp2_with fail
          refine (Reg_c H1 E2.out).mono ?_
          rintro _ w2 ⟨rfl, H2, K2⟩
          obtain ⟨rv0, rv1⟩ := stGet_range H1.ok E2.out
          go_wp2_with fail
          refine (SetReg_c H2 E3.out).mono ?_
          rintro _ w3 ⟨rfl, H3, K3⟩
          go_wp2_with fail
          go_ret
          exact ⟨rfl, H3, ((KU.trans K1).trans K2).trans K3⟩
        · rw [if_neg hk] at e
          obtain ⟨rfl, rfl⟩ := GM.pure_eq e
          clear e
          go_wp2_with fail
          refine (rdStep_c HU H1'.out).mono ?_
          rintro _ w1 ⟨rfl, H1, K1⟩
          go_wp2_with fail
          go_ret
          exact ⟨rfl, H1, KU.trans K1⟩
    · rw [show n.toNat - j = 0 by omega] at hU
      have h3 : (j : Int) = kk ∧ U = S1 := GM.pure_eq hU
      obtain ⟨rfl, rfl⟩ := h3
      clear hU
      have e := E.out
      by_cases hk : (j : Int) > 0
      · rw [if_pos hk] at e
        replace e := GM.bind_eq e
        obtain ⟨v, S2, e2, e⟩ := e
        replace e := GM.bind_eq e
        obtain ⟨u, S3, e3, e⟩ := e
        obtain ⟨rfl, rfl⟩ := GM.pure_eq e
        have E2 := Hd.mk e2
        have E3 := Hd.mk e3
        clear e e2 e3
        go_wp2_with fail
        refine (Reg_c HU E2.out).mono ?_
        rintro _ w2 ⟨rfl, H2, K2⟩
        obtain ⟨rv0, rv1⟩ := stGet_range HU.ok E2.out
        go_wp2_with fail
        refine (SetReg_c H2 E3.out).mono ?_
        rintro _ w3 ⟨rfl, H3, K3⟩
        go_wp2_with fail
        go_ret
        exact ⟨rfl, H3, (KU.trans K2).trans K3⟩
      · rw [if_neg hk] at e
        obtain ⟨rfl, rfl⟩ := GM.pure_eq e
        clear e
        go_wp2_with fail
        go_ret
        exact ⟨rfl, HU, KU⟩

def paPay (n : Int) : GM Int := paTimes rdStep 19 n
theorem paPay_c {A : GA} {S : GS} {w : World} (H : Held A S w) {n v0 : Int} {T : GS} (hn : n ≤ 1099511627776) (e : paPay n S = (v0, T)) :
    Calls Tryz.prog 54 #[.pointer (some ⟨A.g, 0, none⟩), .int .i64 n] w (Did A w (.int .i64 v0) T) := by
  go_enter Tryz.func54, Tryz.ntmps54
  go_wp2_with fail
  refine (paPayT_t H hn e).mono ?_
  rintro _ w1 ⟨rfl, H1, K1⟩
  go_wp2_with fail
  go_ret
  exact ⟨rfl, H1, K1⟩

theorem paDrainT_t {A : GA} {S : GS} {w : World} (H : Held A S w) {reg n v0 : Int} {T : GS} (hn : n ≤ 1099511627776) (e : paTimes gvStep reg n S = (v0, T)) :
    Calls Tryz.prog 130 #[.pointer (some ⟨A.g, 0, none⟩), .int .i64 reg, .int .i64 n, .func (.func 33) #[] #[]] w (Did A w (.int .i64 v0) T) := by
  unfold paTimes at e
  replace e := GM.bind_eq e
  obtain ⟨kk, S1, e1, e⟩ := e
  have E1 := Hd.mk e1
  have E := Hd.mk e
  clear e e1
  go_enter Tryz.func130, Tryz.ntmps130
  go_wp2_with fail
  go_loopg [9] n.toNat (fun g s wr => ∃ j : Nat, s = .int .i64 j ∧ g = n.toNat - j ∧ j ≤ n.toNat ∧ ∃ U, Held A U wr ∧ timesL gvStep (n.toNat - j) j U = (kk, S1) ∧ Stays A.foot w wr)
  case atStart => exact ⟨0, rfl, rfl, Nat.zero_le _, S, H, E1.out, Stays.refl _ _⟩
  case round =>
    obtain ⟨j, rfl, hg, hj, U, HU, hU, KU⟩ := hrel
    have HG := Hd.mk hg
    clear hg
    have key : ∀ {w2 : World} {U2 : GS}, True := fun {_ _} => trivial
    by_cases hlt : (j : Int) < n
    · obtain ⟨m, hm⟩ : ∃ m, n.toNat - j = m + 1 := ⟨n.toNat - j - 1, by omega⟩
      rw [hm] at hU
      have HM := Hd.mk hm
      clear hm
      obtain ⟨b, V, h1, h2⟩ := GM.bind_eq hU
      have H1' := Hd.mk h1
      clear hU h1
      cases b with
      | true =>
        rw [if_pos rfl] at h2
        have H2' := Hd.mk h2
        clear h2
        go_wp2_with fail
        refine (gvStep_c HU H1'.out).mono ?_
        rintro _ w1 ⟨rfl, H1, K1⟩
        go_wp2_with fail
        go_roundg m
        case measure => have := HG.out; have := HM.out; omega
        case rel => exact ⟨j + 1, by go_num, by have := HM.out; omega, by omega, V, H1, by rw [show n.toNat - (j + 1) = m by have := HM.out; omega]; exact H2'.out, KU.trans K1⟩
      | false =>
        rw [if_neg (by decide)] at h2
        have h3 : (j : Int) = kk ∧ V = S1 := GM.pure_eq h2
        obtain ⟨rfl, rfl⟩ := h3
        clear h2
        have e := E.out
        by_cases hk : (j : Int) > 0
        · rw [if_pos hk] at e
          replace e := GM.bind_eq e
          obtain ⟨v, S2, e2, e⟩ := e
          replace e := GM.bind_eq e
          obtain ⟨u, S3, e3, e⟩ := e
          obtain ⟨rfl, rfl⟩ := GM.pure_eq e
          have E2 := Hd.mk e2
          have E3 := Hd.mk e3
          clear e e2 e3
          go_wp2_with fail
          refine (gvStep_c HU H1'.out).mono ?_
          rintro _ w1 ⟨rfl, H1, K1⟩
          go_wp2_with fail
          refine (Reg_c H1 E2.out).mono ?_
          rintro _ w2 ⟨rfl, H2, K2⟩
          obtain ⟨rv0, rv1⟩ := stGet_range H1.ok E2.out
          go_wp2_with fail
          refine (SetReg_c H2 E3.out).mono ?_
          rintro _ w3 ⟨rfl, H3, K3⟩
          go_wp2_with fail
          go_ret
          exact ⟨rfl, H3, ((KU.trans K1).trans K2).trans K3⟩
        · rw [if_neg hk] at e
          obtain ⟨rfl, rfl⟩ := GM.pure_eq e
          clear e
          go_wp2_with fail
          refine (gvStep_c HU H1'.out).mono ?_
          rintro _ w1 ⟨rfl, H1, K1⟩
          go_wp2_with fail
          go_ret
          exact ⟨rfl, H1, KU.trans K1⟩
    · rw [show n.toNat - j = 0 by omega] at hU
      have h3 : (j : Int) = kk ∧ U = S1 := GM.pure_eq hU
      obtain ⟨rfl, rfl⟩ := h3
      clear hU
      have e := E.out
      by_cases hk : (j : Int) > 0
      · rw [if_pos hk] at e
        replace e := GM.bind_eq e
        obtain ⟨v, S2, e2, e⟩ := e
        replace e := GM.bind_eq e
        obtain ⟨u, S3, e3, e⟩ := e
        obtain ⟨rfl, rfl⟩ := GM.pure_eq e
        have E2 := Hd.mk e2
        have E3 := Hd.mk e3
        clear e e2 e3
        go_wp2_with fail
        refine (Reg_c HU E2.out).mono ?_
        rintro _ w2 ⟨rfl, H2, K2⟩
        obtain ⟨rv0, rv1⟩ := stGet_range HU.ok E2.out
        go_wp2_with fail
        refine (SetReg_c H2 E3.out).mono ?_
        rintro _ w3 ⟨rfl, H3, K3⟩
        go_wp2_with fail
        go_ret
        exact ⟨rfl, H3, (KU.trans K2).trans K3⟩
      · rw [if_neg hk] at e
        obtain ⟨rfl, rfl⟩ := GM.pure_eq e
        clear e
        go_wp2_with fail
        go_ret
        exact ⟨rfl, HU, KU⟩

def paDrain (n : Int) : GM Int := paTimes gvStep 20 n
theorem paDrain_c {A : GA} {S : GS} {w : World} (H : Held A S w) {n v0 : Int} {T : GS} (hn : n ≤ 1099511627776) (e : paDrain n S = (v0, T)) :
    Calls Tryz.prog 55 #[.pointer (some ⟨A.g, 0, none⟩), .int .i64 n] w (Did A w (.int .i64 v0) T) := by
  go_enter Tryz.func55, Tryz.ntmps55
  go_wp2_with fail
  refine (paDrainT_t H hn e).mono ?_
  rintro _ w1 ⟨rfl, H1, K1⟩
  go_wp2_with fail
  go_ret
  exact ⟨rfl, H1, K1⟩

def paTick : GM Unit := getS >>= fun c => paDrain c.k >>= fun _ => paPay c.k >>= fun _ => pure ()
theorem paTick_c {A : GA} {S : GS} {w : World} (H : Held A S w) {T : GS} (e : paTick S = ((), T)) :
    Calls Tryz.prog 52 #[.pointer (some ⟨A.g, 0, none⟩)] w (Did A w (.tuple #[]) T) := by
  unfold paTick at e
  have hk := H.ok.k2
  replace e := GM.bind_eq e
  obtain ⟨c, S0, e0, e⟩ := e
  obtain ⟨rfl, rfl⟩ := getS_eq e0
  clear e0
  replace e := GM.bind_eq e
  obtain ⟨u1, S1, e1, e⟩ := e
  replace e := GM.bind_eq e
  obtain ⟨u2, S2, e2, e⟩ := e
  obtain ⟨_, rfl⟩ := GM.pure_eq e
  have E1 := Hd.mk e1
  have E2 := Hd.mk e2
  clear e e1 e2
  go_enter Tryz.func52, Tryz.ntmps52
  go_wp2_with fail
  refine (conf_c H).mono ?_
  rintro _ w1 ⟨rfl, H1, K1⟩
  go_wp2_with fail
  refine (paDrain_c H1 (by omega) E1.out).mono ?_
  rintro _ w2 ⟨rfl, H2, K2⟩
  go_wp2_with fail
  refine (paPay_c H2 (by omega) E2.out).mono ?_
  rintro _ w3 ⟨rfl, H3, K3⟩
  go_wp2_with fail
  go_end0
  exact ⟨rfl, H3, (K1.trans K2).trans K3⟩
end Go.Proofs.YtadhdjldcpkfiaaGreatDoor
namespace Go.Proofs.YtadhdjldcpkfiaaGreatDoor
set_option linter.unusedVariables false
set_option linter.unusedSimpArgs false
open Go.RowKit
set_option maxRecDepth 100000
set_option maxHeartbeats 1600000

theorem right_owner {t : Tag} (h : tagRight t = true) (hu : t.Used) : 0 ≤ t.owner ∧ t.owner < 16777216 := by
  unfold tagRight at h
  unfold Tag.Used at hu
  simp only [Bool.and_eq_true] at h
  have h2 := h.2
  rcases hu with h1 | h1 | ⟨h1, -⟩
  · rw [if_pos h1] at h2
    simp only [decide_eq_true_eq] at h2
    omega
  · rw [if_neg (by omega), if_pos h1] at h2
    simp only [decide_eq_true_eq] at h2
    omega
  · rw [if_neg (by omega), if_neg (by omega), if_neg (by omega), if_pos h1] at h2
    simp only [Bool.and_eq_true, decide_eq_true_eq] at h2
    omega
theorem Pack_a {A : GA} {S : GS} {w : World} (H : Held A S w) (t : Tag) (hu : t.Used) {a b : Int} (e : tagPack t = (a, b)) :
    Calls Tryz.prog 225 #[.agg #[.int .i64 t.kind, .int .i64 t.color, .int .i64 t.count, .int .i64 t.shade, .int .i64 t.dead, .int .i64 t.ring, .int .i64 t.owner]] w (Did A w (.tuple #[.int .u32 a, .int .i64 b]) S) := by
  by_cases hr : tagRight t = true
  · exact Pack_d H t hu (right_owner hr hu) e
  · have hf : tagRight t = false := by simpa using hr
    rw [tagPack_wrong hr] at e
    cases e
    have HR := Right_c t (w.alloc (.cells #[.int .i64 t.kind, .int .i64 t.color, .int .i64 t.count, .int .i64 t.shade, .int .i64 t.dead, .int .i64 t.ring, .int .i64 t.owner] 149)) (H.z.alloc _) hu
    rw [hf] at HR
    have HR' := Hd.mk HR
    clear HR hr hf hu
    obtain ⟨k, c, n, s, d, r, o⟩ := t
    go_enter Tryz.func225, Tryz.ntmps225
    go_wp2_with fail
    refine HR'.out.mono ?_
    rintro _ w1 ⟨rfl, K1⟩
    clear HR'
    go_wp2_with fail
    go_ret2
    exact ⟨rfl, (H.alloc _).stays K1 (fun _ _ x => x), ((Stays.refl _ _).alloc _).trans (K1.mono (fun _ x => x.elim))⟩

/-- A block's tag, set: if it may be. -/
def obMarkA (b : Int) (t : Tag) : GM Unit := if tagRight t = true then SetWord b 0 (tagWord t) >>= fun _ => pure () else pure ()
theorem obMarkA_c {A : GA} {S : GS} {w : World} (H : Held A S w) {b : Int} {t : Tag} (hu : t.Used) {T : GS} (e : obMarkA b t S = ((), T)) :
    Calls Tryz.prog 163 #[.pointer (some ⟨A.g, 0, none⟩), .int .i64 b, .agg #[.int .i64 t.kind, .int .i64 t.color, .int .i64 t.count, .int .i64 t.shade, .int .i64 t.dead, .int .i64 t.ring, .int .i64 t.owner]] w (Did A w (.tuple #[]) T) := by
  unfold obMarkA at e
  by_cases hr : tagRight t = true
  · rw [if_pos hr] at e
    replace e := GM.bind_eq e
    obtain ⟨u, S1, e1, e⟩ := e
    obtain ⟨_, rfl⟩ := GM.pure_eq e
    have E1 := Hd.mk e1
    have hw := Hd.mk (tagWord_range hr hu (right_owner hr hu))
    have hp := Hd.mk (tagPack_right hr)
    clear e e1 hr
    go_enter Tryz.func163, Tryz.ntmps163
    go_wp2_with fail
    refine (Pack_a (H.alloc _) t hu hp.out).mono ?_
    rintro _ w1 ⟨rfl, H1, K1⟩
    go_wp2_with fail
    refine (SetWord_c H1 hw.out.1 hw.out.2 E1.out).mono ?_
    rintro _ w2 ⟨rfl, H2, K2⟩
    go_wp2_with fail
    go_end0
    exact ⟨rfl, H2, (((Stays.refl _ _).alloc _).trans K1).trans K2⟩
  · rw [if_neg hr] at e
    obtain ⟨_, rfl⟩ := GM.pure_eq e
    have hp := Hd.mk (tagPack_wrong hr)
    clear e hr
    go_enter Tryz.func163, Tryz.ntmps163
    go_wp2_with fail
    refine (Pack_a (H.alloc _) t hu hp.out).mono ?_
    rintro _ w1 ⟨rfl, H1, K1⟩
    go_wp2_with fail
    go_end0
    exact ⟨rfl, H1, ((Stays.refl _ _).alloc _).trans K1⟩

theorem poTake_range {S T : GS} {b : Int} {ok : Bool} (h : S.Ok) (e : poTake S = ((b, ok), T)) : 0 ≤ b ∧ b ≤ 4294967294 := by
  unfold poTake at e
  obtain ⟨⟨x, o⟩, U, h1, h2⟩ := GM.bind_eq e
  have hx : 0 ≤ x ∧ x ≤ 4294967294 := by
    unfold chTake at h1
    obtain ⟨nm, V, h3, h4⟩ := GM.bind_eq h1
    have := stGet_range h h3
    split at h4
    · cases h4; omega
    · obtain ⟨_, _, _, h4⟩ := GM.bind_eq h4
      obtain ⟨_, _, _, h4⟩ := GM.bind_eq h4
      obtain ⟨_, _, _, h4⟩ := GM.bind_eq h4
      split at h4
      · obtain ⟨_, _, _, h4⟩ := GM.bind_eq h4
        obtain ⟨_, _, _, h4⟩ := GM.bind_eq h4
        obtain ⟨_, _, _, h4⟩ := GM.bind_eq h4
        cases h4
        omega
      · obtain ⟨_, _, _, h4⟩ := GM.bind_eq h4
        obtain ⟨_, _, _, h4⟩ := GM.bind_eq h4
        cases h4
        omega
  dsimp only at h2
  split at h2
  · obtain ⟨_, _, _, h4⟩ := GM.bind_eq h2
    cases h4
    exact hx
  · cases h2; omega
theorem shBlocks_ok {W p d n : Int} (h0 : 16 ≤ W) (h1 : W ≤ 256) (e : shBlocks W p d = (n, 0)) : (0 ≤ p ∧ p ≤ 63240) ∧ (0 ≤ d ∧ d ≤ 63240) := by
  have hm : 0 ≤ shMost W ∧ shMost W ≤ 63240 := shMost_range h0 h1
  unfold shBlocks at e
  split at e
  · cases e
  · split at e
    · cases e
    · split at e
      · cases e
      · split at e
        · cases e
        · omega

/-- A leaf of an object. -/
def leaf1 (h j : Int) : GM Unit := poTake >>= fun x => obMarkA x.1 ⟨3, 0, 0, 0, 0, 0, h⟩ >>= fun _ => SetWord h (8 + j) (x.1 + 1) >>= fun _ => pure ()
def obMake (p d : Int) : GM (Int × Int) := getS >>= fun c => if (shBlocks c.w p d).2 = 0 then poLen >>= fun ln => if ln < (shBlocks c.w p d).1 then pure (0, 4) else
  poTake >>= fun x => obMarkA x.1 ⟨if (shBlocks c.w p d).1 > 1 then 2 else 1, 0, 0, 0, 0, 0, 0⟩ >>= fun _ => SetWord x.1 1 p >>= fun _ => SetWord x.1 2 d >>= fun _ => loopN (leaf1 x.1) ((shBlocks c.w p d).1 - 1).toNat 0 >>= fun _ => pure (x.1 + 1, 0)
  else pure (0, (shBlocks c.w p d).2)
theorem obMake_c {A : GA} {S : GS} {w : World} (H : Held A S w) {p d v0 v1 : Int} {T : GS} (e : obMake p d S = ((v0, v1), T)) :
    Calls Tryz.prog 85 #[.pointer (some ⟨A.g, 0, none⟩), .int .i64 p, .int .i64 d] w (Did A w (.tuple #[.int .i64 v0, .int .i64 v1]) T) := by
  unfold obMake at e
  replace e := GM.bind_eq e
  obtain ⟨c, S0, e0, e⟩ := e
  obtain ⟨rfl, rfl⟩ := getS_eq e0
  clear e0
  obtain ⟨n, er, hb⟩ : ∃ n er, shBlocks S.w p d = (n, er) := ⟨_, _, rfl⟩
  rw [hb] at e
  dsimp only at e
  obtain ⟨rn0, rn1⟩ := shBlocks_range H.ok.w1 H.ok.w2 hb
  by_cases her : er = 0
  · subst her
    rw [if_pos rfl] at e
    obtain ⟨⟨p0, p1⟩, d0, d1⟩ := shBlocks_ok H.ok.w1 H.ok.w2 hb
    have HB := Hd.mk hb
    clear hb
    replace e := GM.bind_eq e
    obtain ⟨ln, S1, e1, e⟩ := e
    have E1 := Hd.mk e1
    clear e1
    by_cases hl : ln < n
    · rw [if_pos hl] at e
      obtain ⟨hv, rfl⟩ := GM.pure_eq e
      cases hv
      clear e
      go_enter Tryz.func85, Tryz.ntmps85
      go_wp2_with fail
      refine (conf_c H).mono ?_
      rintro _ w1 ⟨rfl, H1, K1⟩
      go_wp2_with fail
      refine (Calls.did H1 (Blocks_c w1 H1.ok.w1 H1.ok.w2 HB.out)).mono ?_
      rintro _ w2 ⟨rfl, H2, K2⟩
      go_wp2_with fail
      refine (poLen_c H2 E1.out).mono ?_
      rintro _ w3 ⟨rfl, H3, K3⟩
      go_wp2_with fail
      go_ret2
      exact ⟨rfl, H3, (K1.trans K2).trans K3⟩
    · rw [if_neg hl] at e
      replace e := GM.bind_eq e
      obtain ⟨⟨x, ok⟩, S2, e2, e⟩ := e
      dsimp only at e
      replace e := GM.bind_eq e
      obtain ⟨_, S3, e3, e⟩ := e
      replace e := GM.bind_eq e
      obtain ⟨u4, S4, e4, e⟩ := e
      replace e := GM.bind_eq e
      obtain ⟨u5, S5, e5, e⟩ := e
      replace e := GM.bind_eq e
      obtain ⟨_, S6, e6, e⟩ := e
      obtain ⟨hv, rfl⟩ := GM.pure_eq e
      cases hv
      clear e
      have E2 := Hd.mk e2
      have E4 := Hd.mk e4
      have E5 := Hd.mk e5
      have E6 := Hd.mk e6
      obtain ⟨N, hN⟩ := Int.eq_ofNat_of_zero_le rn0
      clear e2 e4 e5 e6
      by_cases hn : n > 1
      · rw [if_pos hn] at e3
        have E3 := Hd.mk e3
        have HN := Hd.mk hN
        clear e3 hN
        have hl' : decide (ln < n) = false := by simpa using hl
        go_enter Tryz.func85, Tryz.ntmps85
        go_wp2_with fail
        refine (conf_c H).mono ?_
        rintro _ w1 ⟨rfl, H1, K1⟩
        go_wp2_with fail
        refine (Calls.did H1 (Blocks_c w1 H1.ok.w1 H1.ok.w2 HB.out)).mono ?_
        rintro _ w2 ⟨rfl, H2, K2⟩
        go_wp2_with fail
        refine (poLen_c H2 E1.out).mono ?_
        rintro _ w3 ⟨rfl, H3, K3⟩
        go_wp2_with fail
        refine (poTake_c H3 E2.out).mono ?_
        rintro _ w4 ⟨rfl, H4, K4⟩
        obtain ⟨rx0, rx1⟩ := poTake_range H3.ok E2.out
        go_wp2_with fail
        refine (obMarkA_c (t := ⟨2, 0, 0, 0, 0, 0, 0⟩) H4 (by unfold Tag.Used; simp) E3.out).mono ?_
        rintro _ w5 ⟨rfl, H5, K5⟩
        go_wp2_with fail
        refine (SetWord_c H5 (by omega) (by omega) E4.out).mono ?_
        rintro _ w6 ⟨rfl, H6, K6⟩
        go_wp2_with fail
        refine (SetWord_c H6 (by omega) (by omega) E5.out).mono ?_
        rintro _ w7 ⟨rfl, H7, K7⟩
        go_wp2_with fail
        go_loopw [56] (fun i wr => ∃ j : Nat, j ≤ (n - 1).toNat ∧ i = .int .i64 j ∧ ∃ U, Held A U wr ∧ loopN (leaf1 x) ((n - 1).toNat - j) j U = ((), S6) ∧ Stays A.foot w wr) (fun i _ => (n - 1).toNat - (intOf i).toNat)
        case atStart => exact ⟨0, Nat.zero_le _, rfl, S5, H7, E6.out, (((((K1.trans K2).trans K3).trans K4).trans K5).trans K6).trans K7⟩
        case round =>
          obtain ⟨j, hj, rfl, U, HU, hU, KU⟩ := hrel
          by_cases hlt : (j : Int) < n - 1
          · obtain ⟨k, hk⟩ : ∃ k, (n - 1).toNat - j = k + 1 := ⟨(n - 1).toNat - j - 1, by omega⟩
            rw [hk] at hU
            obtain ⟨V, h1, h2⟩ := loopN_succ hU
            obtain ⟨⟨l, lo⟩, V1, h3, h4⟩ := GM.bind_eq h1
            dsimp only at h4
            obtain ⟨_, V2, h5, h6⟩ := GM.bind_eq h4
            obtain ⟨u, V3, h7, h8⟩ := GM.bind_eq h6
            obtain ⟨_, rfl⟩ := GM.pure_eq h8
            have G3 := Hd.mk h3
            have G5 := Hd.mk h5
            have G7 := Hd.mk h7
            have G2 := Hd.mk h2
            have hk' := Hd.mk hk
            clear hU h1 h2 h3 h4 h5 h6 h7 h8 hk
            go_wp2_with fail
            refine (poTake_c HU G3.out).mono ?_
            rintro _ w8 ⟨rfl, H8, K8⟩
            obtain ⟨rl0, rl1⟩ := poTake_range HU.ok G3.out
            go_wp2_with fail
            refine (obMarkA_c (t := ⟨3, 0, 0, 0, 0, 0, x⟩) H8 (by unfold Tag.Used; simp; omega) G5.out).mono ?_
            rintro _ w9 ⟨rfl, H9, K9⟩
            go_wp2_with fail
            refine (SetWord_c H9 (by omega) (by omega) G7.out).mono ?_
            rintro _ w10 ⟨rfl, H10, K10⟩
            go_wp2_with fail
            go_roundw
            case rel => exact ⟨j + 1, by omega, by go_num, V3, H10, by rw [show (n - 1).toNat - (j + 1) = k by have := hk'.out; omega]; exact G2.out, ((KU.trans K8).trans K9).trans K10⟩
            case measure => simp [intOf]; omega
          · rw [show (n - 1).toNat - j = 0 by omega] at hU
            obtain rfl := loopN_zero hU
            clear hU
            go_wp2_with fail
            go_ret2
            exact ⟨rfl, HU, KU⟩
      · rw [if_neg hn] at e3
        have E3 := Hd.mk e3
        have HN := Hd.mk hN
        clear e3 hN
        have hl' : decide (ln < n) = false := by simpa using hl
        go_enter Tryz.func85, Tryz.ntmps85
        go_wp2_with fail
        refine (conf_c H).mono ?_
        rintro _ w1 ⟨rfl, H1, K1⟩
        go_wp2_with fail
        refine (Calls.did H1 (Blocks_c w1 H1.ok.w1 H1.ok.w2 HB.out)).mono ?_
        rintro _ w2 ⟨rfl, H2, K2⟩
        go_wp2_with fail
        refine (poLen_c H2 E1.out).mono ?_
        rintro _ w3 ⟨rfl, H3, K3⟩
        go_wp2_with fail
        refine (poTake_c H3 E2.out).mono ?_
        rintro _ w4 ⟨rfl, H4, K4⟩
        obtain ⟨rx0, rx1⟩ := poTake_range H3.ok E2.out
        go_wp2_with fail
        refine (obMarkA_c (t := ⟨1, 0, 0, 0, 0, 0, 0⟩) H4 (by unfold Tag.Used; simp) E3.out).mono ?_
        rintro _ w5 ⟨rfl, H5, K5⟩
        go_wp2_with fail
        refine (SetWord_c H5 (by omega) (by omega) E4.out).mono ?_
        rintro _ w6 ⟨rfl, H6, K6⟩
        go_wp2_with fail
        refine (SetWord_c H6 (by omega) (by omega) E5.out).mono ?_
        rintro _ w7 ⟨rfl, H7, K7⟩
        go_wp2_with fail
        go_loopw [56] (fun i wr => ∃ j : Nat, j ≤ (n - 1).toNat ∧ i = .int .i64 j ∧ ∃ U, Held A U wr ∧ loopN (leaf1 x) ((n - 1).toNat - j) j U = ((), S6) ∧ Stays A.foot w wr) (fun i _ => (n - 1).toNat - (intOf i).toNat)
        case atStart => exact ⟨0, Nat.zero_le _, rfl, S5, H7, E6.out, (((((K1.trans K2).trans K3).trans K4).trans K5).trans K6).trans K7⟩
        case round =>
          obtain ⟨j, hj, rfl, U, HU, hU, KU⟩ := hrel
          by_cases hlt : (j : Int) < n - 1
          · exfalso; omega
          · rw [show (n - 1).toNat - j = 0 by omega] at hU
            obtain rfl := loopN_zero hU
            clear hU
            go_wp2_with fail
            go_ret2
            exact ⟨rfl, HU, KU⟩
  · rw [if_neg her] at e
    obtain ⟨hv, rfl⟩ := GM.pure_eq e
    cases hv
    have HB := Hd.mk hb
    have hb1 : (v1 == 0) = false := beq_eq_false_iff_ne.2 her
    have hb2 : (v1 != 0) = true := bne_iff_ne.2 her
    clear hb e her
    go_enter Tryz.func85, Tryz.ntmps85
    go_wp2_with fail
    refine (conf_c H).mono ?_
    rintro _ w1 ⟨rfl, H1, K1⟩
    go_wp2_with fail
    refine (Calls.did H1 (Blocks_c w1 H1.ok.w1 H1.ok.w2 HB.out)).mono ?_
    rintro _ w2 ⟨rfl, H2, K2⟩
    go_wp2_with fail
    go_ret2
    exact ⟨rfl, H2, K1.trans K2⟩
end Go.Proofs.YtadhdjldcpkfiaaGreatDoor
namespace Go.Proofs.YtadhdjldcpkfiaaGreatDoor
set_option linter.unusedVariables false
set_option linter.unusedSimpArgs false
open Go.RowKit
set_option maxRecDepth 100000
set_option maxHeartbeats 1600000
def lkBorn (p : Int) (d : Int) : GM (Int × Int) :=
  obMake p d >>= fun ⟨r, er⟩ =>
  if er = 0 then
    tiDye r >>= fun y =>
    ctUp r >>= fun ⟨a, b⟩ =>
    pure (r, 0)
  else
    pure (0, er)

theorem lkBorn_c {A : GA} {S : GS} {w : World} (H : Held A S w) {p : Int} {d : Int} {v0 : Int} {v1 : Int} {T : GS} (e : lkBorn p d S = ((v0, v1), T)) :
    Calls Tryz.prog 19 #[.pointer (some ⟨A.g, 0, none⟩), .int .i64 p, .int .i64 d] w (Did A w (.tuple #[.int .i64 v0, .int .i64 v1]) T) := by
  unfold lkBorn at e
  replace e := GM.bind_eq e; obtain ⟨⟨r, er⟩, S1, e1_, e⟩ := e; have e1 := Hd.mk e1_; clear e1_
  try dsimp only at e
  by_cases c2 : er = 0
  · rw [if_pos c2] at e; subst c2
    replace e := GM.bind_eq e; obtain ⟨y, S3, e3_, e⟩ := e; have e3 := Hd.mk e3_; clear e3_
    replace e := GM.bind_eq e; obtain ⟨⟨a, b⟩, S4, e4_, e⟩ := e; have e4 := Hd.mk e4_; clear e4_
    try dsimp only at e
    obtain ⟨hv, rfl⟩ := GM.pure_eq e
    cases hv
    go_enter Tryz.func19, Tryz.ntmps19
    go_wp2_with fail
    with_reducible refine (obMake_c (by with_reducible repeat (first | exact H | apply zha | apply zhd | apply zhn)) e1.out).mono ?_
    rintro _ w1 ⟨rfl, H1, K1⟩
    go_wp2_with fail
    with_reducible refine (tiDye_c (by with_reducible repeat (first | exact H1 | apply zha | apply zhd | apply zhn)) e3.out).mono ?_
    rintro _ w3 ⟨rfl, H3, K3⟩
    go_wp2_with fail
    with_reducible refine (ctUp_c (by with_reducible repeat (first | exact H3 | apply zha | apply zhd | apply zhn)) e4.out).mono ?_
    rintro _ w4 ⟨rfl, H4, K4⟩
    go_wp2_with fail
    go_ret2
    exact ⟨by first | rfl | (simp; done) | (simp [*]; done), (by with_reducible repeat (first | exact H4 | apply zha | apply zhd | apply zhn)), by
      with_reducible repeat (first | apply zsa | apply zsd | apply zsn)
      refine Stays.trans ?_ K4
      with_reducible repeat (first | apply zsa | apply zsd | apply zsn)
      refine Stays.trans ?_ K3
      with_reducible repeat (first | apply zsa | apply zsd | apply zsn)
      refine Stays.trans ?_ K1
      with_reducible repeat (first | apply zsa | apply zsd | apply zsn)
      exact Stays.refl _ _⟩
  · rw [if_neg c2] at e; have c2b : (er == 0) = false := beq_eq_false_iff_ne.2 c2; have c2n : (er != 0) = true := bne_iff_ne.2 c2
    obtain ⟨hv, rfl⟩ := GM.pure_eq e
    cases hv
    go_enter Tryz.func19, Tryz.ntmps19
    go_wp2_with fail
    with_reducible refine (obMake_c (by with_reducible repeat (first | exact H | apply zha | apply zhd | apply zhn)) e1.out).mono ?_
    rintro _ w1 ⟨rfl, H1, K1⟩
    go_wp2_with fail
    go_ret2
    exact ⟨by first | rfl | (simp; done) | (simp [*]; done), (by with_reducible repeat (first | exact H1 | apply zha | apply zhd | apply zhn)), by
      with_reducible repeat (first | apply zsa | apply zsd | apply zsn)
      refine Stays.trans ?_ K1
      with_reducible repeat (first | apply zsa | apply zsd | apply zsn)
      exact Stays.refl _ _⟩
/-- The ground that New makes. -/
def gsNew (n w r k : Int) : GS := ⟨n, w, r, k, List.replicate (24 + r + n * w).toNat 0, 0⟩
/-- LinkNobody's example, by the plain functions. -/
def exLink : GM Bool := poOpen >>= fun _ => lkBorn 1 0 >>= fun x => lkSuspect >>= fun s => lkPut x.1 0 x.1 >>= fun e => ctOf x.1 >>= fun c => lkLet x.1 >>= fun l =>
  lkGet x.1 0 >>= fun y => ctOf x.1 >>= fun c2 => gvPending >>= fun p => lkSuspect >>= fun s2 =>
  pure (decide (x = (1, 0)) && !s && decide (e = 0) && decide (c = 2) && l && decide (y = (x.1, 0)) && decide (c2 = 1) && decide (p = 0) && s2)
theorem exLink_holds : (exLink (gsNew 2 16 1 1)).1 = true := by decide +kernel

end Go.Proofs.YtadhdjldcpkfiaaGreatDoor
