/- The loops of pool and ground. Nothing is asked but that the ground lies there. -/
import Derived.Test.YtadhdjldcpkfiaaGreatDoorC4
namespace Go.Proofs.YtadhdjldcpkfiaaGreatDoor
set_option linter.unusedVariables false
set_option linter.unusedSimpArgs false
open Go.RowKit
set_option maxRecDepth 100000
set_option maxHeartbeats 800000

/-- f at i, i + 1, .., so many times. -/
def loopN (f : Int → GM Unit) : Nat → Int → GM Unit
  | 0, _ => pure ()
  | k + 1, i => f i >>= fun _ => loopN f k (i + 1)
theorem loopN_zero {f : Int → GM Unit} {i : Int} {S T : GS} (h : loopN f 0 i S = ((), T)) : S = T := by cases h; rfl
theorem loopN_succ {f : Int → GM Unit} {k : Nat} {i : Int} {S T : GS} (h : loopN f (k + 1) i S = ((), T)) : ∃ U, f i S = ((), U) ∧ loopN f k (i + 1) U = ((), T) := by
  obtain ⟨a, U, h1, h2⟩ := GM.bind_eq h
  exact ⟨U, h1, h2⟩
def wipe1 (b i : Int) : GM Unit := SetWord b i 0 >>= fun _ => pure ()
def Wipe (b : Int) : GM Unit := fun S => loopN (wipe1 b) S.w.toNat 0 S

theorem GS.w_get {S T : GS} {i v : Int} (e : stGet i S = (v, T)) : T.w = S.w ∧ T.n = S.n ∧ T.r = S.r ∧ T.k = S.k := by
  unfold stGet at e
  split at e <;> cases e <;> exact ⟨rfl, rfl, rfl, rfl⟩

theorem Wipe_c {A : GA} {S : GS} {w : World} (H : Held A S w) {b : Int} {T : GS} (e : Wipe b S = ((), T)) :
    Calls Tryz.prog 224 #[.pointer (some ⟨A.g, 0, none⟩), .int .i64 b] w (fun e w' => ∃ n, Did A w (.int .i64 n) T e w') := by
  have w1 := H.ok.w1
  have w2 := H.ok.w2
  obtain ⟨W, hW⟩ := Int.eq_ofNat_of_zero_le (show 0 ≤ S.w by omega)
  unfold Wipe at e
  rw [hW, Int.toNat_natCast] at e
  have E := Hd.mk e
  have HW := Hd.mk hW
  clear e
  rw [hW] at w1 w2
  clear hW
  go_enter Tryz.func224, Tryz.ntmps224
  go_wp2_with fail
  refine (conf_c H).mono ?_
  rintro _ w3 ⟨rfl, H1, K1⟩
  rw [HW.out]
  go_wp2_with fail
  go_loopw [5, 10] (fun n i wr => ∃ j : Nat, j ≤ W ∧ i = .int .i64 j ∧ (∃ q : Nat, q ≤ j ∧ n = .int .i64 q) ∧ ∃ U, Held A U wr ∧ loopN (wipe1 b) (W - j) j U = ((), T) ∧ Stays A.foot w wr) (fun _ i _ => W - (intOf i).toNat)
  case atStart => exact ⟨0, Nat.zero_le _, rfl, ⟨0, Nat.le_refl _, rfl⟩, S, H1, E.out, K1⟩
  case round =>
    obtain ⟨j, hj, rfl, ⟨q, hq, rfl⟩, U, HU, hU, KU⟩ := hrel
    by_cases hlt : j < W
    · obtain ⟨k, hk⟩ : ∃ k, W - j = k + 1 := ⟨W - j - 1, by omega⟩
      rw [hk] at hU
      obtain ⟨V, h1, h2⟩ := loopN_succ hU
      obtain ⟨rb, V', h3, h4⟩ := GM.bind_eq h1
      obtain ⟨_, rfl⟩ := GM.pure_eq h4
      have H3 := Hd.mk h3
      have H2 := Hd.mk h2
      have hk' := Hd.mk hk
      clear hU h1 h2 h3 h4 hk
      go_wp2_with fail
      refine (SetWord_c HU (by omega) (by omega) H3.out).mono ?_
      rintro _ w4 ⟨rfl, H4, K4⟩
      cases rb
      all_goals
        go_wp2_with fail
        go_roundw
        case rel => exact ⟨j + 1, by omega, by go_num, by first | exact ⟨q, by omega, rfl⟩ | exact ⟨q + 1, by omega, by go_num⟩, V', H4, by rw [show W - (j + 1) = k by have := hk'.out; omega]; exact H2.out, KU.trans K4⟩
        case measure => simp [intOf]; omega
    · obtain rfl : j = W := by omega
      rw [Nat.sub_self] at hU
      obtain rfl := loopN_zero hU
      go_wp2_with fail
      go_ret
      exact ⟨_, rfl, HU, KU⟩

/-! ### pool -/
def poLen : GM Int := chLen 0 >>= fun n => pure n
theorem poLen_c {A : GA} {S : GS} {w : World} (H : Held A S w) {v : Int} {T : GS} (e : poLen S = (v, T)) :
    Calls Tryz.prog 116 #[.pointer (some ⟨A.g, 0, none⟩)] w (Did A w (.int .i64 v) T) := by
  go_enter Tryz.func116, Tryz.ntmps116
  go_wp2_with fail
  refine (chLen_c H (by omega) (by omega) e).mono ?_
  rintro _ w1 ⟨rfl, H1, K1⟩
  go_wp2_with fail
  go_ret
  exact ⟨rfl, H1, K1⟩
def poTake : GM (Int × Bool) := chTake 0 >>= fun x => if x.2 = true then Wipe x.1 >>= fun _ => pure (x.1, true) else pure (0, false)
theorem poTake_c {A : GA} {S : GS} {w : World} (H : Held A S w) {b : Int} {ok : Bool} {T : GS} (e : poTake S = ((b, ok), T)) :
    Calls Tryz.prog 162 #[.pointer (some ⟨A.g, 0, none⟩)] w (Did A w (.tuple #[.int .i64 b, .bool ok]) T) := by
  unfold poTake at e
  replace e := GM.bind_eq e
  obtain ⟨⟨x, o⟩, S1, e1, e⟩ := e
  have E1 := Hd.mk e1
  clear e1
  dsimp only at e
  cases o with
  | true =>
    rw [if_pos rfl] at e
    replace e := GM.bind_eq e
    obtain ⟨_, S2, e2, e⟩ := e
    have E2 := Hd.mk e2
    clear e2
    obtain ⟨hv, rfl⟩ := GM.pure_eq e
    cases hv
    go_enter Tryz.func162, Tryz.ntmps162
    go_wp2_with fail
    refine (chTake_c H (by omega) (by omega) E1.out).mono ?_
    rintro _ w1 ⟨rfl, H1, K1⟩
    go_wp2_with fail
    refine (Wipe_c H1 E2.out).mono ?_
    rintro _ w2 ⟨n, rfl, H2, K2⟩
    go_wp2_with fail
    go_ret2
    exact ⟨rfl, H2, K1.trans K2⟩
  | false =>
    rw [if_neg (by decide)] at e
    obtain ⟨hv, rfl⟩ := GM.pure_eq e
    cases hv
    go_enter Tryz.func162, Tryz.ntmps162
    go_wp2_with fail
    refine (chTake_c H (by omega) (by omega) E1.out).mono ?_
    rintro _ w1 ⟨rfl, H1, K1⟩
    go_wp2_with fail
    go_ret2
    exact ⟨rfl, H1, K1⟩
def add1 (b : Int) : GM Unit := chAdd 0 b >>= fun _ => pure ()
def poOpen : GM Bool := chLen 0 >>= fun n => if n > 0 then pure false else getS >>= fun c => loopN add1 c.n.toNat 0 >>= fun _ => pure true
theorem poOpen_c {A : GA} {S : GS} {w : World} (H : Held A S w) {v : Bool} {T : GS} (e : poOpen S = (v, T)) :
    Calls Tryz.prog 144 #[.pointer (some ⟨A.g, 0, none⟩)] w (Did A w (.bool v) T) := by
  unfold poOpen at e
  replace e := GM.bind_eq e
  obtain ⟨n, S1, e1, e⟩ := e
  have E1 := Hd.mk e1
  clear e1
  by_cases hn : n > 0
  · rw [if_pos hn] at e
    obtain ⟨rfl, rfl⟩ := GM.pure_eq e
    go_enter Tryz.func144, Tryz.ntmps144
    go_wp2_with fail
    refine (chLen_c H (by omega) (by omega) E1.out).mono ?_
    rintro _ w1 ⟨rfl, H1, K1⟩
    go_wp2_with fail
    go_ret
    exact ⟨rfl, H1, K1⟩
  · rw [if_neg hn] at e
    replace e := GM.bind_eq e
    obtain ⟨c, S2, e2, e⟩ := e
    obtain ⟨rfl, rfl⟩ := getS_eq e2
    replace e := GM.bind_eq e
    obtain ⟨_, S3, e3, e⟩ := e
    obtain ⟨rfl, rfl⟩ := GM.pure_eq e
    have E3 := Hd.mk e3
    clear e3 e2
    go_enter Tryz.func144, Tryz.ntmps144
    go_wp2_with fail
    refine (chLen_c H (by omega) (by omega) E1.out).mono ?_
    rintro _ w1 ⟨rfl, H1, K1⟩
    have n1 := H1.ok.n1
    have n2 := H1.ok.n2
    obtain ⟨N, hN⟩ := Int.eq_ofNat_of_zero_le (show 0 ≤ S1.n by omega)
    have HN := Hd.mk hN
    rw [hN] at n1 n2
    clear hN
    go_wp2_with fail
    refine (conf_c H1).mono ?_
    rintro _ w2 ⟨rfl, H2, K2⟩
    rw [HN.out]
    go_wp2_with fail
    go_loopw [14] (fun i wr => ∃ j : Nat, j ≤ N ∧ i = .int .i64 j ∧ ∃ U, Held A U wr ∧ loopN add1 (N - j) j U = ((), S3) ∧ Stays A.foot w wr) (fun i _ => N - (intOf i).toNat)
    case atStart => exact ⟨0, Nat.zero_le _, rfl, S1, H2, by have := E3.out; rw [HN.out, Int.toNat_natCast] at this; exact this, K1.trans K2⟩
    case round =>
      obtain ⟨j, hj, rfl, U, HU, hU, KU⟩ := hrel
      by_cases hlt : j < N
      · obtain ⟨k, hk⟩ : ∃ k, N - j = k + 1 := ⟨N - j - 1, by omega⟩
        rw [hk] at hU
        obtain ⟨V, h1, h2⟩ := loopN_succ hU
        obtain ⟨rb, V', h3, h4⟩ := GM.bind_eq h1
        obtain ⟨_, rfl⟩ := GM.pure_eq h4
        have H3 := Hd.mk h3
        have H2 := Hd.mk h2
        have hk' := Hd.mk hk
        clear hU h1 h2 h3 h4 hk
        go_wp2_with fail
        refine (chAdd_o HU (by omega) (by omega) H3.out).mono ?_
        rintro _ w4 ⟨rfl, H4, K4⟩
        go_wp2_with fail
        go_roundw
        case rel => exact ⟨j + 1, by omega, by go_num, V', H4, by rw [show N - (j + 1) = k by have := hk'.out; omega]; exact H2.out, KU.trans K4⟩
        case measure => simp [intOf]; omega
      · obtain rfl : j = N := by omega
        rw [Nat.sub_self] at hU
        obtain rfl := loopN_zero hU
        go_wp2_with fail
        go_ret
        exact ⟨rfl, HU, KU⟩
end Go.Proofs.YtadhdjldcpkfiaaGreatDoor
