/- What the calls of flood and round do. Nothing is asked but that the ground lies there. -/
import Derived.Test.YtadhdjldcpkfiaaGreatDoorT6
namespace Go.Proofs.YtadhdjldcpkfiaaGreatDoor
set_option linter.unusedVariables false
set_option linter.unusedSimpArgs false
open Go.RowKit
set_option maxRecDepth 100000
set_option maxHeartbeats 1600000
/-- Alike but for the meter. -/
def SameW (S T : GS) : Prop := T.ws = S.ws ∧ T.n = S.n ∧ T.w = S.w ∧ T.r = S.r ∧ T.k = S.k
theorem SameW.refl (S : GS) : SameW S S := ⟨rfl, rfl, rfl, rfl, rfl⟩
theorem SameW.trans {S T U : GS} (h : SameW S T) (k : SameW T U) : SameW S U :=
  ⟨k.1.trans h.1, k.2.1.trans h.2.1, k.2.2.1.trans h.2.2.1, k.2.2.2.1.trans h.2.2.2.1, k.2.2.2.2.trans h.2.2.2.2⟩
theorem sameW_get {S T : GS} {i v : Int} (e : stGet i S = (v, T)) : SameW S T ∧ v = stPeek i S := by
  unfold stGet at e
  unfold stPeek
  split at e
  · cases e; rename_i h; rw [if_pos h]; exact ⟨⟨rfl, rfl, rfl, rfl, rfl⟩, rfl⟩
  · cases e; rename_i h; rw [if_neg h]; exact ⟨SameW.refl _, rfl⟩
theorem SameW.see {S T : GS} (h : SameW S T) (b x : Int) : SeeWord b x T = SeeWord b x S := by
  unfold SeeWord stPeek gWord
  rw [h.1, h.2.1, h.2.2.1, h.2.2.2.1]
theorem tiOf_same {S T : GS} {r : Int} {t : Tag} {b : Bool} (e : tiOf r S = ((t, b), T)) : SameW S T := by
  unfold tiOf at e
  split at e
  · cases e; exact SameW.refl _
  · split at e
    · cases e; exact SameW.refl _
    · generalize hx : Word (r - 1) 0 S = x at e
      obtain ⟨v, U⟩ := x
      cases e
      exact (sameW_get hx).1
theorem tiDead_same {S T : GS} {r : Int} {b : Bool} (e : tiDead r S = (b, T)) : SameW S T := by
  unfold tiDead at e
  obtain ⟨⟨t, ok⟩, U, h1, h2⟩ := GM.bind_eq e
  have h := tiOf_same h1
  dsimp only at h2
  split at h2
  · split at h2 <;> cases h2 <;> exact h
  · cases h2; exact h
theorem tiShadow_same {S T : GS} {r n : Int} (e : tiShadow r S = (n, T)) : SameW S T := by
  unfold tiShadow at e
  obtain ⟨⟨t, ok⟩, U, h1, h2⟩ := GM.bind_eq e
  have h := tiOf_same h1
  dsimp only at h2
  split at h2
  · obtain ⟨now, V, h3, h4⟩ := GM.bind_eq h2
    have h' := (sameW_get h3).1
    split at h4
    · obtain ⟨m, X, h5, h6⟩ := GM.bind_eq h4
      have h'' := (sameW_get h5).1
      cases h6
      exact (h.trans h').trans h''
    · cases h4; exact h.trans h'
  · cases h2; exact h
theorem obIs_head {S T : GS} {r : Int} (e : obIs r S = (true, T)) : ((tagOf (SeeWord (r - 1) 0 S)).kind = 1 ∨ (tagOf (SeeWord (r - 1) 0 S)).kind = 2) ∧ SameW S T := by
  unfold obIs at e
  obtain ⟨i, U, h1, h2⟩ := GM.bind_eq e
  have hU : S = U := by
    unfold obIn at h1
    split at h1
    · obtain ⟨c, V, h3, h4⟩ := GM.bind_eq h1
      obtain ⟨rfl, rfl⟩ := getS_eq h3
      split at h4 <;> cases h4 <;> rfl
    · cases h1; rfl
  subst hU
  cases i with
  | true =>
    rw [if_pos rfl] at h2
    obtain ⟨v, V, h3, h4⟩ := GM.bind_eq h2
    obtain ⟨hs, hv⟩ := sameW_get h3
    have hv' : v = SeeWord (r - 1) 0 S := hv
    have hk : headKind (tagOf v).kind = true ∧ V = T := by
      have h5 : (headKind (tagOf v).kind, V) = (true, T) := h4
      exact ⟨congrArg Prod.fst h5, congrArg Prod.snd h5⟩
    obtain ⟨hk, rfl⟩ := hk
    unfold headKind at hk
    simp only [Bool.or_eq_true, decide_eq_true_eq] at hk
    rw [← hv']
    exact ⟨hk, hs⟩
  | false => cases h2
theorem settle_kind {S T U : GS} {r : Int} {b : Bool} (e1 : obIs r S = (true, T)) (e2 : tiDead r T = (b, U)) : ∀ n V v X, tiShadow r U = (n, V) → Word (r - 1) 0 V = (v, X) → (tagOf v).kind = 1 ∨ (tagOf v).kind = 2 := by
  intro n V v X h3 h4
  obtain ⟨hk, hs⟩ := obIs_head e1
  have hv : v = SeeWord (r - 1) 0 V := (sameW_get h4).2
  rw [hv, ((hs.trans (tiDead_same e2)).trans (tiShadow_same h3)).see]
  exact hk

def flSettle (r : Int) : GM Int := tiShadow r >>= fun n => Word (r - 1) 0 >>= fun v => tiParity >>= fun now =>
  if tagRight { tagOf v with shade := now } = true then SetWord (r - 1) 0 (tagWord { tagOf v with shade := now }) >>= fun _ => SetWord (r - 1) 4 n >>= fun _ => pure n else SetWord (r - 1) 4 n >>= fun _ => pure n
theorem Unpack_t {A : GA} {S : GS} {w : World} (H : Held A S w) {v : Int} {t : Tag} (h0 : 0 ≤ v) (h1 : v ≤ 4294967295) (ht : tagOf v = t) :
    Calls Tryz.prog 182 #[.int .u32 v] w (Did A w (.agg #[.int .i64 t.kind, .int .i64 t.color, .int .i64 t.count, .int .i64 t.shade, .int .i64 t.dead, .int .i64 t.ring, .int .i64 t.owner]) S) := by
  subst ht
  exact Calls.did H (Unpack_c v w h0 h1)
theorem flSettle_c {A : GA} {S : GS} {w : World} (H : Held A S w) {r : Int} {v0 : Int} {T : GS} (hr0 : 1 ≤ r) (hr1 : r ≤ 1048576) (hk : ∀ n U v V, tiShadow r S = (n, U) → Word (r - 1) 0 U = (v, V) → (tagOf v).kind = 1 ∨ (tagOf v).kind = 2) (e : flSettle r S = (v0, T)) :
    Calls Tryz.prog 200 #[.pointer (some ⟨A.g, 0, none⟩), .int .i64 r] w (fun e w' => Did A w (.int .i64 v0) T e w' ∧ 0 ≤ v0 ∧ v0 ≤ 4294967295) := by
  unfold flSettle at e
  replace e := GM.bind_eq e
  obtain ⟨n, S1, e1, e⟩ := e
  replace e := GM.bind_eq e
  obtain ⟨v, S2, e2, e⟩ := e
  replace e := GM.bind_eq e
  obtain ⟨now, S3, e3, e⟩ := e
  have hkv := hk n S1 v S2 e1 e2
  have E1 := Hd.mk e1
  have E2 := Hd.mk e2
  have E3 := Hd.mk e3
  have ho : 0 ≤ (tagOf v).owner ∧ (tagOf v).owner < 16777216 := by simp only [tagOf]; omega
  clear hk e1 e2 e3
  obtain ⟨t, ht⟩ : ∃ t, tagOf v = t := ⟨_, rfl⟩
  rw [ht] at e hkv ho
  have HT := Hd.mk ht
  clear ht
  have hu : ({ t with shade := now } : Tag).Used := by rcases hkv with h | h; exact Or.inl h; exact Or.inr (Or.inl h)
  clear hkv
  by_cases hr : tagRight { t with shade := now } = true
  · rw [if_pos hr] at e
    replace e := GM.bind_eq e
    obtain ⟨u4, S4, e4, e⟩ := e
    have E4 := Hd.mk e4
    have hw := Hd.mk (tagWord_range hr hu ho)
    have hp := Hd.mk (tagPack_right hr)
    clear e4
    replace e := GM.bind_eq e
    obtain ⟨u5, S5, e5, e⟩ := e
    obtain ⟨rfl, rfl⟩ := GM.pure_eq e
    have E5 := Hd.mk e5
    clear e5 hr
    go_enter Tryz.func200, Tryz.ntmps200
    go_wp2_with fail
    refine (tiShadow_c H E1.out).mono ?_
    rintro _ w1 ⟨⟨rfl, H1, K1⟩, rn0, rn1⟩
    go_wp2_with fail
    refine (Word_c H1 E2.out).mono ?_
    rintro _ w2 ⟨rfl, H2, K2⟩
    obtain ⟨rv0, rv1⟩ := stGet_range H1.ok E2.out
    go_wp2_with fail
    refine (Unpack_t H2 rv0 rv1 HT.out).mono ?_
    rintro _ w3 ⟨rfl, H3, K3⟩
    have Bt := Blk.new w3 149 #[.int .i64 t.kind, .int .i64 t.color, .int .i64 t.count, .int .i64 t.shade, .int .i64 t.dead, .int .i64 t.ring, .int .i64 t.owner]
    go_wp2_with fail
    refine (tiParity_c (H3.alloc _) E3.out).mono ?_
    rintro _ w4 ⟨rfl, H4, K4⟩
    have B4 := Bt.stays K4 (GA.foot_far H3.top)
    have b3 : w4.cell? ⟨w3.heap.size, 3, none⟩ = some (.int .i64 t.shade) := B4.cell 3
    have f3 : w4.frozen? ⟨w3.heap.size, 3, none⟩ = false := B4.frozen 3
    have B5 : Blk (w4.setCell ⟨w3.heap.size, 3, none⟩ (.int .i64 now)) w3.heap.size 149 #[.int .i64 t.kind, .int .i64 t.color, .int .i64 t.count, .int .i64 now, .int .i64 t.dead, .int .i64 t.ring, .int .i64 t.owner] := B4.set_ 3 _
    have d0 : (w4.setCell ⟨w3.heap.size, 3, none⟩ (.int .i64 now)).cell? ⟨w3.heap.size, 0, none⟩ = some (.int .i64 t.kind) := B5.cell 0
    have d1 : (w4.setCell ⟨w3.heap.size, 3, none⟩ (.int .i64 now)).cell? ⟨w3.heap.size, 1, none⟩ = some (.int .i64 t.color) := B5.cell 1
    have d2 : (w4.setCell ⟨w3.heap.size, 3, none⟩ (.int .i64 now)).cell? ⟨w3.heap.size, 2, none⟩ = some (.int .i64 t.count) := B5.cell 2
    have d3 : (w4.setCell ⟨w3.heap.size, 3, none⟩ (.int .i64 now)).cell? ⟨w3.heap.size, 3, none⟩ = some (.int .i64 now) := B5.cell 3
    have d4 : (w4.setCell ⟨w3.heap.size, 3, none⟩ (.int .i64 now)).cell? ⟨w3.heap.size, 4, none⟩ = some (.int .i64 t.dead) := B5.cell 4
    have d5 : (w4.setCell ⟨w3.heap.size, 3, none⟩ (.int .i64 now)).cell? ⟨w3.heap.size, 5, none⟩ = some (.int .i64 t.ring) := B5.cell 5
    have d6 : (w4.setCell ⟨w3.heap.size, 3, none⟩ (.int .i64 now)).cell? ⟨w3.heap.size, 6, none⟩ = some (.int .i64 t.owner) := B5.cell 6
    go_wp2_with fail
    refine (Pack_d (H4.far (p := ⟨w3.heap.size, 3, none⟩) H3.top (.int .i64 now)) { t with shade := now } hu ho hp.out).mono ?_
    rintro _ w5 ⟨rfl, H5, K5⟩
    go_wp2_with fail
    refine (SetWord_c H5 hw.out.1 hw.out.2 E4.out).mono ?_
    rintro _ w6 ⟨rfl, H6, K6⟩
    go_wp2_with fail
    refine (SetWord_c H6 rn0 rn1 E5.out).mono ?_
    rintro _ w7 ⟨rfl, H7, K7⟩
    go_wp2_with fail
    go_ret
    exact ⟨⟨rfl, H7, (((((((K1.trans K2).trans K3).alloc _).trans K4).setCell (Or.inr (Nat.le_trans (Nat.le_trans K1.size K2.size) K3.size)) _).trans K5).trans K6).trans K7⟩, rn0, rn1⟩
  · rw [if_neg hr] at e
    have hp := Hd.mk (tagPack_wrong hr)
    replace e := GM.bind_eq e
    obtain ⟨u5, S5, e5, e⟩ := e
    obtain ⟨rfl, rfl⟩ := GM.pure_eq e
    have E5 := Hd.mk e5
    clear e5 hr
    go_enter Tryz.func200, Tryz.ntmps200
    go_wp2_with fail
    refine (tiShadow_c H E1.out).mono ?_
    rintro _ w1 ⟨⟨rfl, H1, K1⟩, rn0, rn1⟩
    go_wp2_with fail
    refine (Word_c H1 E2.out).mono ?_
    rintro _ w2 ⟨rfl, H2, K2⟩
    obtain ⟨rv0, rv1⟩ := stGet_range H1.ok E2.out
    go_wp2_with fail
    refine (Unpack_t H2 rv0 rv1 HT.out).mono ?_
    rintro _ w3 ⟨rfl, H3, K3⟩
    have Bt := Blk.new w3 149 #[.int .i64 t.kind, .int .i64 t.color, .int .i64 t.count, .int .i64 t.shade, .int .i64 t.dead, .int .i64 t.ring, .int .i64 t.owner]
    go_wp2_with fail
    refine (tiParity_c (H3.alloc _) E3.out).mono ?_
    rintro _ w4 ⟨rfl, H4, K4⟩
    have B4 := Bt.stays K4 (GA.foot_far H3.top)
    have b3 : w4.cell? ⟨w3.heap.size, 3, none⟩ = some (.int .i64 t.shade) := B4.cell 3
    have f3 : w4.frozen? ⟨w3.heap.size, 3, none⟩ = false := B4.frozen 3
    have B5 : Blk (w4.setCell ⟨w3.heap.size, 3, none⟩ (.int .i64 now)) w3.heap.size 149 #[.int .i64 t.kind, .int .i64 t.color, .int .i64 t.count, .int .i64 now, .int .i64 t.dead, .int .i64 t.ring, .int .i64 t.owner] := B4.set_ 3 _
    have d0 : (w4.setCell ⟨w3.heap.size, 3, none⟩ (.int .i64 now)).cell? ⟨w3.heap.size, 0, none⟩ = some (.int .i64 t.kind) := B5.cell 0
    have d1 : (w4.setCell ⟨w3.heap.size, 3, none⟩ (.int .i64 now)).cell? ⟨w3.heap.size, 1, none⟩ = some (.int .i64 t.color) := B5.cell 1
    have d2 : (w4.setCell ⟨w3.heap.size, 3, none⟩ (.int .i64 now)).cell? ⟨w3.heap.size, 2, none⟩ = some (.int .i64 t.count) := B5.cell 2
    have d3 : (w4.setCell ⟨w3.heap.size, 3, none⟩ (.int .i64 now)).cell? ⟨w3.heap.size, 3, none⟩ = some (.int .i64 now) := B5.cell 3
    have d4 : (w4.setCell ⟨w3.heap.size, 3, none⟩ (.int .i64 now)).cell? ⟨w3.heap.size, 4, none⟩ = some (.int .i64 t.dead) := B5.cell 4
    have d5 : (w4.setCell ⟨w3.heap.size, 3, none⟩ (.int .i64 now)).cell? ⟨w3.heap.size, 5, none⟩ = some (.int .i64 t.ring) := B5.cell 5
    have d6 : (w4.setCell ⟨w3.heap.size, 3, none⟩ (.int .i64 now)).cell? ⟨w3.heap.size, 6, none⟩ = some (.int .i64 t.owner) := B5.cell 6
    go_wp2_with fail
    refine (Pack_d (H4.far (p := ⟨w3.heap.size, 3, none⟩) H3.top (.int .i64 now)) { t with shade := now } hu ho hp.out).mono ?_
    rintro _ w5 ⟨rfl, H5, K5⟩
    go_wp2_with fail
    refine (SetWord_c H5 rn0 rn1 E5.out).mono ?_
    rintro _ w7 ⟨rfl, H7, K7⟩
    go_wp2_with fail
    go_ret
    exact ⟨⟨rfl, H7, ((((((K1.trans K2).trans K3).alloc _).trans K4).setCell (Or.inr (Nat.le_trans (Nat.le_trans K1.size K2.size) K3.size)) _).trans K5).trans K7⟩, rn0, rn1⟩


theorem rgTake_range {S T : GS} {b : Int} {ok : Bool} (h : S.Ok) (e : rgTake S = ((b, ok), T)) : 0 ≤ b ∧ b ≤ 4294967294 := by
  unfold rgTake at e
  obtain ⟨n, U, h1, h2⟩ := GM.bind_eq e
  have := stGet_range h h1
  split at h2
  · cases h2; omega
  · obtain ⟨o, V, h3, h4⟩ := GM.bind_eq h2
    split at h4 <;> cases h4 <;> omega

def flVisit (c0 : Int) : GM Unit :=
  tiMove (c0 + 1) 0 >>= fun _ =>
  obIs (c0 + 1) >>= fun i =>
  if i then
    tiDead (c0 + 1) >>= fun d =>
    if d then
      pure ()
    else
      flSettle (c0 + 1) >>= fun n =>
      tiBlack (c0 + 1) >>= fun bk =>
      if bk then
        pure ()
      else
        ctOf (c0 + 1) >>= fun q =>
        if q > n then
          tiTouch (c0 + 1) >>= fun _ =>
          pure ()
        else
          pure ()
  else
    pure ()

theorem flVisit_c {A : GA} {S : GS} {w : World} (H : Held A S w) {c0 : Int} (hc0 : 0 ≤ c0) (hc1 : c0 ≤ 4294967295) {T : GS} (e : flVisit c0 S = ((), T)) :
    Calls Tryz.prog 119 #[.pointer (some ⟨A.g, 0, none⟩), .int .i64 c0] w (Did A w (.tuple #[]) T) := by
  unfold flVisit at e
  have hn2 := H.ok.n2
  replace e := GM.bind_eq e; obtain ⟨u1, S1, e1_, e⟩ := e; have e1 := Hd.mk e1_; clear e1_
  replace e := GM.bind_eq e; obtain ⟨i, S2, e2_, e⟩ := e; have e2 := Hd.mk e2_; clear e2_
  by_cases c3 : i = true
  · rw [if_pos c3] at e; subst c3
    obtain ⟨hr0, hr1⟩ := obIs_true e2.out
    replace e := GM.bind_eq e; obtain ⟨d, S4, e4_, e⟩ := e; have e4 := Hd.mk e4_; clear e4_
    by_cases c5 : d = true
    · rw [if_pos c5] at e; subst c5
      obtain ⟨hv, rfl⟩ := GM.pure_eq e
      clear hv
      go_enter Tryz.func119, Tryz.ntmps119
      go_wp2_with fail
      with_reducible refine (tiMove_c (by with_reducible repeat (first | exact H | apply zha | apply zhd | apply zhn)) e1.out).mono ?_
      rintro _ w1 ⟨rfl, H1, K1⟩
      go_wp2_with fail
      with_reducible refine (obIs_c (by with_reducible repeat (first | exact H1 | apply zha | apply zhd | apply zhn)) e2.out).mono ?_
      rintro _ w2 ⟨rfl, H2, K2⟩
      have hn4 := H1.ok.n2
      go_wp2_with fail
      with_reducible refine (tiDead_c (by with_reducible repeat (first | exact H2 | apply zha | apply zhd | apply zhn)) e4.out).mono ?_
      rintro _ w4 ⟨rfl, H4, K4⟩
      go_wp2_with fail
      go_end0
      exact ⟨by first | rfl | (simp; done) | (simp [*]; done), (by with_reducible repeat (first | exact H4 | apply zha | apply zhd | apply zhn)), by
        with_reducible repeat (first | apply zsa | apply zsd | apply zsn)
        refine Stays.trans ?_ K4
        with_reducible repeat (first | apply zsa | apply zsd | apply zsn)
        refine Stays.trans ?_ K2
        with_reducible repeat (first | apply zsa | apply zsd | apply zsn)
        refine Stays.trans ?_ K1
        with_reducible repeat (first | apply zsa | apply zsd | apply zsn)
        exact Stays.refl _ _⟩
    · rw [if_neg c5] at e; obtain rfl := eq_false_of_ne_true c5; clear c5
      have hks := Hd.mk (settle_kind e2.out e4.out)
      replace e := GM.bind_eq e; obtain ⟨n, S6, e6_, e⟩ := e; have e6 := Hd.mk e6_; clear e6_
      replace e := GM.bind_eq e; obtain ⟨bk, S7, e7_, e⟩ := e; have e7 := Hd.mk e7_; clear e7_
      by_cases c8 : bk = true
      · rw [if_pos c8] at e; subst c8
        obtain ⟨hv, rfl⟩ := GM.pure_eq e
        clear hv
        go_enter Tryz.func119, Tryz.ntmps119
        go_wp2_with fail
        with_reducible refine (tiMove_c (by with_reducible repeat (first | exact H | apply zha | apply zhd | apply zhn)) e1.out).mono ?_
        rintro _ w1 ⟨rfl, H1, K1⟩
        go_wp2_with fail
        with_reducible refine (obIs_c (by with_reducible repeat (first | exact H1 | apply zha | apply zhd | apply zhn)) e2.out).mono ?_
        rintro _ w2 ⟨rfl, H2, K2⟩
        have hn4 := H1.ok.n2
        go_wp2_with fail
        with_reducible refine (tiDead_c (by with_reducible repeat (first | exact H2 | apply zha | apply zhd | apply zhn)) e4.out).mono ?_
        rintro _ w4 ⟨rfl, H4, K4⟩
        go_wp2_with fail
        with_reducible refine (flSettle_c (by with_reducible repeat (first | exact H4 | apply zha | apply zhd | apply zhn)) (by omega) (by omega) hks.out e6.out).mono ?_
        rintro _ w6 ⟨⟨rfl, H6, K6⟩, rn0, rn1⟩
        go_wp2_with fail
        with_reducible refine (tiBlack_c (by with_reducible repeat (first | exact H6 | apply zha | apply zhd | apply zhn)) e7.out).mono ?_
        rintro _ w7 ⟨rfl, H7, K7⟩
        go_wp2_with fail
        go_end0
        exact ⟨by first | rfl | (simp; done) | (simp [*]; done), (by with_reducible repeat (first | exact H7 | apply zha | apply zhd | apply zhn)), by
          with_reducible repeat (first | apply zsa | apply zsd | apply zsn)
          refine Stays.trans ?_ K7
          with_reducible repeat (first | apply zsa | apply zsd | apply zsn)
          refine Stays.trans ?_ K6
          with_reducible repeat (first | apply zsa | apply zsd | apply zsn)
          refine Stays.trans ?_ K4
          with_reducible repeat (first | apply zsa | apply zsd | apply zsn)
          refine Stays.trans ?_ K2
          with_reducible repeat (first | apply zsa | apply zsd | apply zsn)
          refine Stays.trans ?_ K1
          with_reducible repeat (first | apply zsa | apply zsd | apply zsn)
          exact Stays.refl _ _⟩
      · rw [if_neg c8] at e; obtain rfl := eq_false_of_ne_true c8; clear c8
        replace e := GM.bind_eq e; obtain ⟨q, S9, e9_, e⟩ := e; have e9 := Hd.mk e9_; clear e9_
        by_cases c10 : q > n
        · rw [if_pos c10] at e
          replace e := GM.bind_eq e; obtain ⟨u11, S11, e11_, e⟩ := e; have e11 := Hd.mk e11_; clear e11_
          obtain ⟨hv, rfl⟩ := GM.pure_eq e
          clear hv
          go_enter Tryz.func119, Tryz.ntmps119
          go_wp2_with fail
          with_reducible refine (tiMove_c (by with_reducible repeat (first | exact H | apply zha | apply zhd | apply zhn)) e1.out).mono ?_
          rintro _ w1 ⟨rfl, H1, K1⟩
          go_wp2_with fail
          with_reducible refine (obIs_c (by with_reducible repeat (first | exact H1 | apply zha | apply zhd | apply zhn)) e2.out).mono ?_
          rintro _ w2 ⟨rfl, H2, K2⟩
          have hn4 := H1.ok.n2
          go_wp2_with fail
          with_reducible refine (tiDead_c (by with_reducible repeat (first | exact H2 | apply zha | apply zhd | apply zhn)) e4.out).mono ?_
          rintro _ w4 ⟨rfl, H4, K4⟩
          go_wp2_with fail
          with_reducible refine (flSettle_c (by with_reducible repeat (first | exact H4 | apply zha | apply zhd | apply zhn)) (by omega) (by omega) hks.out e6.out).mono ?_
          rintro _ w6 ⟨⟨rfl, H6, K6⟩, rn0, rn1⟩
          go_wp2_with fail
          with_reducible refine (tiBlack_c (by with_reducible repeat (first | exact H6 | apply zha | apply zhd | apply zhn)) e7.out).mono ?_
          rintro _ w7 ⟨rfl, H7, K7⟩
          go_wp2_with fail
          with_reducible refine (ctOf_c (by with_reducible repeat (first | exact H7 | apply zha | apply zhd | apply zhn)) e9.out).mono ?_
          rintro _ w9 ⟨⟨rfl, H9, K9⟩, rq0, rq1⟩
          go_wp2_with fail
          with_reducible refine (tiTouch_c (by with_reducible repeat (first | exact H9 | apply zha | apply zhd | apply zhn)) e11.out).mono ?_
          rintro _ w11 ⟨rfl, H11, K11⟩
          go_wp2_with fail
          go_end0
          exact ⟨by first | rfl | (simp; done) | (simp [*]; done), (by with_reducible repeat (first | exact H11 | apply zha | apply zhd | apply zhn)), by
            with_reducible repeat (first | apply zsa | apply zsd | apply zsn)
            refine Stays.trans ?_ K11
            with_reducible repeat (first | apply zsa | apply zsd | apply zsn)
            refine Stays.trans ?_ K9
            with_reducible repeat (first | apply zsa | apply zsd | apply zsn)
            refine Stays.trans ?_ K7
            with_reducible repeat (first | apply zsa | apply zsd | apply zsn)
            refine Stays.trans ?_ K6
            with_reducible repeat (first | apply zsa | apply zsd | apply zsn)
            refine Stays.trans ?_ K4
            with_reducible repeat (first | apply zsa | apply zsd | apply zsn)
            refine Stays.trans ?_ K2
            with_reducible repeat (first | apply zsa | apply zsd | apply zsn)
            refine Stays.trans ?_ K1
            with_reducible repeat (first | apply zsa | apply zsd | apply zsn)
            exact Stays.refl _ _⟩
        · rw [if_neg c10] at e
          obtain ⟨hv, rfl⟩ := GM.pure_eq e
          clear hv
          go_enter Tryz.func119, Tryz.ntmps119
          go_wp2_with fail
          with_reducible refine (tiMove_c (by with_reducible repeat (first | exact H | apply zha | apply zhd | apply zhn)) e1.out).mono ?_
          rintro _ w1 ⟨rfl, H1, K1⟩
          go_wp2_with fail
          with_reducible refine (obIs_c (by with_reducible repeat (first | exact H1 | apply zha | apply zhd | apply zhn)) e2.out).mono ?_
          rintro _ w2 ⟨rfl, H2, K2⟩
          have hn4 := H1.ok.n2
          go_wp2_with fail
          with_reducible refine (tiDead_c (by with_reducible repeat (first | exact H2 | apply zha | apply zhd | apply zhn)) e4.out).mono ?_
          rintro _ w4 ⟨rfl, H4, K4⟩
          go_wp2_with fail
          with_reducible refine (flSettle_c (by with_reducible repeat (first | exact H4 | apply zha | apply zhd | apply zhn)) (by omega) (by omega) hks.out e6.out).mono ?_
          rintro _ w6 ⟨⟨rfl, H6, K6⟩, rn0, rn1⟩
          go_wp2_with fail
          with_reducible refine (tiBlack_c (by with_reducible repeat (first | exact H6 | apply zha | apply zhd | apply zhn)) e7.out).mono ?_
          rintro _ w7 ⟨rfl, H7, K7⟩
          go_wp2_with fail
          with_reducible refine (ctOf_c (by with_reducible repeat (first | exact H7 | apply zha | apply zhd | apply zhn)) e9.out).mono ?_
          rintro _ w9 ⟨⟨rfl, H9, K9⟩, rq0, rq1⟩
          go_wp2_with fail
          go_end0
          exact ⟨by first | rfl | (simp; done) | (simp [*]; done), (by with_reducible repeat (first | exact H9 | apply zha | apply zhd | apply zhn)), by
            with_reducible repeat (first | apply zsa | apply zsd | apply zsn)
            refine Stays.trans ?_ K9
            with_reducible repeat (first | apply zsa | apply zsd | apply zsn)
            refine Stays.trans ?_ K7
            with_reducible repeat (first | apply zsa | apply zsd | apply zsn)
            refine Stays.trans ?_ K6
            with_reducible repeat (first | apply zsa | apply zsd | apply zsn)
            refine Stays.trans ?_ K4
            with_reducible repeat (first | apply zsa | apply zsd | apply zsn)
            refine Stays.trans ?_ K2
            with_reducible repeat (first | apply zsa | apply zsd | apply zsn)
            refine Stays.trans ?_ K1
            with_reducible repeat (first | apply zsa | apply zsd | apply zsn)
            exact Stays.refl _ _⟩
  · rw [if_neg c3] at e; obtain rfl := eq_false_of_ne_true c3; clear c3
    obtain ⟨hv, rfl⟩ := GM.pure_eq e
    clear hv
    go_enter Tryz.func119, Tryz.ntmps119
    go_wp2_with fail
    with_reducible refine (tiMove_c (by with_reducible repeat (first | exact H | apply zha | apply zhd | apply zhn)) e1.out).mono ?_
    rintro _ w1 ⟨rfl, H1, K1⟩
    go_wp2_with fail
    with_reducible refine (obIs_c (by with_reducible repeat (first | exact H1 | apply zha | apply zhd | apply zhn)) e2.out).mono ?_
    rintro _ w2 ⟨rfl, H2, K2⟩
    have hn4 := H1.ok.n2
    go_wp2_with fail
    go_end0
    exact ⟨by first | rfl | (simp; done) | (simp [*]; done), (by with_reducible repeat (first | exact H2 | apply zha | apply zhd | apply zhn)), by
      with_reducible repeat (first | apply zsa | apply zsd | apply zsn)
      refine Stays.trans ?_ K2
      with_reducible repeat (first | apply zsa | apply zsd | apply zsn)
      refine Stays.trans ?_ K1
      with_reducible repeat (first | apply zsa | apply zsd | apply zsn)
      exact Stays.refl _ _⟩

def flStep : GM Bool :=
  tiPhase >>= fun ph =>
  if ph = 2 then
    Reg 14 >>= fun r =>
    if r > 0 then
      flScan r >>= fun _ =>
      pure true
    else
      rgTake >>= fun ⟨b, ok⟩ =>
      if ok then
        SetReg 14 (b + 1) >>= fun _ =>
        SetReg 15 0 >>= fun _ =>
        pure true
      else
        tiAt >>= fun ⟨c0, f0⟩ =>
        getS >>= fun c =>
        if c0 ≥ c.n then
          pure false
        else
          flVisit c0 >>= fun _ =>
          pure true
  else
    pure false

theorem flStep_c {A : GA} {S : GS} {w : World} (H : Held A S w) {v0 : Bool} {T : GS} (e : flStep S = (v0, T)) :
    Calls Tryz.prog 39 #[.pointer (some ⟨A.g, 0, none⟩)] w (Did A w (.bool v0) T) := by
  unfold flStep at e
  replace e := GM.bind_eq e; obtain ⟨ph, S1, e1_, e⟩ := e; have e1 := Hd.mk e1_; clear e1_
  by_cases c2 : ph = 2
  · rw [if_pos c2] at e; subst c2
    replace e := GM.bind_eq e; obtain ⟨r, S3, e3_, e⟩ := e; have e3 := Hd.mk e3_; clear e3_
    by_cases c4 : r > 0
    · rw [if_pos c4] at e
      replace e := GM.bind_eq e; obtain ⟨u5, S5, e5_, e⟩ := e; have e5 := Hd.mk e5_; clear e5_
      obtain ⟨hv, rfl⟩ := GM.pure_eq e
      obtain rfl := hv
      go_enter Tryz.func39, Tryz.ntmps39
      go_wp2_with fail
      with_reducible refine (tiPhase_c (by with_reducible repeat (first | exact H | apply zha | apply zhd | apply zhn)) e1.out).mono ?_
      rintro _ w1 ⟨rfl, H1, K1⟩
      go_wp2_with fail
      with_reducible refine (Reg_c (by with_reducible repeat (first | exact H1 | apply zha | apply zhd | apply zhn)) e3.out).mono ?_
      rintro _ w3 ⟨rfl, H3, K3⟩
      obtain ⟨rr0, rr1⟩ := stGet_range (H1).ok e3.out
      go_wp2_with fail
      with_reducible refine (flScan_c (by with_reducible repeat (first | exact H3 | apply zha | apply zhd | apply zhn)) e5.out).mono ?_
      rintro _ w5 ⟨rfl, H5, K5⟩
      go_wp2_with fail
      go_ret
      exact ⟨by first | rfl | (simp; done) | (simp [*]; done), (by with_reducible repeat (first | exact H5 | apply zha | apply zhd | apply zhn)), by
        with_reducible repeat (first | apply zsa | apply zsd | apply zsn)
        refine Stays.trans ?_ K5
        with_reducible repeat (first | apply zsa | apply zsd | apply zsn)
        refine Stays.trans ?_ K3
        with_reducible repeat (first | apply zsa | apply zsd | apply zsn)
        refine Stays.trans ?_ K1
        with_reducible repeat (first | apply zsa | apply zsd | apply zsn)
        exact Stays.refl _ _⟩
    · rw [if_neg c4] at e
      replace e := GM.bind_eq e; obtain ⟨⟨b, ok⟩, S5, e5_, e⟩ := e; have e5 := Hd.mk e5_; clear e5_
      try dsimp only at e
      by_cases c6 : ok = true
      · rw [if_pos c6] at e; subst c6
        replace e := GM.bind_eq e; obtain ⟨u7, S7, e7_, e⟩ := e; have e7 := Hd.mk e7_; clear e7_
        replace e := GM.bind_eq e; obtain ⟨u8, S8, e8_, e⟩ := e; have e8 := Hd.mk e8_; clear e8_
        obtain ⟨hv, rfl⟩ := GM.pure_eq e
        obtain rfl := hv
        go_enter Tryz.func39, Tryz.ntmps39
        go_wp2_with fail
        with_reducible refine (tiPhase_c (by with_reducible repeat (first | exact H | apply zha | apply zhd | apply zhn)) e1.out).mono ?_
        rintro _ w1 ⟨rfl, H1, K1⟩
        go_wp2_with fail
        with_reducible refine (Reg_c (by with_reducible repeat (first | exact H1 | apply zha | apply zhd | apply zhn)) e3.out).mono ?_
        rintro _ w3 ⟨rfl, H3, K3⟩
        obtain ⟨rr0, rr1⟩ := stGet_range (H1).ok e3.out
        go_wp2_with fail
        with_reducible refine (rgTake_c (by with_reducible repeat (first | exact H3 | apply zha | apply zhd | apply zhn)) e5.out).mono ?_
        rintro _ w5 ⟨rfl, H5, K5⟩
        obtain ⟨rb0, rb1⟩ := rgTake_range H3.ok e5.out
        go_wp2_with fail
        with_reducible refine (SetReg_c (by with_reducible repeat (first | exact H5 | apply zha | apply zhd | apply zhn)) e7.out).mono ?_
        rintro _ w7 ⟨rfl, H7, K7⟩
        go_wp2_with fail
        with_reducible refine (SetReg_c (by with_reducible repeat (first | exact H7 | apply zha | apply zhd | apply zhn)) e8.out).mono ?_
        rintro _ w8 ⟨rfl, H8, K8⟩
        go_wp2_with fail
        go_ret
        exact ⟨by first | rfl | (simp; done) | (simp [*]; done), (by with_reducible repeat (first | exact H8 | apply zha | apply zhd | apply zhn)), by
          with_reducible repeat (first | apply zsa | apply zsd | apply zsn)
          refine Stays.trans ?_ K8
          with_reducible repeat (first | apply zsa | apply zsd | apply zsn)
          refine Stays.trans ?_ K7
          with_reducible repeat (first | apply zsa | apply zsd | apply zsn)
          refine Stays.trans ?_ K5
          with_reducible repeat (first | apply zsa | apply zsd | apply zsn)
          refine Stays.trans ?_ K3
          with_reducible repeat (first | apply zsa | apply zsd | apply zsn)
          refine Stays.trans ?_ K1
          with_reducible repeat (first | apply zsa | apply zsd | apply zsn)
          exact Stays.refl _ _⟩
      · rw [if_neg c6] at e; obtain rfl := eq_false_of_ne_true c6; clear c6
        replace e := GM.bind_eq e; obtain ⟨⟨c0, f0⟩, S7, e7_, e⟩ := e; have e7 := Hd.mk e7_; clear e7_
        try dsimp only at e
        replace e := GM.bind_eq e; obtain ⟨c, S8, e8, e⟩ := e
        obtain ⟨rfl, rfl⟩ := getS_eq e8
        by_cases c9 : c0 ≥ S7.n
        · rw [if_pos c9] at e
          obtain ⟨hv, rfl⟩ := GM.pure_eq e
          obtain rfl := hv
          go_enter Tryz.func39, Tryz.ntmps39
          go_wp2_with fail
          with_reducible refine (tiPhase_c (by with_reducible repeat (first | exact H | apply zha | apply zhd | apply zhn)) e1.out).mono ?_
          rintro _ w1 ⟨rfl, H1, K1⟩
          go_wp2_with fail
          with_reducible refine (Reg_c (by with_reducible repeat (first | exact H1 | apply zha | apply zhd | apply zhn)) e3.out).mono ?_
          rintro _ w3 ⟨rfl, H3, K3⟩
          obtain ⟨rr0, rr1⟩ := stGet_range (H1).ok e3.out
          go_wp2_with fail
          with_reducible refine (rgTake_c (by with_reducible repeat (first | exact H3 | apply zha | apply zhd | apply zhn)) e5.out).mono ?_
          rintro _ w5 ⟨rfl, H5, K5⟩
          obtain ⟨rb0, rb1⟩ := rgTake_range H3.ok e5.out
          go_wp2_with fail
          with_reducible refine (tiAt_c (by with_reducible repeat (first | exact H5 | apply zha | apply zhd | apply zhn)) e7.out).mono ?_
          rintro _ w7 ⟨rfl, H7, K7⟩
          obtain ⟨⟨rc0, rc1⟩, ⟨rf0, rf1⟩⟩ := tiAt_range H5.ok e7.out
          go_wp2_with fail
          refine (conf_c (by with_reducible repeat (first | exact H7 | apply zha | apply zhd | apply zhn))).mono ?_
          rintro _ w8 ⟨rfl, H8, K8⟩
          go_wp2_with fail
          go_ret
          exact ⟨by first | rfl | (simp; done) | (simp [*]; done), (by with_reducible repeat (first | exact H8 | apply zha | apply zhd | apply zhn)), by
            with_reducible repeat (first | apply zsa | apply zsd | apply zsn)
            refine Stays.trans ?_ K8
            with_reducible repeat (first | apply zsa | apply zsd | apply zsn)
            refine Stays.trans ?_ K7
            with_reducible repeat (first | apply zsa | apply zsd | apply zsn)
            refine Stays.trans ?_ K5
            with_reducible repeat (first | apply zsa | apply zsd | apply zsn)
            refine Stays.trans ?_ K3
            with_reducible repeat (first | apply zsa | apply zsd | apply zsn)
            refine Stays.trans ?_ K1
            with_reducible repeat (first | apply zsa | apply zsd | apply zsn)
            exact Stays.refl _ _⟩
        · rw [if_neg c9] at e
          replace e := GM.bind_eq e; obtain ⟨u10, S10, e10_, e⟩ := e; have e10 := Hd.mk e10_; clear e10_
          obtain ⟨hv, rfl⟩ := GM.pure_eq e
          obtain rfl := hv
          go_enter Tryz.func39, Tryz.ntmps39
          go_wp2_with fail
          with_reducible refine (tiPhase_c (by with_reducible repeat (first | exact H | apply zha | apply zhd | apply zhn)) e1.out).mono ?_
          rintro _ w1 ⟨rfl, H1, K1⟩
          go_wp2_with fail
          with_reducible refine (Reg_c (by with_reducible repeat (first | exact H1 | apply zha | apply zhd | apply zhn)) e3.out).mono ?_
          rintro _ w3 ⟨rfl, H3, K3⟩
          obtain ⟨rr0, rr1⟩ := stGet_range (H1).ok e3.out
          go_wp2_with fail
          with_reducible refine (rgTake_c (by with_reducible repeat (first | exact H3 | apply zha | apply zhd | apply zhn)) e5.out).mono ?_
          rintro _ w5 ⟨rfl, H5, K5⟩
          obtain ⟨rb0, rb1⟩ := rgTake_range H3.ok e5.out
          go_wp2_with fail
          with_reducible refine (tiAt_c (by with_reducible repeat (first | exact H5 | apply zha | apply zhd | apply zhn)) e7.out).mono ?_
          rintro _ w7 ⟨rfl, H7, K7⟩
          obtain ⟨⟨rc0, rc1⟩, ⟨rf0, rf1⟩⟩ := tiAt_range H5.ok e7.out
          go_wp2_with fail
          refine (conf_c (by with_reducible repeat (first | exact H7 | apply zha | apply zhd | apply zhn))).mono ?_
          rintro _ w8 ⟨rfl, H8, K8⟩
          go_wp2_with fail
          with_reducible refine (flVisit_c (by with_reducible repeat (first | exact H8 | apply zha | apply zhd | apply zhn)) (by omega) (by omega) e10.out).mono ?_
          rintro _ w10 ⟨rfl, H10, K10⟩
          go_wp2_with fail
          go_ret
          exact ⟨by first | rfl | (simp; done) | (simp [*]; done), (by with_reducible repeat (first | exact H10 | apply zha | apply zhd | apply zhn)), by
            with_reducible repeat (first | apply zsa | apply zsd | apply zsn)
            refine Stays.trans ?_ K10
            with_reducible repeat (first | apply zsa | apply zsd | apply zsn)
            refine Stays.trans ?_ K8
            with_reducible repeat (first | apply zsa | apply zsd | apply zsn)
            refine Stays.trans ?_ K7
            with_reducible repeat (first | apply zsa | apply zsd | apply zsn)
            refine Stays.trans ?_ K5
            with_reducible repeat (first | apply zsa | apply zsd | apply zsn)
            refine Stays.trans ?_ K3
            with_reducible repeat (first | apply zsa | apply zsd | apply zsn)
            refine Stays.trans ?_ K1
            with_reducible repeat (first | apply zsa | apply zsd | apply zsn)
            exact Stays.refl _ _⟩
  · rw [if_neg c2] at e; have c2b : (ph == 2) = false := beq_eq_false_iff_ne.2 c2; have c2n : (ph != 2) = true := bne_iff_ne.2 c2
    obtain ⟨hv, rfl⟩ := GM.pure_eq e
    obtain rfl := hv
    go_enter Tryz.func39, Tryz.ntmps39
    go_wp2_with fail
    with_reducible refine (tiPhase_c (by with_reducible repeat (first | exact H | apply zha | apply zhd | apply zhn)) e1.out).mono ?_
    rintro _ w1 ⟨rfl, H1, K1⟩
    go_wp2_with fail
    go_ret
    exact ⟨by first | rfl | (simp; done) | (simp [*]; done), (by with_reducible repeat (first | exact H1 | apply zha | apply zhd | apply zhn)), by
      with_reducible repeat (first | apply zsa | apply zsd | apply zsn)
      refine Stays.trans ?_ K1
      with_reducible repeat (first | apply zsa | apply zsd | apply zsn)
      exact Stays.refl _ _⟩

def rdStep : GM Bool :=
  tiPhase >>= fun ph =>
  if ph = 1 then
    taStep >>= fun a =>
    rdPass a 2 >>= fun _ =>
    rdRise 17 >>= fun _ =>
    pure true
  else
    if ph = 2 then
      flStep >>= fun a =>
      rdPass a 3 >>= fun _ =>
      rdRise 17 >>= fun _ =>
      pure true
    else
      if ph = 3 then
        rpStep >>= fun a =>
        rdPass a 0 >>= fun _ =>
        rdRise 17 >>= fun _ =>
        pure true
      else
        rdOpen >>= fun a =>
        if a then
          rdRise 17 >>= fun _ =>
          pure true
        else
          pure false

theorem rdStep_c {A : GA} {S : GS} {w : World} (H : Held A S w) {v0 : Bool} {T : GS} (e : rdStep S = (v0, T)) :
    Calls Tryz.prog 43 #[.pointer (some ⟨A.g, 0, none⟩)] w (Did A w (.bool v0) T) := by
  unfold rdStep at e
  replace e := GM.bind_eq e; obtain ⟨ph, S1, e1_, e⟩ := e; have e1 := Hd.mk e1_; clear e1_
  by_cases c2 : ph = 1
  · rw [if_pos c2] at e; subst c2
    replace e := GM.bind_eq e; obtain ⟨a, S3, e3_, e⟩ := e; have e3 := Hd.mk e3_; clear e3_
    replace e := GM.bind_eq e; obtain ⟨u4, S4, e4_, e⟩ := e; have e4 := Hd.mk e4_; clear e4_
    replace e := GM.bind_eq e; obtain ⟨u5, S5, e5_, e⟩ := e; have e5 := Hd.mk e5_; clear e5_
    obtain ⟨hv, rfl⟩ := GM.pure_eq e
    obtain rfl := hv
    go_enter Tryz.func43, Tryz.ntmps43
    go_wp2_with fail
    with_reducible refine (tiPhase_c (by with_reducible repeat (first | exact H | apply zha | apply zhd | apply zhn)) e1.out).mono ?_
    rintro _ w1 ⟨rfl, H1, K1⟩
    go_wp2_with fail
    with_reducible refine (taStep_c (by with_reducible repeat (first | exact H1 | apply zha | apply zhd | apply zhn)) e3.out).mono ?_
    rintro _ w3 ⟨rfl, H3, K3⟩
    go_wp2_with fail
    with_reducible refine (rdPass_c (by with_reducible repeat (first | exact H3 | apply zha | apply zhd | apply zhn)) e4.out).mono ?_
    rintro _ w4 ⟨rfl, H4, K4⟩
    go_wp2_with fail
    with_reducible refine (rdRise_c (by with_reducible repeat (first | exact H4 | apply zha | apply zhd | apply zhn)) e5.out).mono ?_
    rintro _ w5 ⟨rfl, H5, K5⟩
    go_wp2_with fail
    go_ret
    exact ⟨by first | rfl | (simp; done) | (simp [*]; done), (by with_reducible repeat (first | exact H5 | apply zha | apply zhd | apply zhn)), by
      with_reducible repeat (first | apply zsa | apply zsd | apply zsn)
      refine Stays.trans ?_ K5
      with_reducible repeat (first | apply zsa | apply zsd | apply zsn)
      refine Stays.trans ?_ K4
      with_reducible repeat (first | apply zsa | apply zsd | apply zsn)
      refine Stays.trans ?_ K3
      with_reducible repeat (first | apply zsa | apply zsd | apply zsn)
      refine Stays.trans ?_ K1
      with_reducible repeat (first | apply zsa | apply zsd | apply zsn)
      exact Stays.refl _ _⟩
  · rw [if_neg c2] at e; have c2b : (ph == 1) = false := beq_eq_false_iff_ne.2 c2; have c2n : (ph != 1) = true := bne_iff_ne.2 c2
    by_cases c3 : ph = 2
    · rw [if_pos c3] at e; subst c3
      replace e := GM.bind_eq e; obtain ⟨a, S4, e4_, e⟩ := e; have e4 := Hd.mk e4_; clear e4_
      replace e := GM.bind_eq e; obtain ⟨u5, S5, e5_, e⟩ := e; have e5 := Hd.mk e5_; clear e5_
      replace e := GM.bind_eq e; obtain ⟨u6, S6, e6_, e⟩ := e; have e6 := Hd.mk e6_; clear e6_
      obtain ⟨hv, rfl⟩ := GM.pure_eq e
      obtain rfl := hv
      go_enter Tryz.func43, Tryz.ntmps43
      go_wp2_with fail
      with_reducible refine (tiPhase_c (by with_reducible repeat (first | exact H | apply zha | apply zhd | apply zhn)) e1.out).mono ?_
      rintro _ w1 ⟨rfl, H1, K1⟩
      go_wp2_with fail
      with_reducible refine (flStep_c (by with_reducible repeat (first | exact H1 | apply zha | apply zhd | apply zhn)) e4.out).mono ?_
      rintro _ w4 ⟨rfl, H4, K4⟩
      go_wp2_with fail
      with_reducible refine (rdPass_c (by with_reducible repeat (first | exact H4 | apply zha | apply zhd | apply zhn)) e5.out).mono ?_
      rintro _ w5 ⟨rfl, H5, K5⟩
      go_wp2_with fail
      with_reducible refine (rdRise_c (by with_reducible repeat (first | exact H5 | apply zha | apply zhd | apply zhn)) e6.out).mono ?_
      rintro _ w6 ⟨rfl, H6, K6⟩
      go_wp2_with fail
      go_ret
      exact ⟨by first | rfl | (simp; done) | (simp [*]; done), (by with_reducible repeat (first | exact H6 | apply zha | apply zhd | apply zhn)), by
        with_reducible repeat (first | apply zsa | apply zsd | apply zsn)
        refine Stays.trans ?_ K6
        with_reducible repeat (first | apply zsa | apply zsd | apply zsn)
        refine Stays.trans ?_ K5
        with_reducible repeat (first | apply zsa | apply zsd | apply zsn)
        refine Stays.trans ?_ K4
        with_reducible repeat (first | apply zsa | apply zsd | apply zsn)
        refine Stays.trans ?_ K1
        with_reducible repeat (first | apply zsa | apply zsd | apply zsn)
        exact Stays.refl _ _⟩
    · rw [if_neg c3] at e; have c3b : (ph == 2) = false := beq_eq_false_iff_ne.2 c3; have c3n : (ph != 2) = true := bne_iff_ne.2 c3
      by_cases c4 : ph = 3
      · rw [if_pos c4] at e; subst c4
        replace e := GM.bind_eq e; obtain ⟨a, S5, e5_, e⟩ := e; have e5 := Hd.mk e5_; clear e5_
        replace e := GM.bind_eq e; obtain ⟨u6, S6, e6_, e⟩ := e; have e6 := Hd.mk e6_; clear e6_
        replace e := GM.bind_eq e; obtain ⟨u7, S7, e7_, e⟩ := e; have e7 := Hd.mk e7_; clear e7_
        obtain ⟨hv, rfl⟩ := GM.pure_eq e
        obtain rfl := hv
        go_enter Tryz.func43, Tryz.ntmps43
        go_wp2_with fail
        with_reducible refine (tiPhase_c (by with_reducible repeat (first | exact H | apply zha | apply zhd | apply zhn)) e1.out).mono ?_
        rintro _ w1 ⟨rfl, H1, K1⟩
        go_wp2_with fail
        with_reducible refine (rpStep_c (by with_reducible repeat (first | exact H1 | apply zha | apply zhd | apply zhn)) e5.out).mono ?_
        rintro _ w5 ⟨rfl, H5, K5⟩
        go_wp2_with fail
        with_reducible refine (rdPass_c (by with_reducible repeat (first | exact H5 | apply zha | apply zhd | apply zhn)) e6.out).mono ?_
        rintro _ w6 ⟨rfl, H6, K6⟩
        go_wp2_with fail
        with_reducible refine (rdRise_c (by with_reducible repeat (first | exact H6 | apply zha | apply zhd | apply zhn)) e7.out).mono ?_
        rintro _ w7 ⟨rfl, H7, K7⟩
        go_wp2_with fail
        go_ret
        exact ⟨by first | rfl | (simp; done) | (simp [*]; done), (by with_reducible repeat (first | exact H7 | apply zha | apply zhd | apply zhn)), by
          with_reducible repeat (first | apply zsa | apply zsd | apply zsn)
          refine Stays.trans ?_ K7
          with_reducible repeat (first | apply zsa | apply zsd | apply zsn)
          refine Stays.trans ?_ K6
          with_reducible repeat (first | apply zsa | apply zsd | apply zsn)
          refine Stays.trans ?_ K5
          with_reducible repeat (first | apply zsa | apply zsd | apply zsn)
          refine Stays.trans ?_ K1
          with_reducible repeat (first | apply zsa | apply zsd | apply zsn)
          exact Stays.refl _ _⟩
      · rw [if_neg c4] at e; have c4b : (ph == 3) = false := beq_eq_false_iff_ne.2 c4; have c4n : (ph != 3) = true := bne_iff_ne.2 c4
        replace e := GM.bind_eq e; obtain ⟨a, S5, e5_, e⟩ := e; have e5 := Hd.mk e5_; clear e5_
        by_cases c6 : a = true
        · rw [if_pos c6] at e; subst c6
          replace e := GM.bind_eq e; obtain ⟨u7, S7, e7_, e⟩ := e; have e7 := Hd.mk e7_; clear e7_
          obtain ⟨hv, rfl⟩ := GM.pure_eq e
          obtain rfl := hv
          go_enter Tryz.func43, Tryz.ntmps43
          go_wp2_with fail
          with_reducible refine (tiPhase_c (by with_reducible repeat (first | exact H | apply zha | apply zhd | apply zhn)) e1.out).mono ?_
          rintro _ w1 ⟨rfl, H1, K1⟩
          go_wp2_with fail
          with_reducible refine (rdOpen_c (by with_reducible repeat (first | exact H1 | apply zha | apply zhd | apply zhn)) e5.out).mono ?_
          rintro _ w5 ⟨rfl, H5, K5⟩
          go_wp2_with fail
          with_reducible refine (rdRise_c (by with_reducible repeat (first | exact H5 | apply zha | apply zhd | apply zhn)) e7.out).mono ?_
          rintro _ w7 ⟨rfl, H7, K7⟩
          go_wp2_with fail
          go_ret
          exact ⟨by first | rfl | (simp; done) | (simp [*]; done), (by with_reducible repeat (first | exact H7 | apply zha | apply zhd | apply zhn)), by
            with_reducible repeat (first | apply zsa | apply zsd | apply zsn)
            refine Stays.trans ?_ K7
            with_reducible repeat (first | apply zsa | apply zsd | apply zsn)
            refine Stays.trans ?_ K5
            with_reducible repeat (first | apply zsa | apply zsd | apply zsn)
            refine Stays.trans ?_ K1
            with_reducible repeat (first | apply zsa | apply zsd | apply zsn)
            exact Stays.refl _ _⟩
        · rw [if_neg c6] at e; obtain rfl := eq_false_of_ne_true c6; clear c6
          obtain ⟨hv, rfl⟩ := GM.pure_eq e
          obtain rfl := hv
          go_enter Tryz.func43, Tryz.ntmps43
          go_wp2_with fail
          with_reducible refine (tiPhase_c (by with_reducible repeat (first | exact H | apply zha | apply zhd | apply zhn)) e1.out).mono ?_
          rintro _ w1 ⟨rfl, H1, K1⟩
          go_wp2_with fail
          with_reducible refine (rdOpen_c (by with_reducible repeat (first | exact H1 | apply zha | apply zhd | apply zhn)) e5.out).mono ?_
          rintro _ w5 ⟨rfl, H5, K5⟩
          go_wp2_with fail
          go_ret
          exact ⟨by first | rfl | (simp; done) | (simp [*]; done), (by with_reducible repeat (first | exact H5 | apply zha | apply zhd | apply zhn)), by
            with_reducible repeat (first | apply zsa | apply zsd | apply zsn)
            refine Stays.trans ?_ K5
            with_reducible repeat (first | apply zsa | apply zsd | apply zsn)
            refine Stays.trans ?_ K1
            with_reducible repeat (first | apply zsa | apply zsd | apply zsn)
            exact Stays.refl _ _⟩
end Go.Proofs.YtadhdjldcpkfiaaGreatDoor
