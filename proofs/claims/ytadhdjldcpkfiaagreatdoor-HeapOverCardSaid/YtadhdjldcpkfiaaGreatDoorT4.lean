/- What the calls of pool, obj and grave do. Nothing is asked but that the ground lies there. -/
import Derived.Test.YtadhdjldcpkfiaaGreatDoorT3
namespace Go.Proofs.YtadhdjldcpkfiaaGreatDoor
set_option linter.unusedVariables false
set_option linter.unusedSimpArgs false
open Go.RowKit
set_option maxRecDepth 100000
set_option maxHeartbeats 1600000
theorem shBlocks_range {W p d n e0 : Int} (h0 : 16 ≤ W) (h1 : W ≤ 256) (e : shBlocks W p d = (n, e0)) : 0 ≤ n ∧ n ≤ 63241 := by
  have hm : 0 ≤ shMost W ∧ shMost W ≤ 63240 := shMost_range h0 h1
  unfold shBlocks at e
  split at e
  · cases e; omega
  · split at e
    · cases e; omega
    · split at e
      · cases e; omega
      · split at e
        · cases e; omega
        · have := shLeaves_range (f := p + d) h0 h1 (by omega) (by omega)
          cases e
          omega
theorem chFirst_range {k : Int} {S T : GS} {b : Int} {ok : Bool} (h : S.Ok) (e : chFirst k S = ((b, ok), T)) : 0 ≤ b ∧ b ≤ 4294967294 := by
  unfold chFirst at e
  obtain ⟨n, U, h1, h2⟩ := GM.bind_eq e
  have := stGet_range h h1
  split at h2
  · cases h2; omega
  · cases h2; omega
theorem mul_range {l W : Int} (l0 : 0 < l) (l1 : l ≤ 4294967295) (h0 : 16 ≤ W) (h1 : W ≤ 256) : 0 ≤ (l - 1) * (W - 1) ∧ (l - 1) * (W - 1) ≤ 1095216659970 := by
  constructor
  · exact Int.mul_nonneg (by omega) (by omega)
  · exact Int.le_trans (Int.mul_le_mul (show l - 1 ≤ 4294967294 by omega) (show W - 1 ≤ 255 by omega) (by omega) (by omega)) (by omega)

def poGive (b : Int) : GM Bool :=
  Word b 0 >>= fun v =>
  pure (tagOf v) >>= fun t =>
  if t.kind = 0 then
    pure false
  else
    SetWord b 0 0 >>= fun _ =>
    chPush 0 b >>= fun p =>
    pure p

theorem poGive_c {A : GA} {S : GS} {w : World} (H : Held A S w) {b : Int} {v0 : Bool} {T : GS} (e : poGive b S = (v0, T)) :
    Calls Tryz.prog 234 #[.pointer (some ⟨A.g, 0, none⟩), .int .i64 b] w (Did A w (.bool v0) T) := by
  unfold poGive at e
  replace e := GM.bind_eq e; obtain ⟨v, S1, e1_, e⟩ := e; have e1 := Hd.mk e1_; clear e1_
  replace e := GM.bind_eq e; obtain ⟨t, S2, e2_, e⟩ := e; have e2 := Hd.mk e2_; clear e2_
  by_cases c3 : t.kind = 0
  · rw [if_pos c3] at e; have c3b : (t.kind == 0) = true := beq_iff_eq.2 c3; have c3n : (t.kind != 0) = false := by rw [bne_eq_false_iff_eq]; exact c3
    clear c3
    obtain ⟨hv, rfl⟩ := GM.pure_eq e
    obtain rfl := hv
    go_enter Tryz.func234, Tryz.ntmps234
    go_wp2_with fail
    with_reducible refine (Word_c (by with_reducible repeat (first | exact H | apply zha | apply zhd | apply zhn)) e1.out).mono ?_
    rintro _ w1 ⟨rfl, H1, K1⟩
    obtain ⟨rv0, rv1⟩ := stGet_range (H).ok e1.out
    go_wp2_with fail
    with_reducible refine (Unpack_p (by with_reducible repeat (first | exact H1 | apply zha | apply zhd | apply zhn)) rv0 rv1 e2.out).mono ?_
    rintro _ w2 ⟨rfl, H2, K2⟩
    go_wp2_with fail
    go_ret
    exact ⟨by first | rfl | (simp; done) | (simp [*]; done), (by with_reducible repeat (first | exact H2 | apply zha | apply zhd | apply zhn)), by
      with_reducible repeat (first | apply zsa | apply zsd | apply zsn)
      refine Stays.trans ?_ K2
      with_reducible repeat (first | apply zsa | apply zsd | apply zsn)
      refine Stays.trans ?_ K1
      with_reducible repeat (first | apply zsa | apply zsd | apply zsn)
      exact Stays.refl _ _⟩
  · rw [if_neg c3] at e; have c3b : (t.kind == 0) = false := beq_eq_false_iff_ne.2 c3; have c3n : (t.kind != 0) = true := bne_iff_ne.2 c3
    replace e := GM.bind_eq e; obtain ⟨u4, S4, e4_, e⟩ := e; have e4 := Hd.mk e4_; clear e4_
    replace e := GM.bind_eq e; obtain ⟨p, S5, e5_, e⟩ := e; have e5 := Hd.mk e5_; clear e5_
    obtain ⟨hv, rfl⟩ := GM.pure_eq e
    obtain rfl := hv
    go_enter Tryz.func234, Tryz.ntmps234
    go_wp2_with fail
    with_reducible refine (Word_c (by with_reducible repeat (first | exact H | apply zha | apply zhd | apply zhn)) e1.out).mono ?_
    rintro _ w1 ⟨rfl, H1, K1⟩
    obtain ⟨rv0, rv1⟩ := stGet_range (H).ok e1.out
    go_wp2_with fail
    with_reducible refine (Unpack_p (by with_reducible repeat (first | exact H1 | apply zha | apply zhd | apply zhn)) rv0 rv1 e2.out).mono ?_
    rintro _ w2 ⟨rfl, H2, K2⟩
    go_wp2_with fail
    with_reducible refine (SetWord_c (by with_reducible repeat (first | exact H2 | apply zha | apply zhd | apply zhn)) (by omega) (by omega) e4.out).mono ?_
    rintro _ w4 ⟨rfl, H4, K4⟩
    go_wp2_with fail
    with_reducible refine (chPush_o (by with_reducible repeat (first | exact H4 | apply zha | apply zhd | apply zhn)) (by omega) (by omega) e5.out).mono ?_
    rintro _ w5 ⟨rfl, H5, K5⟩
    go_wp2_with fail
    go_ret
    exact ⟨by first | rfl | (simp; done) | (simp [*]; done), (by with_reducible repeat (first | exact H5 | apply zha | apply zhd | apply zhn)), by
      with_reducible repeat (first | apply zsa | apply zsd | apply zsn)
      refine Stays.trans ?_ K5
      with_reducible repeat (first | apply zsa | apply zsd | apply zsn)
      refine Stays.trans ?_ K4
      with_reducible repeat (first | apply zsa | apply zsd | apply zsn)
      refine Stays.trans ?_ K2
      with_reducible repeat (first | apply zsa | apply zsd | apply zsn)
      refine Stays.trans ?_ K1
      with_reducible repeat (first | apply zsa | apply zsd | apply zsn)
      exact Stays.refl _ _⟩

def obBlocks (r : Int) : GM Int :=
  obLens r >>= fun ⟨n, d, er⟩ =>
  if er = 0 then
    getS >>= fun c =>
    pure (shBlocks c.w n d) >>= fun ⟨k, e2⟩ =>
    pure k
  else
    pure 0

theorem obBlocks_c {A : GA} {S : GS} {w : World} (H : Held A S w) {r : Int} {v0 : Int} {T : GS} (e : obBlocks r S = (v0, T)) :
    Calls Tryz.prog 110 #[.pointer (some ⟨A.g, 0, none⟩), .int .i64 r] w (fun e w' => Did A w (.int .i64 v0) T e w' ∧ 0 ≤ v0 ∧ v0 ≤ 4294967295) := by
  unfold obBlocks at e
  replace e := GM.bind_eq e; obtain ⟨⟨n, d, er⟩, S1, e1_, e⟩ := e; have e1 := Hd.mk e1_; clear e1_
  dsimp only at e
  by_cases c2 : er = 0
  · rw [if_pos c2] at e; subst c2
    replace e := GM.bind_eq e; obtain ⟨c, S3, e3, e⟩ := e
    obtain ⟨rfl, rfl⟩ := getS_eq e3
    replace e := GM.bind_eq e; obtain ⟨⟨k, e2⟩, S4, e4_, e⟩ := e; have e4 := Hd.mk e4_; clear e4_
    dsimp only at e
    obtain ⟨hv, rfl⟩ := GM.pure_eq e
    obtain rfl := hv
    go_enter Tryz.func110, Tryz.ntmps110
    go_wp2_with fail
    with_reducible refine (obLens_c (by with_reducible repeat (first | exact H | apply zha | apply zhd | apply zhn)) e1.out).mono ?_
    rintro _ w1 ⟨rfl, H1, K1⟩
    obtain ⟨⟨rn0, rn1⟩, ⟨rd0, rd1⟩, _⟩ := obLens_range H.ok e1.out
    go_wp2_with fail
    refine (conf_c (by with_reducible repeat (first | exact H1 | apply zha | apply zhd | apply zhn))).mono ?_
    rintro _ w3 ⟨rfl, H3, K3⟩
    go_wp2_with fail
    with_reducible refine (Blocks_p (by with_reducible repeat (first | exact H3 | apply zha | apply zhd | apply zhn)) e4.out).mono ?_
    rintro _ w4 ⟨rfl, H4, K4⟩
    obtain ⟨rk0, rk1⟩ := shBlocks_range H3.ok.w1 H3.ok.w2 (GM.pure_eq e4.out).1
    go_wp2_with fail
    go_ret
    exact ⟨⟨by first | rfl | (simp; done) | (simp [*]; done), (by with_reducible repeat (first | exact H4 | apply zha | apply zhd | apply zhn)), by
      with_reducible repeat (first | apply zsa | apply zsd | apply zsn)
      refine Stays.trans ?_ K4
      with_reducible repeat (first | apply zsa | apply zsd | apply zsn)
      refine Stays.trans ?_ K3
      with_reducible repeat (first | apply zsa | apply zsd | apply zsn)
      refine Stays.trans ?_ K1
      with_reducible repeat (first | apply zsa | apply zsd | apply zsn)
      exact Stays.refl _ _⟩, by omega, by omega⟩
  · rw [if_neg c2] at e; have c2b : (er == 0) = false := beq_eq_false_iff_ne.2 c2; have c2n : (er != 0) = true := bne_iff_ne.2 c2
    obtain ⟨hv, rfl⟩ := GM.pure_eq e
    obtain rfl := hv
    go_enter Tryz.func110, Tryz.ntmps110
    go_wp2_with fail
    with_reducible refine (obLens_c (by with_reducible repeat (first | exact H | apply zha | apply zhd | apply zhn)) e1.out).mono ?_
    rintro _ w1 ⟨rfl, H1, K1⟩
    obtain ⟨⟨rn0, rn1⟩, ⟨rd0, rd1⟩, _⟩ := obLens_range H.ok e1.out
    go_wp2_with fail
    go_ret
    exact ⟨⟨by first | rfl | (simp; done) | (simp [*]; done), (by with_reducible repeat (first | exact H1 | apply zha | apply zhd | apply zhn)), by
      with_reducible repeat (first | apply zsa | apply zsd | apply zsn)
      refine Stays.trans ?_ K1
      with_reducible repeat (first | apply zsa | apply zsd | apply zsn)
      exact Stays.refl _ _⟩, by omega, by omega⟩

theorem obBlocks_pos {r k : Int} {S T : GS} (h : S.Ok) (e : obBlocks r S = (k, T)) (hk : 1 ≤ k) : 1 ≤ r ∧ r ≤ S.n := by
  unfold obBlocks at e
  obtain ⟨⟨n, d, er⟩, U, h1, h2⟩ := GM.bind_eq e
  have h3 := (obLens_range h h1).2.2
  dsimp only at h2
  split at h2
  · exact h3 (by assumption)
  · cases h2; omega

def obShed (r : Int) (leaf : Int) : GM Bool :=
  if leaf < 0 then
    pure false
  else
    obBlocks r >>= fun k =>
    if leaf ≥ k - 1 then
      pure false
    else
      Word (r - 1) (8 + leaf) >>= fun b =>
      if b = 0 then
        pure false
      else
        SetWord (r - 1) (8 + leaf) 0 >>= fun _ =>
        poGive (b - 1) >>= fun p =>
        pure p

theorem obShed_c {A : GA} {S : GS} {w : World} (H : Held A S w) {r : Int} {leaf : Int} {v0 : Bool} {T : GS} (e : obShed r leaf S = (v0, T)) :
    Calls Tryz.prog 193 #[.pointer (some ⟨A.g, 0, none⟩), .int .i64 r, .int .i64 leaf] w (Did A w (.bool v0) T) := by
  unfold obShed at e
  have hn2 := H.ok.n2
  by_cases c1 : leaf < 0
  · rw [if_pos c1] at e
    obtain ⟨hv, rfl⟩ := GM.pure_eq e
    obtain rfl := hv
    go_enter Tryz.func193, Tryz.ntmps193
    go_wp2_with fail
    go_ret
    exact ⟨by first | rfl | (simp; done) | (simp [*]; done), (by with_reducible repeat (first | exact H | apply zha | apply zhd | apply zhn)), by
      with_reducible repeat (first | apply zsa | apply zsd | apply zsn)
      exact Stays.refl _ _⟩
  · rw [if_neg c1] at e
    replace e := GM.bind_eq e; obtain ⟨k, S2, e2_, e⟩ := e; have e2 := Hd.mk e2_; clear e2_
    by_cases c3 : leaf ≥ k - 1
    · rw [if_pos c3] at e
      obtain ⟨hv, rfl⟩ := GM.pure_eq e
      obtain rfl := hv
      go_enter Tryz.func193, Tryz.ntmps193
      go_wp2_with fail
      with_reducible refine (obBlocks_c (by with_reducible repeat (first | exact H | apply zha | apply zhd | apply zhn)) e2.out).mono ?_
      rintro _ w2 ⟨⟨rfl, H2, K2⟩, rk0, rk1⟩
      go_wp2_with fail
      go_ret
      exact ⟨by first | rfl | (simp; done) | (simp [*]; done), (by with_reducible repeat (first | exact H2 | apply zha | apply zhd | apply zhn)), by
        with_reducible repeat (first | apply zsa | apply zsd | apply zsn)
        refine Stays.trans ?_ K2
        with_reducible repeat (first | apply zsa | apply zsd | apply zsn)
        exact Stays.refl _ _⟩
    · rw [if_neg c3] at e
      obtain ⟨hr0, hr1⟩ := obBlocks_pos H.ok e2.out (by omega)
      replace e := GM.bind_eq e; obtain ⟨b, S4, e4_, e⟩ := e; have e4 := Hd.mk e4_; clear e4_
      by_cases c5 : b = 0
      · rw [if_pos c5] at e; subst c5
        obtain ⟨hv, rfl⟩ := GM.pure_eq e
        obtain rfl := hv
        go_enter Tryz.func193, Tryz.ntmps193
        go_wp2_with fail
        with_reducible refine (obBlocks_c (by with_reducible repeat (first | exact H | apply zha | apply zhd | apply zhn)) e2.out).mono ?_
        rintro _ w2 ⟨⟨rfl, H2, K2⟩, rk0, rk1⟩
        go_wp2_with fail
        with_reducible refine (Word_c (by with_reducible repeat (first | exact H2 | apply zha | apply zhd | apply zhn)) e4.out).mono ?_
        rintro _ w4 ⟨rfl, H4, K4⟩
        obtain ⟨rb0, rb1⟩ := stGet_range (H2).ok e4.out
        go_wp2_with fail
        go_ret
        exact ⟨by first | rfl | (simp; done) | (simp [*]; done), (by with_reducible repeat (first | exact H4 | apply zha | apply zhd | apply zhn)), by
          with_reducible repeat (first | apply zsa | apply zsd | apply zsn)
          refine Stays.trans ?_ K4
          with_reducible repeat (first | apply zsa | apply zsd | apply zsn)
          refine Stays.trans ?_ K2
          with_reducible repeat (first | apply zsa | apply zsd | apply zsn)
          exact Stays.refl _ _⟩
      · rw [if_neg c5] at e; have c5b : (b == 0) = false := beq_eq_false_iff_ne.2 c5; have c5n : (b != 0) = true := bne_iff_ne.2 c5
        replace e := GM.bind_eq e; obtain ⟨u6, S6, e6_, e⟩ := e; have e6 := Hd.mk e6_; clear e6_
        replace e := GM.bind_eq e; obtain ⟨p, S7, e7_, e⟩ := e; have e7 := Hd.mk e7_; clear e7_
        obtain ⟨hv, rfl⟩ := GM.pure_eq e
        obtain rfl := hv
        go_enter Tryz.func193, Tryz.ntmps193
        go_wp2_with fail
        with_reducible refine (obBlocks_c (by with_reducible repeat (first | exact H | apply zha | apply zhd | apply zhn)) e2.out).mono ?_
        rintro _ w2 ⟨⟨rfl, H2, K2⟩, rk0, rk1⟩
        go_wp2_with fail
        with_reducible refine (Word_c (by with_reducible repeat (first | exact H2 | apply zha | apply zhd | apply zhn)) e4.out).mono ?_
        rintro _ w4 ⟨rfl, H4, K4⟩
        obtain ⟨rb0, rb1⟩ := stGet_range (H2).ok e4.out
        go_wp2_with fail
        with_reducible refine (SetWord_c (by with_reducible repeat (first | exact H4 | apply zha | apply zhd | apply zhn)) (by omega) (by omega) e6.out).mono ?_
        rintro _ w6 ⟨rfl, H6, K6⟩
        go_wp2_with fail
        with_reducible refine (poGive_c (by with_reducible repeat (first | exact H6 | apply zha | apply zhd | apply zhn)) e7.out).mono ?_
        rintro _ w7 ⟨rfl, H7, K7⟩
        go_wp2_with fail
        go_ret
        exact ⟨by first | rfl | (simp; done) | (simp [*]; done), (by with_reducible repeat (first | exact H7 | apply zha | apply zhd | apply zhn)), by
          with_reducible repeat (first | apply zsa | apply zsd | apply zsn)
          refine Stays.trans ?_ K7
          with_reducible repeat (first | apply zsa | apply zsd | apply zsn)
          refine Stays.trans ?_ K6
          with_reducible repeat (first | apply zsa | apply zsd | apply zsn)
          refine Stays.trans ?_ K4
          with_reducible repeat (first | apply zsa | apply zsd | apply zsn)
          refine Stays.trans ?_ K2
          with_reducible repeat (first | apply zsa | apply zsd | apply zsn)
          exact Stays.refl _ _⟩

def obEnd (r : Int) : GM Bool :=
  obIs r >>= fun i =>
  if i then
    poGive (r - 1) >>= fun p =>
    pure p
  else
    pure false

theorem obEnd_c {A : GA} {S : GS} {w : World} (H : Held A S w) {r : Int} {v0 : Bool} {T : GS} (e : obEnd r S = (v0, T)) :
    Calls Tryz.prog 195 #[.pointer (some ⟨A.g, 0, none⟩), .int .i64 r] w (Did A w (.bool v0) T) := by
  unfold obEnd at e
  have hn2 := H.ok.n2
  replace e := GM.bind_eq e; obtain ⟨i, S1, e1_, e⟩ := e; have e1 := Hd.mk e1_; clear e1_
  by_cases c2 : i = true
  · rw [if_pos c2] at e; subst c2
    obtain ⟨hr0, hr1⟩ := obIs_true e1.out
    replace e := GM.bind_eq e; obtain ⟨p, S3, e3_, e⟩ := e; have e3 := Hd.mk e3_; clear e3_
    obtain ⟨hv, rfl⟩ := GM.pure_eq e
    obtain rfl := hv
    go_enter Tryz.func195, Tryz.ntmps195
    go_wp2_with fail
    with_reducible refine (obIs_c (by with_reducible repeat (first | exact H | apply zha | apply zhd | apply zhn)) e1.out).mono ?_
    rintro _ w1 ⟨rfl, H1, K1⟩
    go_wp2_with fail
    with_reducible refine (poGive_c (by with_reducible repeat (first | exact H1 | apply zha | apply zhd | apply zhn)) e3.out).mono ?_
    rintro _ w3 ⟨rfl, H3, K3⟩
    go_wp2_with fail
    go_ret
    exact ⟨by first | rfl | (simp; done) | (simp [*]; done), (by with_reducible repeat (first | exact H3 | apply zha | apply zhd | apply zhn)), by
      with_reducible repeat (first | apply zsa | apply zsd | apply zsn)
      refine Stays.trans ?_ K3
      with_reducible repeat (first | apply zsa | apply zsd | apply zsn)
      refine Stays.trans ?_ K1
      with_reducible repeat (first | apply zsa | apply zsd | apply zsn)
      exact Stays.refl _ _⟩
  · rw [if_neg c2] at e; obtain rfl := eq_false_of_ne_true c2; clear c2
    obtain ⟨hv, rfl⟩ := GM.pure_eq e
    obtain rfl := hv
    go_enter Tryz.func195, Tryz.ntmps195
    go_wp2_with fail
    with_reducible refine (obIs_c (by with_reducible repeat (first | exact H | apply zha | apply zhd | apply zhn)) e1.out).mono ?_
    rintro _ w1 ⟨rfl, H1, K1⟩
    go_wp2_with fail
    go_ret
    exact ⟨by first | rfl | (simp; done) | (simp [*]; done), (by with_reducible repeat (first | exact H1 | apply zha | apply zhd | apply zhn)), by
      with_reducible repeat (first | apply zsa | apply zsd | apply zsn)
      refine Stays.trans ?_ K1
      with_reducible repeat (first | apply zsa | apply zsd | apply zsn)
      exact Stays.refl _ _⟩

def gvBury (r : Int) : GM Bool :=
  obIs r >>= fun i =>
  if i then
    ctOf r >>= fun q =>
    if q > 0 then
      pure false
    else
      tiKill r >>= fun kl =>
      if kl then
        rgCut (r - 1) >>= fun _ =>
        Reg 14 >>= fun s =>
        if s = r then
          SetReg 14 0 >>= fun _ =>
          obLens r >>= fun ⟨n, d, er⟩ =>
          obBlocks r >>= fun k =>
          SetWord (r - 1) 6 n >>= fun _ =>
          SetWord (r - 1) 7 ((k - 1) % 4294967296) >>= fun _ =>
          Reg 6 >>= fun pd =>
          SetReg 6 (pd + k) >>= fun _ =>
          chAdd 1 (r - 1) >>= fun a =>
          pure a
        else
          obLens r >>= fun ⟨n, d, er⟩ =>
          obBlocks r >>= fun k =>
          SetWord (r - 1) 6 n >>= fun _ =>
          SetWord (r - 1) 7 ((k - 1) % 4294967296) >>= fun _ =>
          Reg 6 >>= fun pd =>
          SetReg 6 (pd + k) >>= fun _ =>
          chAdd 1 (r - 1) >>= fun a =>
          pure a
      else
        pure false
  else
    pure false

theorem gvBury_c {A : GA} {S : GS} {w : World} (H : Held A S w) {r : Int} {v0 : Bool} {T : GS} (e : gvBury r S = (v0, T)) :
    Calls Tryz.prog 32 #[.pointer (some ⟨A.g, 0, none⟩), .int .i64 r] w (Did A w (.bool v0) T) := by
  unfold gvBury at e
  have hn2 := H.ok.n2
  replace e := GM.bind_eq e; obtain ⟨i, S1, e1_, e⟩ := e; have e1 := Hd.mk e1_; clear e1_
  by_cases c2 : i = true
  · rw [if_pos c2] at e; subst c2
    obtain ⟨hr0, hr1⟩ := obIs_true e1.out
    replace e := GM.bind_eq e; obtain ⟨q, S3, e3_, e⟩ := e; have e3 := Hd.mk e3_; clear e3_
    by_cases c4 : q > 0
    · rw [if_pos c4] at e
      obtain ⟨hv, rfl⟩ := GM.pure_eq e
      obtain rfl := hv
      go_enter Tryz.func32, Tryz.ntmps32
      go_wp2_with fail
      with_reducible refine (obIs_c (by with_reducible repeat (first | exact H | apply zha | apply zhd | apply zhn)) e1.out).mono ?_
      rintro _ w1 ⟨rfl, H1, K1⟩
      go_wp2_with fail
      with_reducible refine (ctOf_c (by with_reducible repeat (first | exact H1 | apply zha | apply zhd | apply zhn)) e3.out).mono ?_
      rintro _ w3 ⟨⟨rfl, H3, K3⟩, rq0, rq1⟩
      go_wp2_with fail
      go_ret
      exact ⟨by first | rfl | (simp; done) | (simp [*]; done), (by with_reducible repeat (first | exact H3 | apply zha | apply zhd | apply zhn)), by
        with_reducible repeat (first | apply zsa | apply zsd | apply zsn)
        refine Stays.trans ?_ K3
        with_reducible repeat (first | apply zsa | apply zsd | apply zsn)
        refine Stays.trans ?_ K1
        with_reducible repeat (first | apply zsa | apply zsd | apply zsn)
        exact Stays.refl _ _⟩
    · rw [if_neg c4] at e
      replace e := GM.bind_eq e; obtain ⟨kl, S5, e5_, e⟩ := e; have e5 := Hd.mk e5_; clear e5_
      by_cases c6 : kl = true
      · rw [if_pos c6] at e; subst c6
        replace e := GM.bind_eq e; obtain ⟨u7, S7, e7_, e⟩ := e; have e7 := Hd.mk e7_; clear e7_
        replace e := GM.bind_eq e; obtain ⟨s, S8, e8_, e⟩ := e; have e8 := Hd.mk e8_; clear e8_
        by_cases c9 : s = r
        · rw [if_pos c9] at e; have c9b : (s == r) = true := beq_iff_eq.2 c9; have c9n : (s != r) = false := by rw [bne_eq_false_iff_eq]; exact c9
          clear c9
          replace e := GM.bind_eq e; obtain ⟨u10, S10, e10_, e⟩ := e; have e10 := Hd.mk e10_; clear e10_
          replace e := GM.bind_eq e; obtain ⟨⟨n, d, er⟩, S11, e11_, e⟩ := e; have e11 := Hd.mk e11_; clear e11_
          dsimp only at e
          replace e := GM.bind_eq e; obtain ⟨k, S12, e12_, e⟩ := e; have e12 := Hd.mk e12_; clear e12_
          replace e := GM.bind_eq e; obtain ⟨u13, S13, e13_, e⟩ := e; have e13 := Hd.mk e13_; clear e13_
          replace e := GM.bind_eq e; obtain ⟨u14, S14, e14_, e⟩ := e; have e14 := Hd.mk e14_; clear e14_
          replace e := GM.bind_eq e; obtain ⟨pd, S15, e15_, e⟩ := e; have e15 := Hd.mk e15_; clear e15_
          replace e := GM.bind_eq e; obtain ⟨u16, S16, e16_, e⟩ := e; have e16 := Hd.mk e16_; clear e16_
          replace e := GM.bind_eq e; obtain ⟨a, S17, e17_, e⟩ := e; have e17 := Hd.mk e17_; clear e17_
          obtain ⟨hv, rfl⟩ := GM.pure_eq e
          obtain rfl := hv
          go_enter Tryz.func32, Tryz.ntmps32
          go_wp2_with fail
          with_reducible refine (obIs_c (by with_reducible repeat (first | exact H | apply zha | apply zhd | apply zhn)) e1.out).mono ?_
          rintro _ w1 ⟨rfl, H1, K1⟩
          go_wp2_with fail
          with_reducible refine (ctOf_c (by with_reducible repeat (first | exact H1 | apply zha | apply zhd | apply zhn)) e3.out).mono ?_
          rintro _ w3 ⟨⟨rfl, H3, K3⟩, rq0, rq1⟩
          go_wp2_with fail
          with_reducible refine (tiKill_c (by with_reducible repeat (first | exact H3 | apply zha | apply zhd | apply zhn)) e5.out).mono ?_
          rintro _ w5 ⟨rfl, H5, K5⟩
          go_wp2_with fail
          with_reducible refine (rgCut_c (by with_reducible repeat (first | exact H5 | apply zha | apply zhd | apply zhn)) e7.out).mono ?_
          rintro _ w7 ⟨rfl, H7, K7⟩
          go_wp2_with fail
          with_reducible refine (Reg_c (by with_reducible repeat (first | exact H7 | apply zha | apply zhd | apply zhn)) e8.out).mono ?_
          rintro _ w8 ⟨rfl, H8, K8⟩
          obtain ⟨rs0, rs1⟩ := stGet_range (H7).ok e8.out
          go_wp2_with fail
          with_reducible refine (SetReg_c (by with_reducible repeat (first | exact H8 | apply zha | apply zhd | apply zhn)) e10.out).mono ?_
          rintro _ w10 ⟨rfl, H10, K10⟩
          go_wp2_with fail
          with_reducible refine (obLens_c (by with_reducible repeat (first | exact H10 | apply zha | apply zhd | apply zhn)) e11.out).mono ?_
          rintro _ w11 ⟨rfl, H11, K11⟩
          obtain ⟨⟨rn0, rn1⟩, ⟨rd0, rd1⟩, _⟩ := obLens_range H10.ok e11.out
          go_wp2_with fail
          with_reducible refine (obBlocks_c (by with_reducible repeat (first | exact H11 | apply zha | apply zhd | apply zhn)) e12.out).mono ?_
          rintro _ w12 ⟨⟨rfl, H12, K12⟩, rk0, rk1⟩
          go_wp2_with fail
          with_reducible refine (SetWord_c (by with_reducible repeat (first | exact H12 | apply zha | apply zhd | apply zhn)) (by omega) (by omega) e13.out).mono ?_
          rintro _ w13 ⟨rfl, H13, K13⟩
          go_wp2_with fail
          with_reducible refine (SetWord_c (by with_reducible repeat (first | exact H13 | apply zha | apply zhd | apply zhn)) (by omega) (by omega) e14.out).mono ?_
          rintro _ w14 ⟨rfl, H14, K14⟩
          go_wp2_with fail
          with_reducible refine (Reg_c (by with_reducible repeat (first | exact H14 | apply zha | apply zhd | apply zhn)) e15.out).mono ?_
          rintro _ w15 ⟨rfl, H15, K15⟩
          obtain ⟨rpd0, rpd1⟩ := stGet_range (H14).ok e15.out
          go_wp2_with fail
          with_reducible refine (SetReg_c (by with_reducible repeat (first | exact H15 | apply zha | apply zhd | apply zhn)) e16.out).mono ?_
          rintro _ w16 ⟨rfl, H16, K16⟩
          go_wp2_with fail
          with_reducible refine (chAdd_o (by with_reducible repeat (first | exact H16 | apply zha | apply zhd | apply zhn)) (by omega) (by omega) e17.out).mono ?_
          rintro _ w17 ⟨rfl, H17, K17⟩
          go_wp2_with fail
          go_ret
          exact ⟨by first | rfl | (simp; done) | (simp [*]; done), (by with_reducible repeat (first | exact H17 | apply zha | apply zhd | apply zhn)), by
            with_reducible repeat (first | apply zsa | apply zsd | apply zsn)
            refine Stays.trans ?_ K17
            with_reducible repeat (first | apply zsa | apply zsd | apply zsn)
            refine Stays.trans ?_ K16
            with_reducible repeat (first | apply zsa | apply zsd | apply zsn)
            refine Stays.trans ?_ K15
            with_reducible repeat (first | apply zsa | apply zsd | apply zsn)
            refine Stays.trans ?_ K14
            with_reducible repeat (first | apply zsa | apply zsd | apply zsn)
            refine Stays.trans ?_ K13
            with_reducible repeat (first | apply zsa | apply zsd | apply zsn)
            refine Stays.trans ?_ K12
            with_reducible repeat (first | apply zsa | apply zsd | apply zsn)
            refine Stays.trans ?_ K11
            with_reducible repeat (first | apply zsa | apply zsd | apply zsn)
            refine Stays.trans ?_ K10
            with_reducible repeat (first | apply zsa | apply zsd | apply zsn)
            refine Stays.trans ?_ K8
            with_reducible repeat (first | apply zsa | apply zsd | apply zsn)
            refine Stays.trans ?_ K7
            with_reducible repeat (first | apply zsa | apply zsd | apply zsn)
            refine Stays.trans ?_ K5
            with_reducible repeat (first | apply zsa | apply zsd | apply zsn)
            refine Stays.trans ?_ K3
            with_reducible repeat (first | apply zsa | apply zsd | apply zsn)
            refine Stays.trans ?_ K1
            with_reducible repeat (first | apply zsa | apply zsd | apply zsn)
            exact Stays.refl _ _⟩
        · rw [if_neg c9] at e; have c9b : (s == r) = false := beq_eq_false_iff_ne.2 c9; have c9n : (s != r) = true := bne_iff_ne.2 c9
          replace e := GM.bind_eq e; obtain ⟨⟨n, d, er⟩, S10, e10_, e⟩ := e; have e10 := Hd.mk e10_; clear e10_
          dsimp only at e
          replace e := GM.bind_eq e; obtain ⟨k, S11, e11_, e⟩ := e; have e11 := Hd.mk e11_; clear e11_
          replace e := GM.bind_eq e; obtain ⟨u12, S12, e12_, e⟩ := e; have e12 := Hd.mk e12_; clear e12_
          replace e := GM.bind_eq e; obtain ⟨u13, S13, e13_, e⟩ := e; have e13 := Hd.mk e13_; clear e13_
          replace e := GM.bind_eq e; obtain ⟨pd, S14, e14_, e⟩ := e; have e14 := Hd.mk e14_; clear e14_
          replace e := GM.bind_eq e; obtain ⟨u15, S15, e15_, e⟩ := e; have e15 := Hd.mk e15_; clear e15_
          replace e := GM.bind_eq e; obtain ⟨a, S16, e16_, e⟩ := e; have e16 := Hd.mk e16_; clear e16_
          obtain ⟨hv, rfl⟩ := GM.pure_eq e
          obtain rfl := hv
          go_enter Tryz.func32, Tryz.ntmps32
          go_wp2_with fail
          with_reducible refine (obIs_c (by with_reducible repeat (first | exact H | apply zha | apply zhd | apply zhn)) e1.out).mono ?_
          rintro _ w1 ⟨rfl, H1, K1⟩
          go_wp2_with fail
          with_reducible refine (ctOf_c (by with_reducible repeat (first | exact H1 | apply zha | apply zhd | apply zhn)) e3.out).mono ?_
          rintro _ w3 ⟨⟨rfl, H3, K3⟩, rq0, rq1⟩
          go_wp2_with fail
          with_reducible refine (tiKill_c (by with_reducible repeat (first | exact H3 | apply zha | apply zhd | apply zhn)) e5.out).mono ?_
          rintro _ w5 ⟨rfl, H5, K5⟩
          go_wp2_with fail
          with_reducible refine (rgCut_c (by with_reducible repeat (first | exact H5 | apply zha | apply zhd | apply zhn)) e7.out).mono ?_
          rintro _ w7 ⟨rfl, H7, K7⟩
          go_wp2_with fail
          with_reducible refine (Reg_c (by with_reducible repeat (first | exact H7 | apply zha | apply zhd | apply zhn)) e8.out).mono ?_
          rintro _ w8 ⟨rfl, H8, K8⟩
          obtain ⟨rs0, rs1⟩ := stGet_range (H7).ok e8.out
          go_wp2_with fail
          with_reducible refine (obLens_c (by with_reducible repeat (first | exact H8 | apply zha | apply zhd | apply zhn)) e10.out).mono ?_
          rintro _ w10 ⟨rfl, H10, K10⟩
          obtain ⟨⟨rn0, rn1⟩, ⟨rd0, rd1⟩, _⟩ := obLens_range H8.ok e10.out
          go_wp2_with fail
          with_reducible refine (obBlocks_c (by with_reducible repeat (first | exact H10 | apply zha | apply zhd | apply zhn)) e11.out).mono ?_
          rintro _ w11 ⟨⟨rfl, H11, K11⟩, rk0, rk1⟩
          go_wp2_with fail
          with_reducible refine (SetWord_c (by with_reducible repeat (first | exact H11 | apply zha | apply zhd | apply zhn)) (by omega) (by omega) e12.out).mono ?_
          rintro _ w12 ⟨rfl, H12, K12⟩
          go_wp2_with fail
          with_reducible refine (SetWord_c (by with_reducible repeat (first | exact H12 | apply zha | apply zhd | apply zhn)) (by omega) (by omega) e13.out).mono ?_
          rintro _ w13 ⟨rfl, H13, K13⟩
          go_wp2_with fail
          with_reducible refine (Reg_c (by with_reducible repeat (first | exact H13 | apply zha | apply zhd | apply zhn)) e14.out).mono ?_
          rintro _ w14 ⟨rfl, H14, K14⟩
          obtain ⟨rpd0, rpd1⟩ := stGet_range (H13).ok e14.out
          go_wp2_with fail
          with_reducible refine (SetReg_c (by with_reducible repeat (first | exact H14 | apply zha | apply zhd | apply zhn)) e15.out).mono ?_
          rintro _ w15 ⟨rfl, H15, K15⟩
          go_wp2_with fail
          with_reducible refine (chAdd_o (by with_reducible repeat (first | exact H15 | apply zha | apply zhd | apply zhn)) (by omega) (by omega) e16.out).mono ?_
          rintro _ w16 ⟨rfl, H16, K16⟩
          go_wp2_with fail
          go_ret
          exact ⟨by first | rfl | (simp; done) | (simp [*]; done), (by with_reducible repeat (first | exact H16 | apply zha | apply zhd | apply zhn)), by
            with_reducible repeat (first | apply zsa | apply zsd | apply zsn)
            refine Stays.trans ?_ K16
            with_reducible repeat (first | apply zsa | apply zsd | apply zsn)
            refine Stays.trans ?_ K15
            with_reducible repeat (first | apply zsa | apply zsd | apply zsn)
            refine Stays.trans ?_ K14
            with_reducible repeat (first | apply zsa | apply zsd | apply zsn)
            refine Stays.trans ?_ K13
            with_reducible repeat (first | apply zsa | apply zsd | apply zsn)
            refine Stays.trans ?_ K12
            with_reducible repeat (first | apply zsa | apply zsd | apply zsn)
            refine Stays.trans ?_ K11
            with_reducible repeat (first | apply zsa | apply zsd | apply zsn)
            refine Stays.trans ?_ K10
            with_reducible repeat (first | apply zsa | apply zsd | apply zsn)
            refine Stays.trans ?_ K8
            with_reducible repeat (first | apply zsa | apply zsd | apply zsn)
            refine Stays.trans ?_ K7
            with_reducible repeat (first | apply zsa | apply zsd | apply zsn)
            refine Stays.trans ?_ K5
            with_reducible repeat (first | apply zsa | apply zsd | apply zsn)
            refine Stays.trans ?_ K3
            with_reducible repeat (first | apply zsa | apply zsd | apply zsn)
            refine Stays.trans ?_ K1
            with_reducible repeat (first | apply zsa | apply zsd | apply zsn)
            exact Stays.refl _ _⟩
      · rw [if_neg c6] at e; obtain rfl := eq_false_of_ne_true c6; clear c6
        obtain ⟨hv, rfl⟩ := GM.pure_eq e
        obtain rfl := hv
        go_enter Tryz.func32, Tryz.ntmps32
        go_wp2_with fail
        with_reducible refine (obIs_c (by with_reducible repeat (first | exact H | apply zha | apply zhd | apply zhn)) e1.out).mono ?_
        rintro _ w1 ⟨rfl, H1, K1⟩
        go_wp2_with fail
        with_reducible refine (ctOf_c (by with_reducible repeat (first | exact H1 | apply zha | apply zhd | apply zhn)) e3.out).mono ?_
        rintro _ w3 ⟨⟨rfl, H3, K3⟩, rq0, rq1⟩
        go_wp2_with fail
        with_reducible refine (tiKill_c (by with_reducible repeat (first | exact H3 | apply zha | apply zhd | apply zhn)) e5.out).mono ?_
        rintro _ w5 ⟨rfl, H5, K5⟩
        go_wp2_with fail
        go_ret
        exact ⟨by first | rfl | (simp; done) | (simp [*]; done), (by with_reducible repeat (first | exact H5 | apply zha | apply zhd | apply zhn)), by
          with_reducible repeat (first | apply zsa | apply zsd | apply zsn)
          refine Stays.trans ?_ K5
          with_reducible repeat (first | apply zsa | apply zsd | apply zsn)
          refine Stays.trans ?_ K3
          with_reducible repeat (first | apply zsa | apply zsd | apply zsn)
          refine Stays.trans ?_ K1
          with_reducible repeat (first | apply zsa | apply zsd | apply zsn)
          exact Stays.refl _ _⟩
  · rw [if_neg c2] at e; obtain rfl := eq_false_of_ne_true c2; clear c2
    obtain ⟨hv, rfl⟩ := GM.pure_eq e
    obtain rfl := hv
    go_enter Tryz.func32, Tryz.ntmps32
    go_wp2_with fail
    with_reducible refine (obIs_c (by with_reducible repeat (first | exact H | apply zha | apply zhd | apply zhn)) e1.out).mono ?_
    rintro _ w1 ⟨rfl, H1, K1⟩
    go_wp2_with fail
    go_ret
    exact ⟨by first | rfl | (simp; done) | (simp [*]; done), (by with_reducible repeat (first | exact H1 | apply zha | apply zhd | apply zhn)), by
      with_reducible repeat (first | apply zsa | apply zsd | apply zsn)
      refine Stays.trans ?_ K1
      with_reducible repeat (first | apply zsa | apply zsd | apply zsn)
      exact Stays.refl _ _⟩
end Go.Proofs.YtadhdjldcpkfiaaGreatDoor
