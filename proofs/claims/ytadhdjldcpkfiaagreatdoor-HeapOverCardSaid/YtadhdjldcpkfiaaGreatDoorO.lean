/- What the calls of obj do. Nothing is asked but that the ground lies there. -/
import Derived.Test.YtadhdjldcpkfiaaGreatDoorP
import Derived.Test.YtadhdjldcpkfiaaGreatDoorL
namespace Go.Proofs.YtadhdjldcpkfiaaGreatDoor
set_option linter.unusedVariables false
set_option linter.unusedSimpArgs false
open Go.RowKit
set_option maxRecDepth 100000
set_option maxHeartbeats 800000
theorem Calls.did {A : GA} {S : GS} {w : World} {P : Program} {f : FuncId} {args : Array Value} {v : Value} (H : Held A S w) (c : Calls P f args w (Made w v)) : Calls P f args w (Did A w v S) :=
  c.mono fun _ _ h => ⟨h.ret, H.stays h.stays (fun _ _ x => x), h.stays.mono (fun _ x => x.elim)⟩

theorem Place_p {A : GA} {S T : GS} {w : World} (H : Held A S w) {f i l a e0 : Int} (e : (pure (shPlace S.w f i) : GM (Int × Int × Int)) S = ((l, a, e0), T)) :
    Calls Tryz.prog 226 #[.int .i64 S.w, .int .i64 f, .int .i64 i] w (Did A w (.tuple #[.int .i64 l, .int .i64 a, .int .i64 e0]) T) := by
  obtain ⟨h, rfl⟩ := GM.pure_eq e
  exact Calls.did H (Place_c w H.ok.w1 H.ok.w2 h)

theorem Blocks_p {A : GA} {S T : GS} {w : World} (H : Held A S w) {p d n e0 : Int} (e : (pure (shBlocks S.w p d) : GM (Int × Int)) S = ((n, e0), T)) :
    Calls Tryz.prog 161 #[.int .i64 S.w, .int .i64 p, .int .i64 d] w (Did A w (.tuple #[.int .i64 n, .int .i64 e0]) T) := by
  obtain ⟨h, rfl⟩ := GM.pure_eq e
  exact Calls.did H (Blocks_c w H.ok.w1 H.ok.w2 h)

theorem Unpack_p {A : GA} {S T : GS} {w : World} (H : Held A S w) {v : Int} {t : Tag} (h0 : 0 ≤ v) (h1 : v ≤ 4294967295) (e : (pure (tagOf v) : GM Tag) S = (t, T)) :
    Calls Tryz.prog 182 #[.int .u32 v] w (Did A w (.agg #[.int .i64 t.kind, .int .i64 t.color, .int .i64 t.count, .int .i64 t.shade, .int .i64 t.dead, .int .i64 t.ring, .int .i64 t.owner]) T) := by
  obtain ⟨rfl, rfl⟩ := GM.pure_eq e
  exact Calls.did H (Unpack_c v w h0 h1)

def headKind (k : Int) : Bool := decide (k = 1) || decide (k = 2)
theorem isHead_p {A : GA} {S T : GS} {w : World} (H : Held A S w) {k : Int} {b : Bool} (e : (pure (headKind k) : GM Bool) S = (b, T)) :
    Calls Tryz.prog 181 #[.int .i64 k] w (Did A w (.bool b) T) := by
  obtain ⟨rfl, rfl⟩ := GM.pure_eq e
  unfold headKind
  by_cases c1 : k = 1
  · subst c1
    go_enter Tryz.func181, Tryz.ntmps181
    go_wp2_with fail
    go_ret
    exact ⟨rfl, H, Stays.refl _ _⟩
  · have b1 : (k == 1) = false := beq_eq_false_iff_ne.2 c1
    by_cases c2 : k = 2
    · subst c2
      go_enter Tryz.func181, Tryz.ntmps181
      go_wp2_with fail
      go_ret
      exact ⟨rfl, H, Stays.refl _ _⟩
    · have b2 : (k == 2) = false := beq_eq_false_iff_ne.2 c2
      have E := Hd.mk (show (decide (k = 1) || decide (k = 2)) = false by simp [c1, c2])
      clear c1 c2
      go_enter Tryz.func181, Tryz.ntmps181
      go_wp2_with fail
      go_ret
      exact ⟨by rw [E.out]; rfl, H, Stays.refl _ _⟩

theorem field_tag0 (k c n s d r o : Int) (w : World) : (Instr.field 149 (.agg #[.int .i64 k, .int .i64 c, .int .i64 n, .int .i64 s, .int .i64 d, .int .i64 r, .int .i64 o]) 0).run Tryz.prog w = .ok (.int .i64 k) w := by kernel_rfl

theorem field_tag1 (k c n s d r o : Int) (w : World) : (Instr.field 149 (.agg #[.int .i64 k, .int .i64 c, .int .i64 n, .int .i64 s, .int .i64 d, .int .i64 r, .int .i64 o]) 1).run Tryz.prog w = .ok (.int .i64 c) w := by kernel_rfl

theorem field_tag2 (k c n s d r o : Int) (w : World) : (Instr.field 149 (.agg #[.int .i64 k, .int .i64 c, .int .i64 n, .int .i64 s, .int .i64 d, .int .i64 r, .int .i64 o]) 2).run Tryz.prog w = .ok (.int .i64 n) w := by kernel_rfl

theorem field_tag3 (k c n s d r o : Int) (w : World) : (Instr.field 149 (.agg #[.int .i64 k, .int .i64 c, .int .i64 n, .int .i64 s, .int .i64 d, .int .i64 r, .int .i64 o]) 3).run Tryz.prog w = .ok (.int .i64 s) w := by kernel_rfl

theorem field_tag4 (k c n s d r o : Int) (w : World) : (Instr.field 149 (.agg #[.int .i64 k, .int .i64 c, .int .i64 n, .int .i64 s, .int .i64 d, .int .i64 r, .int .i64 o]) 4).run Tryz.prog w = .ok (.int .i64 d) w := by kernel_rfl

theorem field_tag5 (k c n s d r o : Int) (w : World) : (Instr.field 149 (.agg #[.int .i64 k, .int .i64 c, .int .i64 n, .int .i64 s, .int .i64 d, .int .i64 r, .int .i64 o]) 5).run Tryz.prog w = .ok (.int .i64 r) w := by kernel_rfl

theorem field_tag6 (k c n s d r o : Int) (w : World) : (Instr.field 149 (.agg #[.int .i64 k, .int .i64 c, .int .i64 n, .int .i64 s, .int .i64 d, .int .i64 r, .int .i64 o]) 6).run Tryz.prog w = .ok (.int .i64 o) w := by kernel_rfl

attribute [go_sem] field_tag0 field_tag1 field_tag2 field_tag3 field_tag4 field_tag5 field_tag6

def obIn (r : Int) : GM Bool :=
  if r > 0 then
    getS >>= fun c =>
    if r ≤ c.n then
      pure true
    else
      pure false
  else
    pure false

theorem obIn_c {A : GA} {S : GS} {w : World} (H : Held A S w) {r : Int} {v0 : Bool} {T : GS} (e : obIn r S = (v0, T)) :
    Calls Tryz.prog 180 #[.pointer (some ⟨A.g, 0, none⟩), .int .i64 r] w (Did A w (.bool v0) T) := by
  unfold obIn at e
  by_cases c1 : r > 0
  · rw [if_pos c1] at e
    replace e := GM.bind_eq e; obtain ⟨c, S2, e2, e⟩ := e
    obtain ⟨rfl, rfl⟩ := getS_eq e2
    by_cases c3 : r ≤ S.n
    · rw [if_pos c3] at e
      obtain ⟨hv, rfl⟩ := GM.pure_eq e
      obtain rfl := hv
      go_enter Tryz.func180, Tryz.ntmps180
      go_wp2_with fail
      refine (conf_c (by with_reducible repeat (first | exact H | apply zha | apply zhd | apply zhn))).mono ?_
      rintro _ w2 ⟨rfl, H2, K2⟩
      go_wp2_with fail
      go_ret
      exact ⟨by first | rfl | (simp; done) | (simp [*]; done), (by with_reducible repeat (first | exact H2 | apply zha | apply zhd | apply zhn)), by
        with_reducible repeat (first | apply zsa | apply zsd)
        refine Stays.trans ?_ K2
        with_reducible repeat (first | apply zsa | apply zsd)
        exact Stays.refl _ _⟩
    · rw [if_neg c3] at e
      obtain ⟨hv, rfl⟩ := GM.pure_eq e
      obtain rfl := hv
      go_enter Tryz.func180, Tryz.ntmps180
      go_wp2_with fail
      refine (conf_c (by with_reducible repeat (first | exact H | apply zha | apply zhd | apply zhn))).mono ?_
      rintro _ w2 ⟨rfl, H2, K2⟩
      go_wp2_with fail
      go_ret
      exact ⟨by first | rfl | (simp; done) | (simp [*]; done), (by with_reducible repeat (first | exact H2 | apply zha | apply zhd | apply zhn)), by
        with_reducible repeat (first | apply zsa | apply zsd)
        refine Stays.trans ?_ K2
        with_reducible repeat (first | apply zsa | apply zsd)
        exact Stays.refl _ _⟩
  · rw [if_neg c1] at e
    obtain ⟨hv, rfl⟩ := GM.pure_eq e
    obtain rfl := hv
    go_enter Tryz.func180, Tryz.ntmps180
    go_wp2_with fail
    go_ret
    exact ⟨by first | rfl | (simp; done) | (simp [*]; done), (by with_reducible repeat (first | exact H | apply zha | apply zhd | apply zhn)), by
      with_reducible repeat (first | apply zsa | apply zsd)
      exact Stays.refl _ _⟩

theorem obIn_true {S T : GS} {r : Int} (e : obIn r S = (true, T)) : 1 ≤ r ∧ r ≤ S.n := by
  unfold obIn at e
  split at e
  · obtain ⟨c, U, h1, h2⟩ := GM.bind_eq e
    obtain ⟨rfl, rfl⟩ := getS_eq h1
    split at h2
    · exact ⟨by omega, by assumption⟩
    · cases h2
  · cases e

def obIs (r : Int) : GM Bool :=
  obIn r >>= fun i =>
  if i then
    Word (r - 1) 0 >>= fun v =>
    pure (tagOf v) >>= fun t =>
    pure (headKind t.kind) >>= fun h =>
    pure h
  else
    pure false

theorem obIs_c {A : GA} {S : GS} {w : World} (H : Held A S w) {r : Int} {v0 : Bool} {T : GS} (e : obIs r S = (v0, T)) :
    Calls Tryz.prog 107 #[.pointer (some ⟨A.g, 0, none⟩), .int .i64 r] w (Did A w (.bool v0) T) := by
  unfold obIs at e
  have hn2 := H.ok.n2
  replace e := GM.bind_eq e; obtain ⟨i, S1, e1_, e⟩ := e; have e1 := Hd.mk e1_; clear e1_
  by_cases c2 : i = true
  · rw [if_pos c2] at e; subst c2
    obtain ⟨hr0, hr1⟩ := obIn_true e1.out
    replace e := GM.bind_eq e; obtain ⟨v, S3, e3_, e⟩ := e; have e3 := Hd.mk e3_; clear e3_
    replace e := GM.bind_eq e; obtain ⟨t, S4, e4_, e⟩ := e; have e4 := Hd.mk e4_; clear e4_
    replace e := GM.bind_eq e; obtain ⟨h, S5, e5_, e⟩ := e; have e5 := Hd.mk e5_; clear e5_
    obtain ⟨hv, rfl⟩ := GM.pure_eq e
    obtain rfl := hv
    go_enter Tryz.func107, Tryz.ntmps107
    go_wp2_with fail
    with_reducible refine (obIn_c (by with_reducible repeat (first | exact H | apply zha | apply zhd | apply zhn)) e1.out).mono ?_
    rintro _ w1 ⟨rfl, H1, K1⟩
    go_wp2_with fail
    with_reducible refine (Word_c (by with_reducible repeat (first | exact H1 | apply zha | apply zhd | apply zhn)) e3.out).mono ?_
    rintro _ w3 ⟨rfl, H3, K3⟩
    obtain ⟨rv0, rv1⟩ := stGet_range (H1).ok e3.out
    go_wp2_with fail
    with_reducible refine (Unpack_p (by with_reducible repeat (first | exact H3 | apply zha | apply zhd | apply zhn)) rv0 rv1 e4.out).mono ?_
    rintro _ w4 ⟨rfl, H4, K4⟩
    go_wp2_with fail
    with_reducible refine (isHead_p (by with_reducible repeat (first | exact H4 | apply zha | apply zhd | apply zhn)) e5.out).mono ?_
    rintro _ w5 ⟨rfl, H5, K5⟩
    go_wp2_with fail
    go_ret
    exact ⟨by first | rfl | (simp; done) | (simp [*]; done), (by with_reducible repeat (first | exact H5 | apply zha | apply zhd | apply zhn)), by
      with_reducible repeat (first | apply zsa | apply zsd)
      refine Stays.trans ?_ K5
      with_reducible repeat (first | apply zsa | apply zsd)
      refine Stays.trans ?_ K4
      with_reducible repeat (first | apply zsa | apply zsd)
      refine Stays.trans ?_ K3
      with_reducible repeat (first | apply zsa | apply zsd)
      refine Stays.trans ?_ K1
      with_reducible repeat (first | apply zsa | apply zsd)
      exact Stays.refl _ _⟩
  · rw [if_neg c2] at e; obtain rfl := eq_false_of_ne_true c2; clear c2
    obtain ⟨hv, rfl⟩ := GM.pure_eq e
    obtain rfl := hv
    go_enter Tryz.func107, Tryz.ntmps107
    go_wp2_with fail
    with_reducible refine (obIn_c (by with_reducible repeat (first | exact H | apply zha | apply zhd | apply zhn)) e1.out).mono ?_
    rintro _ w1 ⟨rfl, H1, K1⟩
    go_wp2_with fail
    go_ret
    exact ⟨by first | rfl | (simp; done) | (simp [*]; done), (by with_reducible repeat (first | exact H1 | apply zha | apply zhd | apply zhn)), by
      with_reducible repeat (first | apply zsa | apply zsd)
      refine Stays.trans ?_ K1
      with_reducible repeat (first | apply zsa | apply zsd)
      exact Stays.refl _ _⟩

theorem obIs_true {S T : GS} {r : Int} (e : obIs r S = (true, T)) : 1 ≤ r ∧ r ≤ S.n := by
  unfold obIs at e
  obtain ⟨i, U, h1, h2⟩ := GM.bind_eq e
  cases i with
  | true => exact obIn_true h1
  | false => cases h2

def obLens (r : Int) : GM (Int × Int × Int) :=
  obIs r >>= fun i =>
  if i then
    Word (r - 1) 1 >>= fun n =>
    Word (r - 1) 2 >>= fun d =>
    pure (n, d, 0)
  else
    pure (0, 0, 8)

theorem obLens_c {A : GA} {S : GS} {w : World} (H : Held A S w) {r : Int} {v0 : Int} {v1 : Int} {v2 : Int} {T : GS} (e : obLens r S = ((v0, v1, v2), T)) :
    Calls Tryz.prog 99 #[.pointer (some ⟨A.g, 0, none⟩), .int .i64 r] w (Did A w (.tuple #[.int .i64 v0, .int .i64 v1, .int .i64 v2]) T) := by
  unfold obLens at e
  have hn2 := H.ok.n2
  replace e := GM.bind_eq e; obtain ⟨i, S1, e1_, e⟩ := e; have e1 := Hd.mk e1_; clear e1_
  by_cases c2 : i = true
  · rw [if_pos c2] at e; subst c2
    obtain ⟨hr0, hr1⟩ := obIs_true e1.out
    replace e := GM.bind_eq e; obtain ⟨n, S3, e3_, e⟩ := e; have e3 := Hd.mk e3_; clear e3_
    replace e := GM.bind_eq e; obtain ⟨d, S4, e4_, e⟩ := e; have e4 := Hd.mk e4_; clear e4_
    obtain ⟨hv, rfl⟩ := GM.pure_eq e
    cases hv
    go_enter Tryz.func99, Tryz.ntmps99
    go_wp2_with fail
    with_reducible refine (obIs_c (by with_reducible repeat (first | exact H | apply zha | apply zhd | apply zhn)) e1.out).mono ?_
    rintro _ w1 ⟨rfl, H1, K1⟩
    go_wp2_with fail
    with_reducible refine (Word_c (by with_reducible repeat (first | exact H1 | apply zha | apply zhd | apply zhn)) e3.out).mono ?_
    rintro _ w3 ⟨rfl, H3, K3⟩
    obtain ⟨rn0, rn1⟩ := stGet_range (H1).ok e3.out
    go_wp2_with fail
    with_reducible refine (Word_c (by with_reducible repeat (first | exact H3 | apply zha | apply zhd | apply zhn)) e4.out).mono ?_
    rintro _ w4 ⟨rfl, H4, K4⟩
    obtain ⟨rd0, rd1⟩ := stGet_range (H3).ok e4.out
    go_wp2_with fail
    go_ret3
    exact ⟨by first | rfl | (simp; done) | (simp [*]; done), (by with_reducible repeat (first | exact H4 | apply zha | apply zhd | apply zhn)), by
      with_reducible repeat (first | apply zsa | apply zsd)
      refine Stays.trans ?_ K4
      with_reducible repeat (first | apply zsa | apply zsd)
      refine Stays.trans ?_ K3
      with_reducible repeat (first | apply zsa | apply zsd)
      refine Stays.trans ?_ K1
      with_reducible repeat (first | apply zsa | apply zsd)
      exact Stays.refl _ _⟩
  · rw [if_neg c2] at e; obtain rfl := eq_false_of_ne_true c2; clear c2
    obtain ⟨hv, rfl⟩ := GM.pure_eq e
    cases hv
    go_enter Tryz.func99, Tryz.ntmps99
    go_wp2_with fail
    with_reducible refine (obIs_c (by with_reducible repeat (first | exact H | apply zha | apply zhd | apply zhn)) e1.out).mono ?_
    rintro _ w1 ⟨rfl, H1, K1⟩
    go_wp2_with fail
    go_ret3
    exact ⟨by first | rfl | (simp; done) | (simp [*]; done), (by with_reducible repeat (first | exact H1 | apply zha | apply zhd | apply zhn)), by
      with_reducible repeat (first | apply zsa | apply zsd)
      refine Stays.trans ?_ K1
      with_reducible repeat (first | apply zsa | apply zsd)
      exact Stays.refl _ _⟩

theorem Word_range {S T : GS} {b x v : Int} (h : S.Ok) (e : Word b x S = (v, T)) : 0 ≤ v ∧ v ≤ 4294967295 := stGet_range h e
theorem stGet_ok {S T : GS} {i v : Int} (h : S.Ok) (e : stGet i S = (v, T)) : T.Ok := by
  unfold stGet at e
  split at e <;> cases e
  · exact h.tick
  · exact h
theorem obIs_ok {S T : GS} {r : Int} {b : Bool} (h : S.Ok) (e : obIs r S = (b, T)) : T.Ok := by
  unfold obIs at e
  obtain ⟨i, U, h1, h2⟩ := GM.bind_eq e
  have hU : S = U := by
    unfold obIn at h1
    split at h1
    · obtain ⟨c, V, h3, h4⟩ := GM.bind_eq h1
      obtain ⟨rfl, rfl⟩ := getS_eq h3
      split at h4 <;> cases h4 <;> rfl
    · cases h1; rfl
  subst hU
  cases i with
  | true =>
    rw [if_pos rfl] at h2
    obtain ⟨v, V, h3, h4⟩ := GM.bind_eq h2
    have hV := stGet_ok h h3
    cases h4
    exact hV
  | false => cases h2; exact h
theorem obLens_range {S T : GS} {r n d er : Int} (h : S.Ok) (e : obLens r S = ((n, d, er), T)) : (0 ≤ n ∧ n ≤ 4294967295) ∧ (0 ≤ d ∧ d ≤ 4294967295) ∧ (er = 0 → 1 ≤ r ∧ r ≤ S.n) := by
  unfold obLens at e
  obtain ⟨i, U, h1, h2⟩ := GM.bind_eq e
  cases i with
  | true =>
    rw [if_pos rfl] at h2
    have hU := obIs_ok h h1
    obtain ⟨v, V, h3, h4⟩ := GM.bind_eq h2
    obtain ⟨v', V', h5, h6⟩ := GM.bind_eq h4
    have r1 := Word_range hU h3
    have r2 := Word_range (stGet_ok hU h3) h5
    cases h6
    exact ⟨r1, r2, fun _ => obIs_true h1⟩
  | false => cases h2; exact ⟨by omega, by omega, fun h => by omega⟩
theorem shPlace_range {W f i l a e0 : Int} (h0 : 16 ≤ W) (h1 : W ≤ 256) (e : shPlace W f i = (l, a, e0)) : -1 ≤ l ∧ l ≤ 63240 ∧ 0 ≤ a ∧ a ≤ 63248 := by
  have hm : 0 ≤ shMost W ∧ shMost W ≤ 63240 := shMost_range h0 h1
  unfold shPlace at e
  split at e
  · cases e; omega
  · split at e
    · cases e; omega
    · split at e
      · cases e; omega
      · split at e
        · cases e; omega
        · split at e
          · cases e; omega
          · cases e
            have h2 : 0 ≤ i / (W - 1) := Int.ediv_nonneg (by omega) (by omega)
            have h3 : i / (W - 1) ≤ i := Int.ediv_le_self _ (by omega)
            have h4 := Int.emod_nonneg i (show W - 1 ≠ 0 by omega)
            have h5 := Int.emod_lt_of_pos i (show 0 < W - 1 by omega)
            omega

def obField (r : Int) (i : Int) (wd : Bool) : GM (Int × Int × Int) :=
  obLens r >>= fun ⟨n, d, er⟩ =>
  if er = 0 then
    if wd then
      if i < 0 then
        pure (0, 0, 7)
      else
        if i ≥ d then
          pure (0, 0, 7)
        else
          getS >>= fun c =>
          pure (shPlace c.w (n + d) (n + i)) >>= fun ⟨l, a, ep⟩ =>
          if ep = 0 then
            if l < 0 then
              pure (r - 1, a, 0)
            else
              Word (r - 1) (8 + l) >>= fun b =>
              if b = 0 then
                pure (0, 0, 7)
              else
                pure (b - 1, a, 0)
          else
            pure (0, 0, ep)
    else
      if i < 0 then
        pure (0, 0, 7)
      else
        if i ≥ n then
          pure (0, 0, 7)
        else
          getS >>= fun c =>
          pure (shPlace c.w (n + d) (i)) >>= fun ⟨l, a, ep⟩ =>
          if ep = 0 then
            if l < 0 then
              pure (r - 1, a, 0)
            else
              Word (r - 1) (8 + l) >>= fun b =>
              if b = 0 then
                pure (0, 0, 7)
              else
                pure (b - 1, a, 0)
          else
            pure (0, 0, ep)
  else
    pure (0, 0, er)

theorem obField_c {A : GA} {S : GS} {w : World} (H : Held A S w) {r : Int} {i : Int} {wd : Bool} {v0 : Int} {v1 : Int} {v2 : Int} {T : GS} (e : obField r i wd S = ((v0, v1, v2), T)) :
    Calls Tryz.prog 167 #[.pointer (some ⟨A.g, 0, none⟩), .int .i64 r, .int .i64 i, .bool wd] w (Did A w (.tuple #[.agg #[.int .i64 v0, .int .i64 v1], .int .i64 v2]) T) := by
  unfold obField at e
  have hn2 := H.ok.n2
  replace e := GM.bind_eq e; obtain ⟨⟨n, d, er⟩, S1, e1_, e⟩ := e; have e1 := Hd.mk e1_; clear e1_
  dsimp only at e
  by_cases c2 : er = 0
  · rw [if_pos c2] at e; subst c2
    obtain ⟨_, _, hr⟩ := obLens_range H.ok e1.out; obtain ⟨hr0, hr1⟩ := hr rfl
    by_cases c3 : wd = true
    · rw [if_pos c3] at e; subst c3
      by_cases c4 : i < 0
      · rw [if_pos c4] at e
        obtain ⟨hv, rfl⟩ := GM.pure_eq e
        cases hv
        go_enter Tryz.func167, Tryz.ntmps167
        have Br := Blk.new w 155 #[.int .i64 0, .int .i64 0]
        go_wp2_with fail
        with_reducible refine (obLens_c (by with_reducible repeat (first | exact H | apply zha | apply zhd | apply zhn)) e1.out).mono ?_
        rintro _ w1 ⟨rfl, H1, K1⟩
        obtain ⟨⟨rn0, rn1⟩, ⟨rd0, rd1⟩, _⟩ := obLens_range H.ok e1.out
        replace Br := Blk.stays (by with_reducible repeat (first | exact Br | apply zba | apply zbd)) K1 (GA.foot_far H.top)
        have Br0 : w1.cell? ⟨w.heap.size, 0, none⟩ = some (.int .i64 0) := Br.cell 0
        have Br1 : w1.cell? ⟨w.heap.size, 1, none⟩ = some (.int .i64 0) := Br.cell 1
        go_wp2_with (refine wpList_store_blk rfl _ _ _ rfl w.heap.size rfl 155 _ _ rfl Br (by kernel_rfl) rfl (by simp [Value.oneCell']) ?_; intro wz BZ KZ)
        refine bodyPost_ret (v := .tuple #[.agg #[.int .i64 0, .int .i64 0], .int .i64 7]) ?_ rfl ⟨rfl, ?_, ?_⟩
        · have hq := results_blk_tmp (P := Tryz.prog) (fn := Tryz.f167) (p := 8) (u := 9) (ty := 155) rfl
          refine hq _ _ _ _ _ _ ?_ BZ Tryz.underlying155 rfl ?_
          · rfl
          · kernel_rfl
        · exact Held.own (by with_reducible repeat (first | exact H1 | apply zha | apply zhd | apply zhn)) KZ H.top
        · refine Stays.own ?_ KZ (Nat.le_refl _)
          with_reducible repeat (first | apply zsa | apply zsd)
          refine Stays.trans ?_ K1
          with_reducible repeat (first | apply zsa | apply zsd)
          exact Stays.refl _ _
      · rw [if_neg c4] at e
        by_cases c5 : i ≥ d
        · rw [if_pos c5] at e
          obtain ⟨hv, rfl⟩ := GM.pure_eq e
          cases hv
          go_enter Tryz.func167, Tryz.ntmps167
          have Br := Blk.new w 155 #[.int .i64 0, .int .i64 0]
          go_wp2_with fail
          with_reducible refine (obLens_c (by with_reducible repeat (first | exact H | apply zha | apply zhd | apply zhn)) e1.out).mono ?_
          rintro _ w1 ⟨rfl, H1, K1⟩
          obtain ⟨⟨rn0, rn1⟩, ⟨rd0, rd1⟩, _⟩ := obLens_range H.ok e1.out
          replace Br := Blk.stays (by with_reducible repeat (first | exact Br | apply zba | apply zbd)) K1 (GA.foot_far H.top)
          have Br0 : w1.cell? ⟨w.heap.size, 0, none⟩ = some (.int .i64 0) := Br.cell 0
          have Br1 : w1.cell? ⟨w.heap.size, 1, none⟩ = some (.int .i64 0) := Br.cell 1
          go_wp2_with (refine wpList_store_blk rfl _ _ _ rfl w.heap.size rfl 155 _ _ rfl Br (by kernel_rfl) rfl (by simp [Value.oneCell']) ?_; intro wz BZ KZ)
          refine bodyPost_ret (v := .tuple #[.agg #[.int .i64 0, .int .i64 0], .int .i64 7]) ?_ rfl ⟨rfl, ?_, ?_⟩
          · have hq := results_blk_tmp (P := Tryz.prog) (fn := Tryz.f167) (p := 8) (u := 9) (ty := 155) rfl
            refine hq _ _ _ _ _ _ ?_ BZ Tryz.underlying155 rfl ?_
            · rfl
            · kernel_rfl
          · exact Held.own (by with_reducible repeat (first | exact H1 | apply zha | apply zhd | apply zhn)) KZ H.top
          · refine Stays.own ?_ KZ (Nat.le_refl _)
            with_reducible repeat (first | apply zsa | apply zsd)
            refine Stays.trans ?_ K1
            with_reducible repeat (first | apply zsa | apply zsd)
            exact Stays.refl _ _
        · rw [if_neg c5] at e
          replace e := GM.bind_eq e; obtain ⟨c, S6, e6, e⟩ := e
          obtain ⟨rfl, rfl⟩ := getS_eq e6
          replace e := GM.bind_eq e; obtain ⟨⟨l, a, ep⟩, S7, e7_, e⟩ := e; have e7 := Hd.mk e7_; clear e7_
          dsimp only at e
          by_cases c8 : ep = 0
          · rw [if_pos c8] at e; subst c8
            by_cases c9 : l < 0
            · rw [if_pos c9] at e
              obtain ⟨hv, rfl⟩ := GM.pure_eq e
              cases hv
              go_enter Tryz.func167, Tryz.ntmps167
              have Br := Blk.new w 155 #[.int .i64 0, .int .i64 0]
              go_wp2_with fail
              with_reducible refine (obLens_c (by with_reducible repeat (first | exact H | apply zha | apply zhd | apply zhn)) e1.out).mono ?_
              rintro _ w1 ⟨rfl, H1, K1⟩
              obtain ⟨⟨rn0, rn1⟩, ⟨rd0, rd1⟩, _⟩ := obLens_range H.ok e1.out
              replace Br := Blk.stays (by with_reducible repeat (first | exact Br | apply zba | apply zbd)) K1 (GA.foot_far H.top)
              have Br0 : w1.cell? ⟨w.heap.size, 0, none⟩ = some (.int .i64 0) := Br.cell 0
              have Br1 : w1.cell? ⟨w.heap.size, 1, none⟩ = some (.int .i64 0) := Br.cell 1
              go_wp2_with fail
              refine (conf_c (by with_reducible repeat (first | exact H1 | apply zha | apply zhd | apply zhn))).mono ?_
              rintro _ w6 ⟨rfl, H6, K6⟩
              replace Br := Blk.stays (by with_reducible repeat (first | exact Br | apply zba | apply zbd)) K6 (GA.foot_far H.top)
              clear Br0 Br1
              have Br0 : w6.cell? ⟨w.heap.size, 0, none⟩ = some (.int .i64 0) := Br.cell 0
              have Br1 : w6.cell? ⟨w.heap.size, 1, none⟩ = some (.int .i64 0) := Br.cell 1
              go_wp2_with fail
              with_reducible refine (Place_p (by with_reducible repeat (first | exact H6 | apply zha | apply zhd | apply zhn)) e7.out).mono ?_
              rintro _ w7 ⟨rfl, H7, K7⟩
              obtain ⟨rl0, rl1, rp0, rp1⟩ := shPlace_range H6.ok.w1 H6.ok.w2 (GM.pure_eq e7.out).1
              replace Br := Blk.stays (by with_reducible repeat (first | exact Br | apply zba | apply zbd)) K7 (GA.foot_far H.top)
              clear Br0 Br1
              have Br0 : w7.cell? ⟨w.heap.size, 0, none⟩ = some (.int .i64 0) := Br.cell 0
              have Br1 : w7.cell? ⟨w.heap.size, 1, none⟩ = some (.int .i64 0) := Br.cell 1
              go_wp2_with (refine wpList_store_blk rfl _ _ _ rfl w.heap.size rfl 155 _ _ rfl Br (by kernel_rfl) rfl (by simp [Value.oneCell']) ?_; intro wz BZ KZ)
              refine bodyPost_ret (v := .tuple #[.agg #[.int .i64 (r - 1), .int .i64 v1], .int .i64 0]) ?_ rfl ⟨rfl, ?_, ?_⟩
              · have hq := results_blk_tmp (P := Tryz.prog) (fn := Tryz.f167) (p := 8) (u := 9) (ty := 155) rfl
                refine hq _ _ _ _ _ _ ?_ BZ Tryz.underlying155 rfl ?_
                · rfl
                · kernel_rfl
              · exact Held.own (by with_reducible repeat (first | exact H7 | apply zha | apply zhd | apply zhn)) KZ H.top
              · refine Stays.own ?_ KZ (Nat.le_refl _)
                with_reducible repeat (first | apply zsa | apply zsd)
                refine Stays.trans ?_ K7
                with_reducible repeat (first | apply zsa | apply zsd)
                refine Stays.trans ?_ K6
                with_reducible repeat (first | apply zsa | apply zsd)
                refine Stays.trans ?_ K1
                with_reducible repeat (first | apply zsa | apply zsd)
                exact Stays.refl _ _
            · rw [if_neg c9] at e
              replace e := GM.bind_eq e; obtain ⟨b, S10, e10_, e⟩ := e; have e10 := Hd.mk e10_; clear e10_
              by_cases c11 : b = 0
              · rw [if_pos c11] at e; subst c11
                obtain ⟨hv, rfl⟩ := GM.pure_eq e
                cases hv
                go_enter Tryz.func167, Tryz.ntmps167
                have Br := Blk.new w 155 #[.int .i64 0, .int .i64 0]
                go_wp2_with fail
                with_reducible refine (obLens_c (by with_reducible repeat (first | exact H | apply zha | apply zhd | apply zhn)) e1.out).mono ?_
                rintro _ w1 ⟨rfl, H1, K1⟩
                obtain ⟨⟨rn0, rn1⟩, ⟨rd0, rd1⟩, _⟩ := obLens_range H.ok e1.out
                replace Br := Blk.stays (by with_reducible repeat (first | exact Br | apply zba | apply zbd)) K1 (GA.foot_far H.top)
                have Br0 : w1.cell? ⟨w.heap.size, 0, none⟩ = some (.int .i64 0) := Br.cell 0
                have Br1 : w1.cell? ⟨w.heap.size, 1, none⟩ = some (.int .i64 0) := Br.cell 1
                go_wp2_with fail
                refine (conf_c (by with_reducible repeat (first | exact H1 | apply zha | apply zhd | apply zhn))).mono ?_
                rintro _ w6 ⟨rfl, H6, K6⟩
                replace Br := Blk.stays (by with_reducible repeat (first | exact Br | apply zba | apply zbd)) K6 (GA.foot_far H.top)
                clear Br0 Br1
                have Br0 : w6.cell? ⟨w.heap.size, 0, none⟩ = some (.int .i64 0) := Br.cell 0
                have Br1 : w6.cell? ⟨w.heap.size, 1, none⟩ = some (.int .i64 0) := Br.cell 1
                go_wp2_with fail
                with_reducible refine (Place_p (by with_reducible repeat (first | exact H6 | apply zha | apply zhd | apply zhn)) e7.out).mono ?_
                rintro _ w7 ⟨rfl, H7, K7⟩
                obtain ⟨rl0, rl1, rp0, rp1⟩ := shPlace_range H6.ok.w1 H6.ok.w2 (GM.pure_eq e7.out).1
                replace Br := Blk.stays (by with_reducible repeat (first | exact Br | apply zba | apply zbd)) K7 (GA.foot_far H.top)
                clear Br0 Br1
                have Br0 : w7.cell? ⟨w.heap.size, 0, none⟩ = some (.int .i64 0) := Br.cell 0
                have Br1 : w7.cell? ⟨w.heap.size, 1, none⟩ = some (.int .i64 0) := Br.cell 1
                go_wp2_with fail
                with_reducible refine (Word_c (by with_reducible repeat (first | exact H7 | apply zha | apply zhd | apply zhn)) e10.out).mono ?_
                rintro _ w10 ⟨rfl, H10, K10⟩
                obtain ⟨rb0, rb1⟩ := stGet_range (H7).ok e10.out
                replace Br := Blk.stays (by with_reducible repeat (first | exact Br | apply zba | apply zbd)) K10 (GA.foot_far H.top)
                clear Br0 Br1
                have Br0 : w10.cell? ⟨w.heap.size, 0, none⟩ = some (.int .i64 0) := Br.cell 0
                have Br1 : w10.cell? ⟨w.heap.size, 1, none⟩ = some (.int .i64 0) := Br.cell 1
                go_wp2_with (refine wpList_store_blk rfl _ _ _ rfl w.heap.size rfl 155 _ _ rfl Br (by kernel_rfl) rfl (by simp [Value.oneCell']) ?_; intro wz BZ KZ)
                refine bodyPost_ret (v := .tuple #[.agg #[.int .i64 0, .int .i64 0], .int .i64 7]) ?_ rfl ⟨rfl, ?_, ?_⟩
                · have hq := results_blk_tmp (P := Tryz.prog) (fn := Tryz.f167) (p := 8) (u := 9) (ty := 155) rfl
                  refine hq _ _ _ _ _ _ ?_ BZ Tryz.underlying155 rfl ?_
                  · rfl
                  · kernel_rfl
                · exact Held.own (by with_reducible repeat (first | exact H10 | apply zha | apply zhd | apply zhn)) KZ H.top
                · refine Stays.own ?_ KZ (Nat.le_refl _)
                  with_reducible repeat (first | apply zsa | apply zsd)
                  refine Stays.trans ?_ K10
                  with_reducible repeat (first | apply zsa | apply zsd)
                  refine Stays.trans ?_ K7
                  with_reducible repeat (first | apply zsa | apply zsd)
                  refine Stays.trans ?_ K6
                  with_reducible repeat (first | apply zsa | apply zsd)
                  refine Stays.trans ?_ K1
                  with_reducible repeat (first | apply zsa | apply zsd)
                  exact Stays.refl _ _
              · rw [if_neg c11] at e; have c11b : (b == 0) = false := beq_eq_false_iff_ne.2 c11; have c11n : (b != 0) = true := bne_iff_ne.2 c11
                obtain ⟨hv, rfl⟩ := GM.pure_eq e
                cases hv
                go_enter Tryz.func167, Tryz.ntmps167
                have Br := Blk.new w 155 #[.int .i64 0, .int .i64 0]
                go_wp2_with fail
                with_reducible refine (obLens_c (by with_reducible repeat (first | exact H | apply zha | apply zhd | apply zhn)) e1.out).mono ?_
                rintro _ w1 ⟨rfl, H1, K1⟩
                obtain ⟨⟨rn0, rn1⟩, ⟨rd0, rd1⟩, _⟩ := obLens_range H.ok e1.out
                replace Br := Blk.stays (by with_reducible repeat (first | exact Br | apply zba | apply zbd)) K1 (GA.foot_far H.top)
                have Br0 : w1.cell? ⟨w.heap.size, 0, none⟩ = some (.int .i64 0) := Br.cell 0
                have Br1 : w1.cell? ⟨w.heap.size, 1, none⟩ = some (.int .i64 0) := Br.cell 1
                go_wp2_with fail
                refine (conf_c (by with_reducible repeat (first | exact H1 | apply zha | apply zhd | apply zhn))).mono ?_
                rintro _ w6 ⟨rfl, H6, K6⟩
                replace Br := Blk.stays (by with_reducible repeat (first | exact Br | apply zba | apply zbd)) K6 (GA.foot_far H.top)
                clear Br0 Br1
                have Br0 : w6.cell? ⟨w.heap.size, 0, none⟩ = some (.int .i64 0) := Br.cell 0
                have Br1 : w6.cell? ⟨w.heap.size, 1, none⟩ = some (.int .i64 0) := Br.cell 1
                go_wp2_with fail
                with_reducible refine (Place_p (by with_reducible repeat (first | exact H6 | apply zha | apply zhd | apply zhn)) e7.out).mono ?_
                rintro _ w7 ⟨rfl, H7, K7⟩
                obtain ⟨rl0, rl1, rp0, rp1⟩ := shPlace_range H6.ok.w1 H6.ok.w2 (GM.pure_eq e7.out).1
                replace Br := Blk.stays (by with_reducible repeat (first | exact Br | apply zba | apply zbd)) K7 (GA.foot_far H.top)
                clear Br0 Br1
                have Br0 : w7.cell? ⟨w.heap.size, 0, none⟩ = some (.int .i64 0) := Br.cell 0
                have Br1 : w7.cell? ⟨w.heap.size, 1, none⟩ = some (.int .i64 0) := Br.cell 1
                go_wp2_with fail
                with_reducible refine (Word_c (by with_reducible repeat (first | exact H7 | apply zha | apply zhd | apply zhn)) e10.out).mono ?_
                rintro _ w10 ⟨rfl, H10, K10⟩
                obtain ⟨rb0, rb1⟩ := stGet_range (H7).ok e10.out
                replace Br := Blk.stays (by with_reducible repeat (first | exact Br | apply zba | apply zbd)) K10 (GA.foot_far H.top)
                clear Br0 Br1
                have Br0 : w10.cell? ⟨w.heap.size, 0, none⟩ = some (.int .i64 0) := Br.cell 0
                have Br1 : w10.cell? ⟨w.heap.size, 1, none⟩ = some (.int .i64 0) := Br.cell 1
                go_wp2_with (refine wpList_store_blk rfl _ _ _ rfl w.heap.size rfl 155 _ _ rfl Br (by kernel_rfl) rfl (by simp [Value.oneCell']) ?_; intro wz BZ KZ)
                refine bodyPost_ret (v := .tuple #[.agg #[.int .i64 (b - 1), .int .i64 v1], .int .i64 0]) ?_ rfl ⟨rfl, ?_, ?_⟩
                · have hq := results_blk_tmp (P := Tryz.prog) (fn := Tryz.f167) (p := 8) (u := 9) (ty := 155) rfl
                  refine hq _ _ _ _ _ _ ?_ BZ Tryz.underlying155 rfl ?_
                  · rfl
                  · kernel_rfl
                · exact Held.own (by with_reducible repeat (first | exact H10 | apply zha | apply zhd | apply zhn)) KZ H.top
                · refine Stays.own ?_ KZ (Nat.le_refl _)
                  with_reducible repeat (first | apply zsa | apply zsd)
                  refine Stays.trans ?_ K10
                  with_reducible repeat (first | apply zsa | apply zsd)
                  refine Stays.trans ?_ K7
                  with_reducible repeat (first | apply zsa | apply zsd)
                  refine Stays.trans ?_ K6
                  with_reducible repeat (first | apply zsa | apply zsd)
                  refine Stays.trans ?_ K1
                  with_reducible repeat (first | apply zsa | apply zsd)
                  exact Stays.refl _ _
          · rw [if_neg c8] at e; have c8b : (ep == 0) = false := beq_eq_false_iff_ne.2 c8; have c8n : (ep != 0) = true := bne_iff_ne.2 c8
            obtain ⟨hv, rfl⟩ := GM.pure_eq e
            cases hv
            go_enter Tryz.func167, Tryz.ntmps167
            have Br := Blk.new w 155 #[.int .i64 0, .int .i64 0]
            go_wp2_with fail
            with_reducible refine (obLens_c (by with_reducible repeat (first | exact H | apply zha | apply zhd | apply zhn)) e1.out).mono ?_
            rintro _ w1 ⟨rfl, H1, K1⟩
            obtain ⟨⟨rn0, rn1⟩, ⟨rd0, rd1⟩, _⟩ := obLens_range H.ok e1.out
            replace Br := Blk.stays (by with_reducible repeat (first | exact Br | apply zba | apply zbd)) K1 (GA.foot_far H.top)
            have Br0 : w1.cell? ⟨w.heap.size, 0, none⟩ = some (.int .i64 0) := Br.cell 0
            have Br1 : w1.cell? ⟨w.heap.size, 1, none⟩ = some (.int .i64 0) := Br.cell 1
            go_wp2_with fail
            refine (conf_c (by with_reducible repeat (first | exact H1 | apply zha | apply zhd | apply zhn))).mono ?_
            rintro _ w6 ⟨rfl, H6, K6⟩
            replace Br := Blk.stays (by with_reducible repeat (first | exact Br | apply zba | apply zbd)) K6 (GA.foot_far H.top)
            clear Br0 Br1
            have Br0 : w6.cell? ⟨w.heap.size, 0, none⟩ = some (.int .i64 0) := Br.cell 0
            have Br1 : w6.cell? ⟨w.heap.size, 1, none⟩ = some (.int .i64 0) := Br.cell 1
            go_wp2_with fail
            with_reducible refine (Place_p (by with_reducible repeat (first | exact H6 | apply zha | apply zhd | apply zhn)) e7.out).mono ?_
            rintro _ w7 ⟨rfl, H7, K7⟩
            obtain ⟨rl0, rl1, rp0, rp1⟩ := shPlace_range H6.ok.w1 H6.ok.w2 (GM.pure_eq e7.out).1
            replace Br := Blk.stays (by with_reducible repeat (first | exact Br | apply zba | apply zbd)) K7 (GA.foot_far H.top)
            clear Br0 Br1
            have Br0 : w7.cell? ⟨w.heap.size, 0, none⟩ = some (.int .i64 0) := Br.cell 0
            have Br1 : w7.cell? ⟨w.heap.size, 1, none⟩ = some (.int .i64 0) := Br.cell 1
            go_wp2_with (refine wpList_store_blk rfl _ _ _ rfl w.heap.size rfl 155 _ _ rfl Br (by kernel_rfl) rfl (by simp [Value.oneCell']) ?_; intro wz BZ KZ)
            refine bodyPost_ret (v := .tuple #[.agg #[.int .i64 0, .int .i64 0], .int .i64 v2]) ?_ rfl ⟨rfl, ?_, ?_⟩
            · have hq := results_blk_tmp (P := Tryz.prog) (fn := Tryz.f167) (p := 8) (u := 9) (ty := 155) rfl
              refine hq _ _ _ _ _ _ ?_ BZ Tryz.underlying155 rfl ?_
              · rfl
              · kernel_rfl
            · exact Held.own (by with_reducible repeat (first | exact H7 | apply zha | apply zhd | apply zhn)) KZ H.top
            · refine Stays.own ?_ KZ (Nat.le_refl _)
              with_reducible repeat (first | apply zsa | apply zsd)
              refine Stays.trans ?_ K7
              with_reducible repeat (first | apply zsa | apply zsd)
              refine Stays.trans ?_ K6
              with_reducible repeat (first | apply zsa | apply zsd)
              refine Stays.trans ?_ K1
              with_reducible repeat (first | apply zsa | apply zsd)
              exact Stays.refl _ _
    · rw [if_neg c3] at e; obtain rfl := eq_false_of_ne_true c3; clear c3
      by_cases c4 : i < 0
      · rw [if_pos c4] at e
        obtain ⟨hv, rfl⟩ := GM.pure_eq e
        cases hv
        go_enter Tryz.func167, Tryz.ntmps167
        have Br := Blk.new w 155 #[.int .i64 0, .int .i64 0]
        go_wp2_with fail
        with_reducible refine (obLens_c (by with_reducible repeat (first | exact H | apply zha | apply zhd | apply zhn)) e1.out).mono ?_
        rintro _ w1 ⟨rfl, H1, K1⟩
        obtain ⟨⟨rn0, rn1⟩, ⟨rd0, rd1⟩, _⟩ := obLens_range H.ok e1.out
        replace Br := Blk.stays (by with_reducible repeat (first | exact Br | apply zba | apply zbd)) K1 (GA.foot_far H.top)
        have Br0 : w1.cell? ⟨w.heap.size, 0, none⟩ = some (.int .i64 0) := Br.cell 0
        have Br1 : w1.cell? ⟨w.heap.size, 1, none⟩ = some (.int .i64 0) := Br.cell 1
        go_wp2_with (refine wpList_store_blk rfl _ _ _ rfl w.heap.size rfl 155 _ _ rfl Br (by kernel_rfl) rfl (by simp [Value.oneCell']) ?_; intro wz BZ KZ)
        refine bodyPost_ret (v := .tuple #[.agg #[.int .i64 0, .int .i64 0], .int .i64 7]) ?_ rfl ⟨rfl, ?_, ?_⟩
        · have hq := results_blk_tmp (P := Tryz.prog) (fn := Tryz.f167) (p := 8) (u := 9) (ty := 155) rfl
          refine hq _ _ _ _ _ _ ?_ BZ Tryz.underlying155 rfl ?_
          · rfl
          · kernel_rfl
        · exact Held.own (by with_reducible repeat (first | exact H1 | apply zha | apply zhd | apply zhn)) KZ H.top
        · refine Stays.own ?_ KZ (Nat.le_refl _)
          with_reducible repeat (first | apply zsa | apply zsd)
          refine Stays.trans ?_ K1
          with_reducible repeat (first | apply zsa | apply zsd)
          exact Stays.refl _ _
      · rw [if_neg c4] at e
        by_cases c5 : i ≥ n
        · rw [if_pos c5] at e
          obtain ⟨hv, rfl⟩ := GM.pure_eq e
          cases hv
          go_enter Tryz.func167, Tryz.ntmps167
          have Br := Blk.new w 155 #[.int .i64 0, .int .i64 0]
          go_wp2_with fail
          with_reducible refine (obLens_c (by with_reducible repeat (first | exact H | apply zha | apply zhd | apply zhn)) e1.out).mono ?_
          rintro _ w1 ⟨rfl, H1, K1⟩
          obtain ⟨⟨rn0, rn1⟩, ⟨rd0, rd1⟩, _⟩ := obLens_range H.ok e1.out
          replace Br := Blk.stays (by with_reducible repeat (first | exact Br | apply zba | apply zbd)) K1 (GA.foot_far H.top)
          have Br0 : w1.cell? ⟨w.heap.size, 0, none⟩ = some (.int .i64 0) := Br.cell 0
          have Br1 : w1.cell? ⟨w.heap.size, 1, none⟩ = some (.int .i64 0) := Br.cell 1
          go_wp2_with (refine wpList_store_blk rfl _ _ _ rfl w.heap.size rfl 155 _ _ rfl Br (by kernel_rfl) rfl (by simp [Value.oneCell']) ?_; intro wz BZ KZ)
          refine bodyPost_ret (v := .tuple #[.agg #[.int .i64 0, .int .i64 0], .int .i64 7]) ?_ rfl ⟨rfl, ?_, ?_⟩
          · have hq := results_blk_tmp (P := Tryz.prog) (fn := Tryz.f167) (p := 8) (u := 9) (ty := 155) rfl
            refine hq _ _ _ _ _ _ ?_ BZ Tryz.underlying155 rfl ?_
            · rfl
            · kernel_rfl
          · exact Held.own (by with_reducible repeat (first | exact H1 | apply zha | apply zhd | apply zhn)) KZ H.top
          · refine Stays.own ?_ KZ (Nat.le_refl _)
            with_reducible repeat (first | apply zsa | apply zsd)
            refine Stays.trans ?_ K1
            with_reducible repeat (first | apply zsa | apply zsd)
            exact Stays.refl _ _
        · rw [if_neg c5] at e
          replace e := GM.bind_eq e; obtain ⟨c, S6, e6, e⟩ := e
          obtain ⟨rfl, rfl⟩ := getS_eq e6
          replace e := GM.bind_eq e; obtain ⟨⟨l, a, ep⟩, S7, e7_, e⟩ := e; have e7 := Hd.mk e7_; clear e7_
          dsimp only at e
          by_cases c8 : ep = 0
          · rw [if_pos c8] at e; subst c8
            by_cases c9 : l < 0
            · rw [if_pos c9] at e
              obtain ⟨hv, rfl⟩ := GM.pure_eq e
              cases hv
              go_enter Tryz.func167, Tryz.ntmps167
              have Br := Blk.new w 155 #[.int .i64 0, .int .i64 0]
              go_wp2_with fail
              with_reducible refine (obLens_c (by with_reducible repeat (first | exact H | apply zha | apply zhd | apply zhn)) e1.out).mono ?_
              rintro _ w1 ⟨rfl, H1, K1⟩
              obtain ⟨⟨rn0, rn1⟩, ⟨rd0, rd1⟩, _⟩ := obLens_range H.ok e1.out
              replace Br := Blk.stays (by with_reducible repeat (first | exact Br | apply zba | apply zbd)) K1 (GA.foot_far H.top)
              have Br0 : w1.cell? ⟨w.heap.size, 0, none⟩ = some (.int .i64 0) := Br.cell 0
              have Br1 : w1.cell? ⟨w.heap.size, 1, none⟩ = some (.int .i64 0) := Br.cell 1
              go_wp2_with fail
              refine (conf_c (by with_reducible repeat (first | exact H1 | apply zha | apply zhd | apply zhn))).mono ?_
              rintro _ w6 ⟨rfl, H6, K6⟩
              replace Br := Blk.stays (by with_reducible repeat (first | exact Br | apply zba | apply zbd)) K6 (GA.foot_far H.top)
              clear Br0 Br1
              have Br0 : w6.cell? ⟨w.heap.size, 0, none⟩ = some (.int .i64 0) := Br.cell 0
              have Br1 : w6.cell? ⟨w.heap.size, 1, none⟩ = some (.int .i64 0) := Br.cell 1
              go_wp2_with fail
              with_reducible refine (Place_p (by with_reducible repeat (first | exact H6 | apply zha | apply zhd | apply zhn)) e7.out).mono ?_
              rintro _ w7 ⟨rfl, H7, K7⟩
              obtain ⟨rl0, rl1, rp0, rp1⟩ := shPlace_range H6.ok.w1 H6.ok.w2 (GM.pure_eq e7.out).1
              replace Br := Blk.stays (by with_reducible repeat (first | exact Br | apply zba | apply zbd)) K7 (GA.foot_far H.top)
              clear Br0 Br1
              have Br0 : w7.cell? ⟨w.heap.size, 0, none⟩ = some (.int .i64 0) := Br.cell 0
              have Br1 : w7.cell? ⟨w.heap.size, 1, none⟩ = some (.int .i64 0) := Br.cell 1
              go_wp2_with (refine wpList_store_blk rfl _ _ _ rfl w.heap.size rfl 155 _ _ rfl Br (by kernel_rfl) rfl (by simp [Value.oneCell']) ?_; intro wz BZ KZ)
              refine bodyPost_ret (v := .tuple #[.agg #[.int .i64 (r - 1), .int .i64 v1], .int .i64 0]) ?_ rfl ⟨rfl, ?_, ?_⟩
              · have hq := results_blk_tmp (P := Tryz.prog) (fn := Tryz.f167) (p := 8) (u := 9) (ty := 155) rfl
                refine hq _ _ _ _ _ _ ?_ BZ Tryz.underlying155 rfl ?_
                · rfl
                · kernel_rfl
              · exact Held.own (by with_reducible repeat (first | exact H7 | apply zha | apply zhd | apply zhn)) KZ H.top
              · refine Stays.own ?_ KZ (Nat.le_refl _)
                with_reducible repeat (first | apply zsa | apply zsd)
                refine Stays.trans ?_ K7
                with_reducible repeat (first | apply zsa | apply zsd)
                refine Stays.trans ?_ K6
                with_reducible repeat (first | apply zsa | apply zsd)
                refine Stays.trans ?_ K1
                with_reducible repeat (first | apply zsa | apply zsd)
                exact Stays.refl _ _
            · rw [if_neg c9] at e
              replace e := GM.bind_eq e; obtain ⟨b, S10, e10_, e⟩ := e; have e10 := Hd.mk e10_; clear e10_
              by_cases c11 : b = 0
              · rw [if_pos c11] at e; subst c11
                obtain ⟨hv, rfl⟩ := GM.pure_eq e
                cases hv
                go_enter Tryz.func167, Tryz.ntmps167
                have Br := Blk.new w 155 #[.int .i64 0, .int .i64 0]
                go_wp2_with fail
                with_reducible refine (obLens_c (by with_reducible repeat (first | exact H | apply zha | apply zhd | apply zhn)) e1.out).mono ?_
                rintro _ w1 ⟨rfl, H1, K1⟩
                obtain ⟨⟨rn0, rn1⟩, ⟨rd0, rd1⟩, _⟩ := obLens_range H.ok e1.out
                replace Br := Blk.stays (by with_reducible repeat (first | exact Br | apply zba | apply zbd)) K1 (GA.foot_far H.top)
                have Br0 : w1.cell? ⟨w.heap.size, 0, none⟩ = some (.int .i64 0) := Br.cell 0
                have Br1 : w1.cell? ⟨w.heap.size, 1, none⟩ = some (.int .i64 0) := Br.cell 1
                go_wp2_with fail
                refine (conf_c (by with_reducible repeat (first | exact H1 | apply zha | apply zhd | apply zhn))).mono ?_
                rintro _ w6 ⟨rfl, H6, K6⟩
                replace Br := Blk.stays (by with_reducible repeat (first | exact Br | apply zba | apply zbd)) K6 (GA.foot_far H.top)
                clear Br0 Br1
                have Br0 : w6.cell? ⟨w.heap.size, 0, none⟩ = some (.int .i64 0) := Br.cell 0
                have Br1 : w6.cell? ⟨w.heap.size, 1, none⟩ = some (.int .i64 0) := Br.cell 1
                go_wp2_with fail
                with_reducible refine (Place_p (by with_reducible repeat (first | exact H6 | apply zha | apply zhd | apply zhn)) e7.out).mono ?_
                rintro _ w7 ⟨rfl, H7, K7⟩
                obtain ⟨rl0, rl1, rp0, rp1⟩ := shPlace_range H6.ok.w1 H6.ok.w2 (GM.pure_eq e7.out).1
                replace Br := Blk.stays (by with_reducible repeat (first | exact Br | apply zba | apply zbd)) K7 (GA.foot_far H.top)
                clear Br0 Br1
                have Br0 : w7.cell? ⟨w.heap.size, 0, none⟩ = some (.int .i64 0) := Br.cell 0
                have Br1 : w7.cell? ⟨w.heap.size, 1, none⟩ = some (.int .i64 0) := Br.cell 1
                go_wp2_with fail
                with_reducible refine (Word_c (by with_reducible repeat (first | exact H7 | apply zha | apply zhd | apply zhn)) e10.out).mono ?_
                rintro _ w10 ⟨rfl, H10, K10⟩
                obtain ⟨rb0, rb1⟩ := stGet_range (H7).ok e10.out
                replace Br := Blk.stays (by with_reducible repeat (first | exact Br | apply zba | apply zbd)) K10 (GA.foot_far H.top)
                clear Br0 Br1
                have Br0 : w10.cell? ⟨w.heap.size, 0, none⟩ = some (.int .i64 0) := Br.cell 0
                have Br1 : w10.cell? ⟨w.heap.size, 1, none⟩ = some (.int .i64 0) := Br.cell 1
                go_wp2_with (refine wpList_store_blk rfl _ _ _ rfl w.heap.size rfl 155 _ _ rfl Br (by kernel_rfl) rfl (by simp [Value.oneCell']) ?_; intro wz BZ KZ)
                refine bodyPost_ret (v := .tuple #[.agg #[.int .i64 0, .int .i64 0], .int .i64 7]) ?_ rfl ⟨rfl, ?_, ?_⟩
                · have hq := results_blk_tmp (P := Tryz.prog) (fn := Tryz.f167) (p := 8) (u := 9) (ty := 155) rfl
                  refine hq _ _ _ _ _ _ ?_ BZ Tryz.underlying155 rfl ?_
                  · rfl
                  · kernel_rfl
                · exact Held.own (by with_reducible repeat (first | exact H10 | apply zha | apply zhd | apply zhn)) KZ H.top
                · refine Stays.own ?_ KZ (Nat.le_refl _)
                  with_reducible repeat (first | apply zsa | apply zsd)
                  refine Stays.trans ?_ K10
                  with_reducible repeat (first | apply zsa | apply zsd)
                  refine Stays.trans ?_ K7
                  with_reducible repeat (first | apply zsa | apply zsd)
                  refine Stays.trans ?_ K6
                  with_reducible repeat (first | apply zsa | apply zsd)
                  refine Stays.trans ?_ K1
                  with_reducible repeat (first | apply zsa | apply zsd)
                  exact Stays.refl _ _
              · rw [if_neg c11] at e; have c11b : (b == 0) = false := beq_eq_false_iff_ne.2 c11; have c11n : (b != 0) = true := bne_iff_ne.2 c11
                obtain ⟨hv, rfl⟩ := GM.pure_eq e
                cases hv
                go_enter Tryz.func167, Tryz.ntmps167
                have Br := Blk.new w 155 #[.int .i64 0, .int .i64 0]
                go_wp2_with fail
                with_reducible refine (obLens_c (by with_reducible repeat (first | exact H | apply zha | apply zhd | apply zhn)) e1.out).mono ?_
                rintro _ w1 ⟨rfl, H1, K1⟩
                obtain ⟨⟨rn0, rn1⟩, ⟨rd0, rd1⟩, _⟩ := obLens_range H.ok e1.out
                replace Br := Blk.stays (by with_reducible repeat (first | exact Br | apply zba | apply zbd)) K1 (GA.foot_far H.top)
                have Br0 : w1.cell? ⟨w.heap.size, 0, none⟩ = some (.int .i64 0) := Br.cell 0
                have Br1 : w1.cell? ⟨w.heap.size, 1, none⟩ = some (.int .i64 0) := Br.cell 1
                go_wp2_with fail
                refine (conf_c (by with_reducible repeat (first | exact H1 | apply zha | apply zhd | apply zhn))).mono ?_
                rintro _ w6 ⟨rfl, H6, K6⟩
                replace Br := Blk.stays (by with_reducible repeat (first | exact Br | apply zba | apply zbd)) K6 (GA.foot_far H.top)
                clear Br0 Br1
                have Br0 : w6.cell? ⟨w.heap.size, 0, none⟩ = some (.int .i64 0) := Br.cell 0
                have Br1 : w6.cell? ⟨w.heap.size, 1, none⟩ = some (.int .i64 0) := Br.cell 1
                go_wp2_with fail
                with_reducible refine (Place_p (by with_reducible repeat (first | exact H6 | apply zha | apply zhd | apply zhn)) e7.out).mono ?_
                rintro _ w7 ⟨rfl, H7, K7⟩
                obtain ⟨rl0, rl1, rp0, rp1⟩ := shPlace_range H6.ok.w1 H6.ok.w2 (GM.pure_eq e7.out).1
                replace Br := Blk.stays (by with_reducible repeat (first | exact Br | apply zba | apply zbd)) K7 (GA.foot_far H.top)
                clear Br0 Br1
                have Br0 : w7.cell? ⟨w.heap.size, 0, none⟩ = some (.int .i64 0) := Br.cell 0
                have Br1 : w7.cell? ⟨w.heap.size, 1, none⟩ = some (.int .i64 0) := Br.cell 1
                go_wp2_with fail
                with_reducible refine (Word_c (by with_reducible repeat (first | exact H7 | apply zha | apply zhd | apply zhn)) e10.out).mono ?_
                rintro _ w10 ⟨rfl, H10, K10⟩
                obtain ⟨rb0, rb1⟩ := stGet_range (H7).ok e10.out
                replace Br := Blk.stays (by with_reducible repeat (first | exact Br | apply zba | apply zbd)) K10 (GA.foot_far H.top)
                clear Br0 Br1
                have Br0 : w10.cell? ⟨w.heap.size, 0, none⟩ = some (.int .i64 0) := Br.cell 0
                have Br1 : w10.cell? ⟨w.heap.size, 1, none⟩ = some (.int .i64 0) := Br.cell 1
                go_wp2_with (refine wpList_store_blk rfl _ _ _ rfl w.heap.size rfl 155 _ _ rfl Br (by kernel_rfl) rfl (by simp [Value.oneCell']) ?_; intro wz BZ KZ)
                refine bodyPost_ret (v := .tuple #[.agg #[.int .i64 (b - 1), .int .i64 v1], .int .i64 0]) ?_ rfl ⟨rfl, ?_, ?_⟩
                · have hq := results_blk_tmp (P := Tryz.prog) (fn := Tryz.f167) (p := 8) (u := 9) (ty := 155) rfl
                  refine hq _ _ _ _ _ _ ?_ BZ Tryz.underlying155 rfl ?_
                  · rfl
                  · kernel_rfl
                · exact Held.own (by with_reducible repeat (first | exact H10 | apply zha | apply zhd | apply zhn)) KZ H.top
                · refine Stays.own ?_ KZ (Nat.le_refl _)
                  with_reducible repeat (first | apply zsa | apply zsd)
                  refine Stays.trans ?_ K10
                  with_reducible repeat (first | apply zsa | apply zsd)
                  refine Stays.trans ?_ K7
                  with_reducible repeat (first | apply zsa | apply zsd)
                  refine Stays.trans ?_ K6
                  with_reducible repeat (first | apply zsa | apply zsd)
                  refine Stays.trans ?_ K1
                  with_reducible repeat (first | apply zsa | apply zsd)
                  exact Stays.refl _ _
          · rw [if_neg c8] at e; have c8b : (ep == 0) = false := beq_eq_false_iff_ne.2 c8; have c8n : (ep != 0) = true := bne_iff_ne.2 c8
            obtain ⟨hv, rfl⟩ := GM.pure_eq e
            cases hv
            go_enter Tryz.func167, Tryz.ntmps167
            have Br := Blk.new w 155 #[.int .i64 0, .int .i64 0]
            go_wp2_with fail
            with_reducible refine (obLens_c (by with_reducible repeat (first | exact H | apply zha | apply zhd | apply zhn)) e1.out).mono ?_
            rintro _ w1 ⟨rfl, H1, K1⟩
            obtain ⟨⟨rn0, rn1⟩, ⟨rd0, rd1⟩, _⟩ := obLens_range H.ok e1.out
            replace Br := Blk.stays (by with_reducible repeat (first | exact Br | apply zba | apply zbd)) K1 (GA.foot_far H.top)
            have Br0 : w1.cell? ⟨w.heap.size, 0, none⟩ = some (.int .i64 0) := Br.cell 0
            have Br1 : w1.cell? ⟨w.heap.size, 1, none⟩ = some (.int .i64 0) := Br.cell 1
            go_wp2_with fail
            refine (conf_c (by with_reducible repeat (first | exact H1 | apply zha | apply zhd | apply zhn))).mono ?_
            rintro _ w6 ⟨rfl, H6, K6⟩
            replace Br := Blk.stays (by with_reducible repeat (first | exact Br | apply zba | apply zbd)) K6 (GA.foot_far H.top)
            clear Br0 Br1
            have Br0 : w6.cell? ⟨w.heap.size, 0, none⟩ = some (.int .i64 0) := Br.cell 0
            have Br1 : w6.cell? ⟨w.heap.size, 1, none⟩ = some (.int .i64 0) := Br.cell 1
            go_wp2_with fail
            with_reducible refine (Place_p (by with_reducible repeat (first | exact H6 | apply zha | apply zhd | apply zhn)) e7.out).mono ?_
            rintro _ w7 ⟨rfl, H7, K7⟩
            obtain ⟨rl0, rl1, rp0, rp1⟩ := shPlace_range H6.ok.w1 H6.ok.w2 (GM.pure_eq e7.out).1
            replace Br := Blk.stays (by with_reducible repeat (first | exact Br | apply zba | apply zbd)) K7 (GA.foot_far H.top)
            clear Br0 Br1
            have Br0 : w7.cell? ⟨w.heap.size, 0, none⟩ = some (.int .i64 0) := Br.cell 0
            have Br1 : w7.cell? ⟨w.heap.size, 1, none⟩ = some (.int .i64 0) := Br.cell 1
            go_wp2_with (refine wpList_store_blk rfl _ _ _ rfl w.heap.size rfl 155 _ _ rfl Br (by kernel_rfl) rfl (by simp [Value.oneCell']) ?_; intro wz BZ KZ)
            refine bodyPost_ret (v := .tuple #[.agg #[.int .i64 0, .int .i64 0], .int .i64 v2]) ?_ rfl ⟨rfl, ?_, ?_⟩
            · have hq := results_blk_tmp (P := Tryz.prog) (fn := Tryz.f167) (p := 8) (u := 9) (ty := 155) rfl
              refine hq _ _ _ _ _ _ ?_ BZ Tryz.underlying155 rfl ?_
              · rfl
              · kernel_rfl
            · exact Held.own (by with_reducible repeat (first | exact H7 | apply zha | apply zhd | apply zhn)) KZ H.top
            · refine Stays.own ?_ KZ (Nat.le_refl _)
              with_reducible repeat (first | apply zsa | apply zsd)
              refine Stays.trans ?_ K7
              with_reducible repeat (first | apply zsa | apply zsd)
              refine Stays.trans ?_ K6
              with_reducible repeat (first | apply zsa | apply zsd)
              refine Stays.trans ?_ K1
              with_reducible repeat (first | apply zsa | apply zsd)
              exact Stays.refl _ _
  · rw [if_neg c2] at e; have c2b : (er == 0) = false := beq_eq_false_iff_ne.2 c2; have c2n : (er != 0) = true := bne_iff_ne.2 c2
    obtain ⟨hv, rfl⟩ := GM.pure_eq e
    cases hv
    go_enter Tryz.func167, Tryz.ntmps167
    have Br := Blk.new w 155 #[.int .i64 0, .int .i64 0]
    go_wp2_with fail
    with_reducible refine (obLens_c (by with_reducible repeat (first | exact H | apply zha | apply zhd | apply zhn)) e1.out).mono ?_
    rintro _ w1 ⟨rfl, H1, K1⟩
    obtain ⟨⟨rn0, rn1⟩, ⟨rd0, rd1⟩, _⟩ := obLens_range H.ok e1.out
    replace Br := Blk.stays (by with_reducible repeat (first | exact Br | apply zba | apply zbd)) K1 (GA.foot_far H.top)
    have Br0 : w1.cell? ⟨w.heap.size, 0, none⟩ = some (.int .i64 0) := Br.cell 0
    have Br1 : w1.cell? ⟨w.heap.size, 1, none⟩ = some (.int .i64 0) := Br.cell 1
    go_wp2_with (refine wpList_store_blk rfl _ _ _ rfl w.heap.size rfl 155 _ _ rfl Br (by kernel_rfl) rfl (by simp [Value.oneCell']) ?_; intro wz BZ KZ)
    refine bodyPost_ret (v := .tuple #[.agg #[.int .i64 0, .int .i64 0], .int .i64 v2]) ?_ rfl ⟨rfl, ?_, ?_⟩
    · have hq := results_blk_tmp (P := Tryz.prog) (fn := Tryz.f167) (p := 8) (u := 9) (ty := 155) rfl
      refine hq _ _ _ _ _ _ ?_ BZ Tryz.underlying155 rfl ?_
      · rfl
      · kernel_rfl
    · exact Held.own (by with_reducible repeat (first | exact H1 | apply zha | apply zhd | apply zhn)) KZ H.top
    · refine Stays.own ?_ KZ (Nat.le_refl _)
      with_reducible repeat (first | apply zsa | apply zsd)
      refine Stays.trans ?_ K1
      with_reducible repeat (first | apply zsa | apply zsd)
      exact Stays.refl _ _
end Go.Proofs.YtadhdjldcpkfiaaGreatDoor
