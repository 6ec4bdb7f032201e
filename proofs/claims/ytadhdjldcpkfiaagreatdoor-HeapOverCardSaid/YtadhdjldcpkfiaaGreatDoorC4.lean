/- What the calls of ring do, and of the marks. Nothing is asked but that the ground lies there. -/
import Derived.Test.YtadhdjldcpkfiaaGreatDoorTm
namespace Go.Proofs.YtadhdjldcpkfiaaGreatDoor
set_option linter.unusedVariables false
set_option linter.unusedSimpArgs false
open Go.RowKit
set_option maxRecDepth 100000
set_option maxHeartbeats 800000
/-- Pack beside a ground. -/
theorem Pack_d {A : GA} {S : GS} {w : World} (H : Held A S w) (t : Tag) (hu : t.Used) (ho : 0 ≤ t.owner ∧ t.owner < 16777216) {a b : Int} (e : tagPack t = (a, b)) :
    Calls Tryz.prog 225 #[.agg #[.int .i64 t.kind, .int .i64 t.color, .int .i64 t.count, .int .i64 t.shade, .int .i64 t.dead, .int .i64 t.ring, .int .i64 t.owner]] w (Did A w (.tuple #[.int .u32 a, .int .i64 b]) S) := by
  refine (Pack_c t w H.z hu ho).mono fun e' w' h => ?_
  have e1 : (tagPack t).1 = a := by rw [e]
  have e2 : (tagPack t).2 = b := by rw [e]
  rw [e1, e2] at h
  exact ⟨h.ret, H.stays h.stays (fun _ _ x => x), h.stays.mono (fun _ x => x.elim)⟩

theorem tagWord_range {t : Tag} (h : tagRight t = true) (hu : t.Used) (ho : 0 ≤ t.owner ∧ t.owner < 16777216) : 0 ≤ tagWord t ∧ tagWord t ≤ 4294967295 := by
  have hm := right_marks h
  have b (j : Nat) (hj : j < 5) : 0 ≤ t.mk_ j ∧ t.mk_ j ≤ 1 := by rcases bit01_pos (hm j hj) with e | e <;> omega
  have b0 := b 0 (by omega)
  have b1 := b 1 (by omega)
  have b2 := b 2 (by omega)
  have b3 := b 3 (by omega)
  have b4 := b 4 (by omega)
  simp only [Tag.mk_] at b0 b1 b2 b3 b4
  unfold Tag.Used at hu
  unfold tagWord
  omega
theorem tagPack_right {t : Tag} (h : tagRight t = true) : tagPack t = (tagWord t, 0) := by unfold tagPack; rw [if_pos h]
theorem tagPack_wrong {t : Tag} (h : ¬ tagRight t = true) : tagPack t = (0, 2) := by unfold tagPack; rw [if_neg h]
theorem rgMarked_used {S T : GS} {b m : Int} {t : Tag} (e : rgMarked b m S = ((t, true), T)) : (t.kind = 1 ∨ t.kind = 2) ∧ (0 ≤ t.owner ∧ t.owner < 16777216) ∧ 0 ≤ b ∧ b < S.n := by
  unfold rgMarked at e
  split at e
  · cases e
  · split at e
    · cases e
    · generalize Word b 0 S = x at e
      obtain ⟨v, U⟩ := x
      simp only [Prod.mk.injEq] at e
      obtain ⟨⟨rfl, h⟩, rfl⟩ := e
      simp only [Bool.and_eq_true, Bool.or_eq_true, decide_eq_true_eq] at h
      refine ⟨h.1, ?_, by omega, by omega⟩
      simp only [tagOf]
      omega
theorem tiOf_used {S T : GS} {r : Int} {t : Tag} (e : tiOf r S = ((t, true), T)) : (t.kind = 1 ∨ t.kind = 2) ∧ (0 ≤ t.owner ∧ t.owner < 16777216) ∧ 1 ≤ r ∧ r ≤ S.n := by
  unfold tiOf at e
  split at e
  · cases e
  · split at e
    · cases e
    · generalize Word (r - 1) 0 S = x at e
      obtain ⟨v, U⟩ := x
      simp only [Prod.mk.injEq] at e
      obtain ⟨⟨rfl, h⟩, rfl⟩ := e
      simp only [Bool.or_eq_true, decide_eq_true_eq] at h
      refine ⟨h, ?_, by omega, by omega⟩
      simp only [tagOf]
      omega

def rgMark (b : Int) (t : Tag) (m : Int) : GM Unit :=
  if tagRight { t with ring := m } = true then
    SetWord b 0 (tagWord { t with ring := m }) >>= fun _ =>
    pure ()
  else
    pure ()

theorem rgMark_c {A : GA} {S : GS} {w : World} (H : Held A S w) {b : Int} {t : Tag} {m : Int} (hk : t.kind = 1 ∨ t.kind = 2) (ho : 0 ≤ t.owner ∧ t.owner < 16777216) {T : GS} (e : rgMark b t m S = ((), T)) :
    Calls Tryz.prog 185 #[.pointer (some ⟨A.g, 0, none⟩), .int .i64 b, .agg #[.int .i64 t.kind, .int .i64 t.color, .int .i64 t.count, .int .i64 t.shade, .int .i64 t.dead, .int .i64 t.ring, .int .i64 t.owner], .int .i64 m] w (Did A w (.tuple #[]) T) := by
  unfold rgMark at e
  have hu_ : ({ t with ring := m } : Tag).Used := by rcases hk with h | h; exact Or.inl h; exact Or.inr (Or.inl h)
  by_cases c1_ : tagRight { t with ring := m } = true
  · rw [if_pos c1_] at e; have c1 := Hd.mk c1_; clear c1_
    have hr0 := Hd.mk (tagWord_range c1.out hu_ ho)
    replace e := GM.bind_eq e; obtain ⟨u3, S3, e3_, e⟩ := e; have e3 := Hd.mk e3_; clear e3_
    obtain ⟨hv, rfl⟩ := GM.pure_eq e
    clear hv
    go_enter Tryz.func185, Tryz.ntmps185
    have Bt := Blk.new w 149 #[.int .i64 t.kind, .int .i64 t.color, .int .i64 t.count, .int .i64 t.shade, .int .i64 t.dead, .int .i64 m, .int .i64 t.owner]
    go_wp2_with fail
    with_reducible refine (Pack_d (by with_reducible repeat (first | exact H | apply zha | apply zhd | apply zhn)) { t with ring := m } hu_ ho (tagPack_right c1.out)).mono ?_
    rintro _ w2 ⟨rfl, H2, K2⟩
    replace Bt := Blk.stays (by with_reducible repeat (first | exact Bt | apply zba | apply zbd)) K2 (GA.foot_far H.top)
    have Bt0 : w2.cell? ⟨w.heap.size, 0, none⟩ = some (.int .i64 t.kind) := Bt.cell 0
    have Bt1 : w2.cell? ⟨w.heap.size, 1, none⟩ = some (.int .i64 t.color) := Bt.cell 1
    have Bt2 : w2.cell? ⟨w.heap.size, 2, none⟩ = some (.int .i64 t.count) := Bt.cell 2
    have Bt3 : w2.cell? ⟨w.heap.size, 3, none⟩ = some (.int .i64 t.shade) := Bt.cell 3
    have Bt4 : w2.cell? ⟨w.heap.size, 4, none⟩ = some (.int .i64 t.dead) := Bt.cell 4
    have Bt5 : w2.cell? ⟨w.heap.size, 5, none⟩ = some (.int .i64 m) := Bt.cell 5
    have Bt6 : w2.cell? ⟨w.heap.size, 6, none⟩ = some (.int .i64 t.owner) := Bt.cell 6
    go_wp2_with fail
    with_reducible refine (SetWord_c (by with_reducible repeat (first | exact H2 | apply zha | apply zhd | apply zhn)) hr0.out.1 hr0.out.2 e3.out).mono ?_
    rintro _ w3 ⟨rfl, H3, K3⟩
    replace Bt := Blk.stays (by with_reducible repeat (first | exact Bt | apply zba | apply zbd)) K3 (GA.foot_far H.top)
    clear Bt0 Bt1 Bt2 Bt3 Bt4 Bt5 Bt6
    have Bt0 : w3.cell? ⟨w.heap.size, 0, none⟩ = some (.int .i64 t.kind) := Bt.cell 0
    have Bt1 : w3.cell? ⟨w.heap.size, 1, none⟩ = some (.int .i64 t.color) := Bt.cell 1
    have Bt2 : w3.cell? ⟨w.heap.size, 2, none⟩ = some (.int .i64 t.count) := Bt.cell 2
    have Bt3 : w3.cell? ⟨w.heap.size, 3, none⟩ = some (.int .i64 t.shade) := Bt.cell 3
    have Bt4 : w3.cell? ⟨w.heap.size, 4, none⟩ = some (.int .i64 t.dead) := Bt.cell 4
    have Bt5 : w3.cell? ⟨w.heap.size, 5, none⟩ = some (.int .i64 m) := Bt.cell 5
    have Bt6 : w3.cell? ⟨w.heap.size, 6, none⟩ = some (.int .i64 t.owner) := Bt.cell 6
    go_wp2_with fail
    go_end0
    exact ⟨by first | rfl | (simp; done) | (simp [*]; done), (by with_reducible repeat (first | exact H3 | apply zha | apply zhd | apply zhn)), by
      with_reducible repeat (first | apply zsa | apply zsd)
      refine Stays.trans ?_ K3
      with_reducible repeat (first | apply zsa | apply zsd)
      refine Stays.trans ?_ K2
      with_reducible repeat (first | apply zsa | apply zsd)
      exact Stays.refl _ _⟩
  · rw [if_neg c1_] at e; have c1 := Hd.mk c1_; clear c1_
    obtain ⟨hv, rfl⟩ := GM.pure_eq e
    clear hv
    go_enter Tryz.func185, Tryz.ntmps185
    have Bt := Blk.new w 149 #[.int .i64 t.kind, .int .i64 t.color, .int .i64 t.count, .int .i64 t.shade, .int .i64 t.dead, .int .i64 m, .int .i64 t.owner]
    go_wp2_with fail
    with_reducible refine (Pack_d (by with_reducible repeat (first | exact H | apply zha | apply zhd | apply zhn)) { t with ring := m } hu_ ho (tagPack_wrong c1.out)).mono ?_
    rintro _ w2 ⟨rfl, H2, K2⟩
    replace Bt := Blk.stays (by with_reducible repeat (first | exact Bt | apply zba | apply zbd)) K2 (GA.foot_far H.top)
    have Bt0 : w2.cell? ⟨w.heap.size, 0, none⟩ = some (.int .i64 t.kind) := Bt.cell 0
    have Bt1 : w2.cell? ⟨w.heap.size, 1, none⟩ = some (.int .i64 t.color) := Bt.cell 1
    have Bt2 : w2.cell? ⟨w.heap.size, 2, none⟩ = some (.int .i64 t.count) := Bt.cell 2
    have Bt3 : w2.cell? ⟨w.heap.size, 3, none⟩ = some (.int .i64 t.shade) := Bt.cell 3
    have Bt4 : w2.cell? ⟨w.heap.size, 4, none⟩ = some (.int .i64 t.dead) := Bt.cell 4
    have Bt5 : w2.cell? ⟨w.heap.size, 5, none⟩ = some (.int .i64 m) := Bt.cell 5
    have Bt6 : w2.cell? ⟨w.heap.size, 6, none⟩ = some (.int .i64 t.owner) := Bt.cell 6
    go_wp2_with fail
    go_end0
    exact ⟨by first | rfl | (simp; done) | (simp [*]; done), (by with_reducible repeat (first | exact H2 | apply zha | apply zhd | apply zhn)), by
      with_reducible repeat (first | apply zsa | apply zsd)
      refine Stays.trans ?_ K2
      with_reducible repeat (first | apply zsa | apply zsd)
      exact Stays.refl _ _⟩

def rgLink (name : Int) (wrd : Int) (reg : Int) (to : Int) : GM Unit :=
  if name = 0 then
    SetReg reg to >>= fun _ =>
    pure ()
  else
    SetWord (name - 1) wrd to >>= fun _ =>
    pure ()

theorem rgLink_c {A : GA} {S : GS} {w : World} (H : Held A S w) {name : Int} {wrd : Int} {reg : Int} {to : Int} (hn0 : 0 ≤ name) (hn1 : name ≤ 4294967295) (ht0 : 0 ≤ to) (ht1 : to ≤ 4294967295) {T : GS} (e : rgLink name wrd reg to S = ((), T)) :
    Calls Tryz.prog 186 #[.pointer (some ⟨A.g, 0, none⟩), .int .i64 name, .int .i64 wrd, .int .i64 reg, .int .i64 to] w (Did A w (.tuple #[]) T) := by
  unfold rgLink at e
  by_cases c1 : name = 0
  · rw [if_pos c1] at e; subst c1
    replace e := GM.bind_eq e; obtain ⟨u2, S2, e2_, e⟩ := e; have e2 := Hd.mk e2_; clear e2_
    obtain ⟨hv, rfl⟩ := GM.pure_eq e
    clear hv
    go_enter Tryz.func186, Tryz.ntmps186
    go_wp2_with fail
    with_reducible refine (SetReg_c (by with_reducible repeat (first | exact H | apply zha | apply zhd | apply zhn)) e2.out).mono ?_
    rintro _ w2 ⟨rfl, H2, K2⟩
    go_wp2_with fail
    go_end0
    exact ⟨by first | rfl | (simp; done) | (simp [*]; done), (by with_reducible repeat (first | exact H2 | apply zha | apply zhd | apply zhn)), by
      with_reducible repeat (first | apply zsa | apply zsd)
      refine Stays.trans ?_ K2
      with_reducible repeat (first | apply zsa | apply zsd)
      exact Stays.refl _ _⟩
  · rw [if_neg c1] at e; have c1b : (name == 0) = false := beq_eq_false_iff_ne.2 c1; have c1n : (name != 0) = true := bne_iff_ne.2 c1
    replace e := GM.bind_eq e; obtain ⟨u2, S2, e2_, e⟩ := e; have e2 := Hd.mk e2_; clear e2_
    obtain ⟨hv, rfl⟩ := GM.pure_eq e
    clear hv
    go_enter Tryz.func186, Tryz.ntmps186
    go_wp2_with fail
    with_reducible refine (SetWord_c (by with_reducible repeat (first | exact H | apply zha | apply zhd | apply zhn)) (by omega) (by omega) e2.out).mono ?_
    rintro _ w2 ⟨rfl, H2, K2⟩
    go_wp2_with fail
    go_end0
    exact ⟨by first | rfl | (simp; done) | (simp [*]; done), (by with_reducible repeat (first | exact H2 | apply zha | apply zhd | apply zhn)), by
      with_reducible repeat (first | apply zsa | apply zsd)
      refine Stays.trans ?_ K2
      with_reducible repeat (first | apply zsa | apply zsd)
      exact Stays.refl _ _⟩

def obMark (b : Int) (t : Tag) : GM Unit :=
  SetWord b 0 (tagWord t) >>= fun _ =>
  pure ()

theorem obMark_c {A : GA} {S : GS} {w : World} (H : Held A S w) {b : Int} {t : Tag} (hr : tagRight t = true) (hu : t.Used) (ho : 0 ≤ t.owner ∧ t.owner < 16777216) {T : GS} (e : obMark b t S = ((), T)) :
    Calls Tryz.prog 163 #[.pointer (some ⟨A.g, 0, none⟩), .int .i64 b, .agg #[.int .i64 t.kind, .int .i64 t.color, .int .i64 t.count, .int .i64 t.shade, .int .i64 t.dead, .int .i64 t.ring, .int .i64 t.owner]] w (Did A w (.tuple #[]) T) := by
  unfold obMark at e
  have hr0 := Hd.mk (tagWord_range hr hu ho)
  have hp := Hd.mk (tagPack_right hr); clear hr
  replace e := GM.bind_eq e; obtain ⟨u2, S2, e2_, e⟩ := e; have e2 := Hd.mk e2_; clear e2_
  obtain ⟨hv, rfl⟩ := GM.pure_eq e
  clear hv
  go_enter Tryz.func163, Tryz.ntmps163
  have Bt := Blk.new w 149 #[.int .i64 t.kind, .int .i64 t.color, .int .i64 t.count, .int .i64 t.shade, .int .i64 t.dead, .int .i64 t.ring, .int .i64 t.owner]
  go_wp2_with fail
  with_reducible refine (Pack_d (by with_reducible repeat (first | exact H | apply zha | apply zhd | apply zhn)) t hu ho hp.out).mono ?_
  rintro _ w1 ⟨rfl, H1, K1⟩
  replace Bt := Blk.stays (by with_reducible repeat (first | exact Bt | apply zba | apply zbd)) K1 (GA.foot_far H.top)
  have Bt0 : w1.cell? ⟨w.heap.size, 0, none⟩ = some (.int .i64 t.kind) := Bt.cell 0
  have Bt1 : w1.cell? ⟨w.heap.size, 1, none⟩ = some (.int .i64 t.color) := Bt.cell 1
  have Bt2 : w1.cell? ⟨w.heap.size, 2, none⟩ = some (.int .i64 t.count) := Bt.cell 2
  have Bt3 : w1.cell? ⟨w.heap.size, 3, none⟩ = some (.int .i64 t.shade) := Bt.cell 3
  have Bt4 : w1.cell? ⟨w.heap.size, 4, none⟩ = some (.int .i64 t.dead) := Bt.cell 4
  have Bt5 : w1.cell? ⟨w.heap.size, 5, none⟩ = some (.int .i64 t.ring) := Bt.cell 5
  have Bt6 : w1.cell? ⟨w.heap.size, 6, none⟩ = some (.int .i64 t.owner) := Bt.cell 6
  go_wp2_with fail
  with_reducible refine (SetWord_c (by with_reducible repeat (first | exact H1 | apply zha | apply zhd | apply zhn)) hr0.out.1 hr0.out.2 e2.out).mono ?_
  rintro _ w2 ⟨rfl, H2, K2⟩
  replace Bt := Blk.stays (by with_reducible repeat (first | exact Bt | apply zba | apply zbd)) K2 (GA.foot_far H.top)
  clear Bt0 Bt1 Bt2 Bt3 Bt4 Bt5 Bt6
  have Bt0 : w2.cell? ⟨w.heap.size, 0, none⟩ = some (.int .i64 t.kind) := Bt.cell 0
  have Bt1 : w2.cell? ⟨w.heap.size, 1, none⟩ = some (.int .i64 t.color) := Bt.cell 1
  have Bt2 : w2.cell? ⟨w.heap.size, 2, none⟩ = some (.int .i64 t.count) := Bt.cell 2
  have Bt3 : w2.cell? ⟨w.heap.size, 3, none⟩ = some (.int .i64 t.shade) := Bt.cell 3
  have Bt4 : w2.cell? ⟨w.heap.size, 4, none⟩ = some (.int .i64 t.dead) := Bt.cell 4
  have Bt5 : w2.cell? ⟨w.heap.size, 5, none⟩ = some (.int .i64 t.ring) := Bt.cell 5
  have Bt6 : w2.cell? ⟨w.heap.size, 6, none⟩ = some (.int .i64 t.owner) := Bt.cell 6
  go_wp2_with fail
  go_end0
  exact ⟨by first | rfl | (simp; done) | (simp [*]; done), (by with_reducible repeat (first | exact H2 | apply zha | apply zhd | apply zhn)), by
    with_reducible repeat (first | apply zsa | apply zsd)
    refine Stays.trans ?_ K2
    with_reducible repeat (first | apply zsa | apply zsd)
    refine Stays.trans ?_ K1
    with_reducible repeat (first | apply zsa | apply zsd)
    exact Stays.refl _ _⟩

def rgAdd (b : Int) : GM Bool :=
  rgMarked b 0 >>= fun ⟨t, ok⟩ =>
  if ok then
    rgMark b t 1 >>= fun _ =>
    Reg 8 >>= fun en =>
    SetWord b 6 en >>= fun _ =>
    SetWord b 7 0 >>= fun _ =>
    rgLink en 7 7 (b + 1) >>= fun _ =>
    SetReg 8 (b + 1) >>= fun _ =>
    Reg 9 >>= fun n =>
    SetReg 9 (n + 1) >>= fun _ =>
    pure true
  else
    pure false

theorem rgAdd_c {A : GA} {S : GS} {w : World} (H : Held A S w) {b : Int} {v0 : Bool} {T : GS} (e : rgAdd b S = (v0, T)) :
    Calls Tryz.prog 171 #[.pointer (some ⟨A.g, 0, none⟩), .int .i64 b] w (Did A w (.bool v0) T) := by
  unfold rgAdd at e
  replace e := GM.bind_eq e; obtain ⟨⟨t, ok⟩, S1, e1_, e⟩ := e; have e1 := Hd.mk e1_; clear e1_
  dsimp only at e
  by_cases c2 : ok = true
  · rw [if_pos c2] at e; subst c2
    obtain ⟨hk_, ho_, hb0, hb1⟩ := rgMarked_used e1.out
    have hn2 := H.ok.n2
    replace e := GM.bind_eq e; obtain ⟨u3, S3, e3_, e⟩ := e; have e3 := Hd.mk e3_; clear e3_
    replace e := GM.bind_eq e; obtain ⟨en, S4, e4_, e⟩ := e; have e4 := Hd.mk e4_; clear e4_
    replace e := GM.bind_eq e; obtain ⟨u5, S5, e5_, e⟩ := e; have e5 := Hd.mk e5_; clear e5_
    replace e := GM.bind_eq e; obtain ⟨u6, S6, e6_, e⟩ := e; have e6 := Hd.mk e6_; clear e6_
    replace e := GM.bind_eq e; obtain ⟨u7, S7, e7_, e⟩ := e; have e7 := Hd.mk e7_; clear e7_
    replace e := GM.bind_eq e; obtain ⟨u8, S8, e8_, e⟩ := e; have e8 := Hd.mk e8_; clear e8_
    replace e := GM.bind_eq e; obtain ⟨n, S9, e9_, e⟩ := e; have e9 := Hd.mk e9_; clear e9_
    replace e := GM.bind_eq e; obtain ⟨u10, S10, e10_, e⟩ := e; have e10 := Hd.mk e10_; clear e10_
    obtain ⟨hv, rfl⟩ := GM.pure_eq e
    obtain rfl := hv
    go_enter Tryz.func171, Tryz.ntmps171
    go_wp2_with fail
    with_reducible refine (rgMarked_c (by with_reducible repeat (first | exact H | apply zha | apply zhd | apply zhn)) e1.out).mono ?_
    rintro _ w1 ⟨rfl, H1, K1⟩
    have Bt := Blk.new w1 149 #[.int .i64 t.kind, .int .i64 t.color, .int .i64 t.count, .int .i64 t.shade, .int .i64 t.dead, .int .i64 t.ring, .int .i64 t.owner]
    go_wp2_with fail
    with_reducible refine (rgMark_c (by with_reducible repeat (first | exact H1 | apply zha | apply zhd | apply zhn)) hk_ ho_ e3.out).mono ?_
    rintro _ w3 ⟨rfl, H3, K3⟩
    replace Bt := Blk.stays (by with_reducible repeat (first | exact Bt | apply zba | apply zbd)) K3 (GA.foot_far H1.top)
    have Bt0 : w3.cell? ⟨w1.heap.size, 0, none⟩ = some (.int .i64 t.kind) := Bt.cell 0
    have Bt1 : w3.cell? ⟨w1.heap.size, 1, none⟩ = some (.int .i64 t.color) := Bt.cell 1
    have Bt2 : w3.cell? ⟨w1.heap.size, 2, none⟩ = some (.int .i64 t.count) := Bt.cell 2
    have Bt3 : w3.cell? ⟨w1.heap.size, 3, none⟩ = some (.int .i64 t.shade) := Bt.cell 3
    have Bt4 : w3.cell? ⟨w1.heap.size, 4, none⟩ = some (.int .i64 t.dead) := Bt.cell 4
    have Bt5 : w3.cell? ⟨w1.heap.size, 5, none⟩ = some (.int .i64 t.ring) := Bt.cell 5
    have Bt6 : w3.cell? ⟨w1.heap.size, 6, none⟩ = some (.int .i64 t.owner) := Bt.cell 6
    go_wp2_with fail
    with_reducible refine (Reg_c (by with_reducible repeat (first | exact H3 | apply zha | apply zhd | apply zhn)) e4.out).mono ?_
    rintro _ w4 ⟨rfl, H4, K4⟩
    obtain ⟨ren0, ren1⟩ := stGet_range (H3).ok e4.out
    replace Bt := Blk.stays (by with_reducible repeat (first | exact Bt | apply zba | apply zbd)) K4 (GA.foot_far H1.top)
    clear Bt0 Bt1 Bt2 Bt3 Bt4 Bt5 Bt6
    have Bt0 : w4.cell? ⟨w1.heap.size, 0, none⟩ = some (.int .i64 t.kind) := Bt.cell 0
    have Bt1 : w4.cell? ⟨w1.heap.size, 1, none⟩ = some (.int .i64 t.color) := Bt.cell 1
    have Bt2 : w4.cell? ⟨w1.heap.size, 2, none⟩ = some (.int .i64 t.count) := Bt.cell 2
    have Bt3 : w4.cell? ⟨w1.heap.size, 3, none⟩ = some (.int .i64 t.shade) := Bt.cell 3
    have Bt4 : w4.cell? ⟨w1.heap.size, 4, none⟩ = some (.int .i64 t.dead) := Bt.cell 4
    have Bt5 : w4.cell? ⟨w1.heap.size, 5, none⟩ = some (.int .i64 t.ring) := Bt.cell 5
    have Bt6 : w4.cell? ⟨w1.heap.size, 6, none⟩ = some (.int .i64 t.owner) := Bt.cell 6
    go_wp2_with fail
    with_reducible refine (SetWord_c (by with_reducible repeat (first | exact H4 | apply zha | apply zhd | apply zhn)) (by omega) (by omega) e5.out).mono ?_
    rintro _ w5 ⟨rfl, H5, K5⟩
    replace Bt := Blk.stays (by with_reducible repeat (first | exact Bt | apply zba | apply zbd)) K5 (GA.foot_far H1.top)
    clear Bt0 Bt1 Bt2 Bt3 Bt4 Bt5 Bt6
    have Bt0 : w5.cell? ⟨w1.heap.size, 0, none⟩ = some (.int .i64 t.kind) := Bt.cell 0
    have Bt1 : w5.cell? ⟨w1.heap.size, 1, none⟩ = some (.int .i64 t.color) := Bt.cell 1
    have Bt2 : w5.cell? ⟨w1.heap.size, 2, none⟩ = some (.int .i64 t.count) := Bt.cell 2
    have Bt3 : w5.cell? ⟨w1.heap.size, 3, none⟩ = some (.int .i64 t.shade) := Bt.cell 3
    have Bt4 : w5.cell? ⟨w1.heap.size, 4, none⟩ = some (.int .i64 t.dead) := Bt.cell 4
    have Bt5 : w5.cell? ⟨w1.heap.size, 5, none⟩ = some (.int .i64 t.ring) := Bt.cell 5
    have Bt6 : w5.cell? ⟨w1.heap.size, 6, none⟩ = some (.int .i64 t.owner) := Bt.cell 6
    go_wp2_with fail
    with_reducible refine (SetWord_c (by with_reducible repeat (first | exact H5 | apply zha | apply zhd | apply zhn)) (by omega) (by omega) e6.out).mono ?_
    rintro _ w6 ⟨rfl, H6, K6⟩
    replace Bt := Blk.stays (by with_reducible repeat (first | exact Bt | apply zba | apply zbd)) K6 (GA.foot_far H1.top)
    clear Bt0 Bt1 Bt2 Bt3 Bt4 Bt5 Bt6
    have Bt0 : w6.cell? ⟨w1.heap.size, 0, none⟩ = some (.int .i64 t.kind) := Bt.cell 0
    have Bt1 : w6.cell? ⟨w1.heap.size, 1, none⟩ = some (.int .i64 t.color) := Bt.cell 1
    have Bt2 : w6.cell? ⟨w1.heap.size, 2, none⟩ = some (.int .i64 t.count) := Bt.cell 2
    have Bt3 : w6.cell? ⟨w1.heap.size, 3, none⟩ = some (.int .i64 t.shade) := Bt.cell 3
    have Bt4 : w6.cell? ⟨w1.heap.size, 4, none⟩ = some (.int .i64 t.dead) := Bt.cell 4
    have Bt5 : w6.cell? ⟨w1.heap.size, 5, none⟩ = some (.int .i64 t.ring) := Bt.cell 5
    have Bt6 : w6.cell? ⟨w1.heap.size, 6, none⟩ = some (.int .i64 t.owner) := Bt.cell 6
    go_wp2_with fail
    with_reducible refine (rgLink_c (by with_reducible repeat (first | exact H6 | apply zha | apply zhd | apply zhn)) (by omega) (by omega) (by omega) (by omega) e7.out).mono ?_
    rintro _ w7 ⟨rfl, H7, K7⟩
    replace Bt := Blk.stays (by with_reducible repeat (first | exact Bt | apply zba | apply zbd)) K7 (GA.foot_far H1.top)
    clear Bt0 Bt1 Bt2 Bt3 Bt4 Bt5 Bt6
    have Bt0 : w7.cell? ⟨w1.heap.size, 0, none⟩ = some (.int .i64 t.kind) := Bt.cell 0
    have Bt1 : w7.cell? ⟨w1.heap.size, 1, none⟩ = some (.int .i64 t.color) := Bt.cell 1
    have Bt2 : w7.cell? ⟨w1.heap.size, 2, none⟩ = some (.int .i64 t.count) := Bt.cell 2
    have Bt3 : w7.cell? ⟨w1.heap.size, 3, none⟩ = some (.int .i64 t.shade) := Bt.cell 3
    have Bt4 : w7.cell? ⟨w1.heap.size, 4, none⟩ = some (.int .i64 t.dead) := Bt.cell 4
    have Bt5 : w7.cell? ⟨w1.heap.size, 5, none⟩ = some (.int .i64 t.ring) := Bt.cell 5
    have Bt6 : w7.cell? ⟨w1.heap.size, 6, none⟩ = some (.int .i64 t.owner) := Bt.cell 6
    go_wp2_with fail
    with_reducible refine (SetReg_c (by with_reducible repeat (first | exact H7 | apply zha | apply zhd | apply zhn)) e8.out).mono ?_
    rintro _ w8 ⟨rfl, H8, K8⟩
    replace Bt := Blk.stays (by with_reducible repeat (first | exact Bt | apply zba | apply zbd)) K8 (GA.foot_far H1.top)
    clear Bt0 Bt1 Bt2 Bt3 Bt4 Bt5 Bt6
    have Bt0 : w8.cell? ⟨w1.heap.size, 0, none⟩ = some (.int .i64 t.kind) := Bt.cell 0
    have Bt1 : w8.cell? ⟨w1.heap.size, 1, none⟩ = some (.int .i64 t.color) := Bt.cell 1
    have Bt2 : w8.cell? ⟨w1.heap.size, 2, none⟩ = some (.int .i64 t.count) := Bt.cell 2
    have Bt3 : w8.cell? ⟨w1.heap.size, 3, none⟩ = some (.int .i64 t.shade) := Bt.cell 3
    have Bt4 : w8.cell? ⟨w1.heap.size, 4, none⟩ = some (.int .i64 t.dead) := Bt.cell 4
    have Bt5 : w8.cell? ⟨w1.heap.size, 5, none⟩ = some (.int .i64 t.ring) := Bt.cell 5
    have Bt6 : w8.cell? ⟨w1.heap.size, 6, none⟩ = some (.int .i64 t.owner) := Bt.cell 6
    go_wp2_with fail
    with_reducible refine (Reg_c (by with_reducible repeat (first | exact H8 | apply zha | apply zhd | apply zhn)) e9.out).mono ?_
    rintro _ w9 ⟨rfl, H9, K9⟩
    obtain ⟨rn0, rn1⟩ := stGet_range (H8).ok e9.out
    replace Bt := Blk.stays (by with_reducible repeat (first | exact Bt | apply zba | apply zbd)) K9 (GA.foot_far H1.top)
    clear Bt0 Bt1 Bt2 Bt3 Bt4 Bt5 Bt6
    have Bt0 : w9.cell? ⟨w1.heap.size, 0, none⟩ = some (.int .i64 t.kind) := Bt.cell 0
    have Bt1 : w9.cell? ⟨w1.heap.size, 1, none⟩ = some (.int .i64 t.color) := Bt.cell 1
    have Bt2 : w9.cell? ⟨w1.heap.size, 2, none⟩ = some (.int .i64 t.count) := Bt.cell 2
    have Bt3 : w9.cell? ⟨w1.heap.size, 3, none⟩ = some (.int .i64 t.shade) := Bt.cell 3
    have Bt4 : w9.cell? ⟨w1.heap.size, 4, none⟩ = some (.int .i64 t.dead) := Bt.cell 4
    have Bt5 : w9.cell? ⟨w1.heap.size, 5, none⟩ = some (.int .i64 t.ring) := Bt.cell 5
    have Bt6 : w9.cell? ⟨w1.heap.size, 6, none⟩ = some (.int .i64 t.owner) := Bt.cell 6
    go_wp2_with fail
    with_reducible refine (SetReg_c (by with_reducible repeat (first | exact H9 | apply zha | apply zhd | apply zhn)) e10.out).mono ?_
    rintro _ w10 ⟨rfl, H10, K10⟩
    replace Bt := Blk.stays (by with_reducible repeat (first | exact Bt | apply zba | apply zbd)) K10 (GA.foot_far H1.top)
    clear Bt0 Bt1 Bt2 Bt3 Bt4 Bt5 Bt6
    have Bt0 : w10.cell? ⟨w1.heap.size, 0, none⟩ = some (.int .i64 t.kind) := Bt.cell 0
    have Bt1 : w10.cell? ⟨w1.heap.size, 1, none⟩ = some (.int .i64 t.color) := Bt.cell 1
    have Bt2 : w10.cell? ⟨w1.heap.size, 2, none⟩ = some (.int .i64 t.count) := Bt.cell 2
    have Bt3 : w10.cell? ⟨w1.heap.size, 3, none⟩ = some (.int .i64 t.shade) := Bt.cell 3
    have Bt4 : w10.cell? ⟨w1.heap.size, 4, none⟩ = some (.int .i64 t.dead) := Bt.cell 4
    have Bt5 : w10.cell? ⟨w1.heap.size, 5, none⟩ = some (.int .i64 t.ring) := Bt.cell 5
    have Bt6 : w10.cell? ⟨w1.heap.size, 6, none⟩ = some (.int .i64 t.owner) := Bt.cell 6
    go_wp2_with fail
    go_ret
    exact ⟨by first | rfl | (simp; done) | (simp [*]; done), (by with_reducible repeat (first | exact H10 | apply zha | apply zhd | apply zhn)), by
      with_reducible repeat (first | apply zsa | apply zsd)
      refine Stays.trans ?_ K10
      with_reducible repeat (first | apply zsa | apply zsd)
      refine Stays.trans ?_ K9
      with_reducible repeat (first | apply zsa | apply zsd)
      refine Stays.trans ?_ K8
      with_reducible repeat (first | apply zsa | apply zsd)
      refine Stays.trans ?_ K7
      with_reducible repeat (first | apply zsa | apply zsd)
      refine Stays.trans ?_ K6
      with_reducible repeat (first | apply zsa | apply zsd)
      refine Stays.trans ?_ K5
      with_reducible repeat (first | apply zsa | apply zsd)
      refine Stays.trans ?_ K4
      with_reducible repeat (first | apply zsa | apply zsd)
      refine Stays.trans ?_ K3
      with_reducible repeat (first | apply zsa | apply zsd)
      refine Stays.trans ?_ K1
      with_reducible repeat (first | apply zsa | apply zsd)
      exact Stays.refl _ _⟩
  · rw [if_neg c2] at e; obtain rfl := eq_false_of_ne_true c2; clear c2
    obtain ⟨hv, rfl⟩ := GM.pure_eq e
    obtain rfl := hv
    go_enter Tryz.func171, Tryz.ntmps171
    go_wp2_with fail
    with_reducible refine (rgMarked_c (by with_reducible repeat (first | exact H | apply zha | apply zhd | apply zhn)) e1.out).mono ?_
    rintro _ w1 ⟨rfl, H1, K1⟩
    have Bt := Blk.new w1 149 #[.int .i64 t.kind, .int .i64 t.color, .int .i64 t.count, .int .i64 t.shade, .int .i64 t.dead, .int .i64 t.ring, .int .i64 t.owner]
    go_wp2_with fail
    go_ret
    exact ⟨by first | rfl | (simp; done) | (simp [*]; done), (by with_reducible repeat (first | exact H1 | apply zha | apply zhd | apply zhn)), by
      with_reducible repeat (first | apply zsa | apply zsd)
      refine Stays.trans ?_ K1
      with_reducible repeat (first | apply zsa | apply zsd)
      exact Stays.refl _ _⟩

def rgCut (b : Int) : GM Bool :=
  rgMarked b 1 >>= fun ⟨t, ok⟩ =>
  if ok then
    rgMark b t 0 >>= fun _ =>
    Word b 6 >>= fun ah =>
    Word b 7 >>= fun be =>
    rgLink ah 7 7 be >>= fun _ =>
    rgLink be 6 8 ah >>= fun _ =>
    SetWord b 6 0 >>= fun _ =>
    SetWord b 7 0 >>= fun _ =>
    Reg 9 >>= fun n =>
    SetReg 9 (n - 1) >>= fun _ =>
    pure true
  else
    pure false

theorem rgCut_c {A : GA} {S : GS} {w : World} (H : Held A S w) {b : Int} {v0 : Bool} {T : GS} (e : rgCut b S = (v0, T)) :
    Calls Tryz.prog 109 #[.pointer (some ⟨A.g, 0, none⟩), .int .i64 b] w (Did A w (.bool v0) T) := by
  unfold rgCut at e
  replace e := GM.bind_eq e; obtain ⟨⟨t, ok⟩, S1, e1_, e⟩ := e; have e1 := Hd.mk e1_; clear e1_
  dsimp only at e
  by_cases c2 : ok = true
  · rw [if_pos c2] at e; subst c2
    obtain ⟨hk_, ho_, hb0, hb1⟩ := rgMarked_used e1.out
    have hn2 := H.ok.n2
    replace e := GM.bind_eq e; obtain ⟨u3, S3, e3_, e⟩ := e; have e3 := Hd.mk e3_; clear e3_
    replace e := GM.bind_eq e; obtain ⟨ah, S4, e4_, e⟩ := e; have e4 := Hd.mk e4_; clear e4_
    replace e := GM.bind_eq e; obtain ⟨be, S5, e5_, e⟩ := e; have e5 := Hd.mk e5_; clear e5_
    replace e := GM.bind_eq e; obtain ⟨u6, S6, e6_, e⟩ := e; have e6 := Hd.mk e6_; clear e6_
    replace e := GM.bind_eq e; obtain ⟨u7, S7, e7_, e⟩ := e; have e7 := Hd.mk e7_; clear e7_
    replace e := GM.bind_eq e; obtain ⟨u8, S8, e8_, e⟩ := e; have e8 := Hd.mk e8_; clear e8_
    replace e := GM.bind_eq e; obtain ⟨u9, S9, e9_, e⟩ := e; have e9 := Hd.mk e9_; clear e9_
    replace e := GM.bind_eq e; obtain ⟨n, S10, e10_, e⟩ := e; have e10 := Hd.mk e10_; clear e10_
    replace e := GM.bind_eq e; obtain ⟨u11, S11, e11_, e⟩ := e; have e11 := Hd.mk e11_; clear e11_
    obtain ⟨hv, rfl⟩ := GM.pure_eq e
    obtain rfl := hv
    go_enter Tryz.func109, Tryz.ntmps109
    go_wp2_with fail
    with_reducible refine (rgMarked_c (by with_reducible repeat (first | exact H | apply zha | apply zhd | apply zhn)) e1.out).mono ?_
    rintro _ w1 ⟨rfl, H1, K1⟩
    have Bt := Blk.new w1 149 #[.int .i64 t.kind, .int .i64 t.color, .int .i64 t.count, .int .i64 t.shade, .int .i64 t.dead, .int .i64 t.ring, .int .i64 t.owner]
    go_wp2_with fail
    with_reducible refine (rgMark_c (by with_reducible repeat (first | exact H1 | apply zha | apply zhd | apply zhn)) hk_ ho_ e3.out).mono ?_
    rintro _ w3 ⟨rfl, H3, K3⟩
    replace Bt := Blk.stays (by with_reducible repeat (first | exact Bt | apply zba | apply zbd)) K3 (GA.foot_far H1.top)
    have Bt0 : w3.cell? ⟨w1.heap.size, 0, none⟩ = some (.int .i64 t.kind) := Bt.cell 0
    have Bt1 : w3.cell? ⟨w1.heap.size, 1, none⟩ = some (.int .i64 t.color) := Bt.cell 1
    have Bt2 : w3.cell? ⟨w1.heap.size, 2, none⟩ = some (.int .i64 t.count) := Bt.cell 2
    have Bt3 : w3.cell? ⟨w1.heap.size, 3, none⟩ = some (.int .i64 t.shade) := Bt.cell 3
    have Bt4 : w3.cell? ⟨w1.heap.size, 4, none⟩ = some (.int .i64 t.dead) := Bt.cell 4
    have Bt5 : w3.cell? ⟨w1.heap.size, 5, none⟩ = some (.int .i64 t.ring) := Bt.cell 5
    have Bt6 : w3.cell? ⟨w1.heap.size, 6, none⟩ = some (.int .i64 t.owner) := Bt.cell 6
    go_wp2_with fail
    with_reducible refine (Word_c (by with_reducible repeat (first | exact H3 | apply zha | apply zhd | apply zhn)) e4.out).mono ?_
    rintro _ w4 ⟨rfl, H4, K4⟩
    obtain ⟨rah0, rah1⟩ := stGet_range (H3).ok e4.out
    replace Bt := Blk.stays (by with_reducible repeat (first | exact Bt | apply zba | apply zbd)) K4 (GA.foot_far H1.top)
    clear Bt0 Bt1 Bt2 Bt3 Bt4 Bt5 Bt6
    have Bt0 : w4.cell? ⟨w1.heap.size, 0, none⟩ = some (.int .i64 t.kind) := Bt.cell 0
    have Bt1 : w4.cell? ⟨w1.heap.size, 1, none⟩ = some (.int .i64 t.color) := Bt.cell 1
    have Bt2 : w4.cell? ⟨w1.heap.size, 2, none⟩ = some (.int .i64 t.count) := Bt.cell 2
    have Bt3 : w4.cell? ⟨w1.heap.size, 3, none⟩ = some (.int .i64 t.shade) := Bt.cell 3
    have Bt4 : w4.cell? ⟨w1.heap.size, 4, none⟩ = some (.int .i64 t.dead) := Bt.cell 4
    have Bt5 : w4.cell? ⟨w1.heap.size, 5, none⟩ = some (.int .i64 t.ring) := Bt.cell 5
    have Bt6 : w4.cell? ⟨w1.heap.size, 6, none⟩ = some (.int .i64 t.owner) := Bt.cell 6
    go_wp2_with fail
    with_reducible refine (Word_c (by with_reducible repeat (first | exact H4 | apply zha | apply zhd | apply zhn)) e5.out).mono ?_
    rintro _ w5 ⟨rfl, H5, K5⟩
    obtain ⟨rbe0, rbe1⟩ := stGet_range (H4).ok e5.out
    replace Bt := Blk.stays (by with_reducible repeat (first | exact Bt | apply zba | apply zbd)) K5 (GA.foot_far H1.top)
    clear Bt0 Bt1 Bt2 Bt3 Bt4 Bt5 Bt6
    have Bt0 : w5.cell? ⟨w1.heap.size, 0, none⟩ = some (.int .i64 t.kind) := Bt.cell 0
    have Bt1 : w5.cell? ⟨w1.heap.size, 1, none⟩ = some (.int .i64 t.color) := Bt.cell 1
    have Bt2 : w5.cell? ⟨w1.heap.size, 2, none⟩ = some (.int .i64 t.count) := Bt.cell 2
    have Bt3 : w5.cell? ⟨w1.heap.size, 3, none⟩ = some (.int .i64 t.shade) := Bt.cell 3
    have Bt4 : w5.cell? ⟨w1.heap.size, 4, none⟩ = some (.int .i64 t.dead) := Bt.cell 4
    have Bt5 : w5.cell? ⟨w1.heap.size, 5, none⟩ = some (.int .i64 t.ring) := Bt.cell 5
    have Bt6 : w5.cell? ⟨w1.heap.size, 6, none⟩ = some (.int .i64 t.owner) := Bt.cell 6
    go_wp2_with fail
    with_reducible refine (rgLink_c (by with_reducible repeat (first | exact H5 | apply zha | apply zhd | apply zhn)) (by omega) (by omega) (by omega) (by omega) e6.out).mono ?_
    rintro _ w6 ⟨rfl, H6, K6⟩
    replace Bt := Blk.stays (by with_reducible repeat (first | exact Bt | apply zba | apply zbd)) K6 (GA.foot_far H1.top)
    clear Bt0 Bt1 Bt2 Bt3 Bt4 Bt5 Bt6
    have Bt0 : w6.cell? ⟨w1.heap.size, 0, none⟩ = some (.int .i64 t.kind) := Bt.cell 0
    have Bt1 : w6.cell? ⟨w1.heap.size, 1, none⟩ = some (.int .i64 t.color) := Bt.cell 1
    have Bt2 : w6.cell? ⟨w1.heap.size, 2, none⟩ = some (.int .i64 t.count) := Bt.cell 2
    have Bt3 : w6.cell? ⟨w1.heap.size, 3, none⟩ = some (.int .i64 t.shade) := Bt.cell 3
    have Bt4 : w6.cell? ⟨w1.heap.size, 4, none⟩ = some (.int .i64 t.dead) := Bt.cell 4
    have Bt5 : w6.cell? ⟨w1.heap.size, 5, none⟩ = some (.int .i64 t.ring) := Bt.cell 5
    have Bt6 : w6.cell? ⟨w1.heap.size, 6, none⟩ = some (.int .i64 t.owner) := Bt.cell 6
    go_wp2_with fail
    with_reducible refine (rgLink_c (by with_reducible repeat (first | exact H6 | apply zha | apply zhd | apply zhn)) (by omega) (by omega) (by omega) (by omega) e7.out).mono ?_
    rintro _ w7 ⟨rfl, H7, K7⟩
    replace Bt := Blk.stays (by with_reducible repeat (first | exact Bt | apply zba | apply zbd)) K7 (GA.foot_far H1.top)
    clear Bt0 Bt1 Bt2 Bt3 Bt4 Bt5 Bt6
    have Bt0 : w7.cell? ⟨w1.heap.size, 0, none⟩ = some (.int .i64 t.kind) := Bt.cell 0
    have Bt1 : w7.cell? ⟨w1.heap.size, 1, none⟩ = some (.int .i64 t.color) := Bt.cell 1
    have Bt2 : w7.cell? ⟨w1.heap.size, 2, none⟩ = some (.int .i64 t.count) := Bt.cell 2
    have Bt3 : w7.cell? ⟨w1.heap.size, 3, none⟩ = some (.int .i64 t.shade) := Bt.cell 3
    have Bt4 : w7.cell? ⟨w1.heap.size, 4, none⟩ = some (.int .i64 t.dead) := Bt.cell 4
    have Bt5 : w7.cell? ⟨w1.heap.size, 5, none⟩ = some (.int .i64 t.ring) := Bt.cell 5
    have Bt6 : w7.cell? ⟨w1.heap.size, 6, none⟩ = some (.int .i64 t.owner) := Bt.cell 6
    go_wp2_with fail
    with_reducible refine (SetWord_c (by with_reducible repeat (first | exact H7 | apply zha | apply zhd | apply zhn)) (by omega) (by omega) e8.out).mono ?_
    rintro _ w8 ⟨rfl, H8, K8⟩
    replace Bt := Blk.stays (by with_reducible repeat (first | exact Bt | apply zba | apply zbd)) K8 (GA.foot_far H1.top)
    clear Bt0 Bt1 Bt2 Bt3 Bt4 Bt5 Bt6
    have Bt0 : w8.cell? ⟨w1.heap.size, 0, none⟩ = some (.int .i64 t.kind) := Bt.cell 0
    have Bt1 : w8.cell? ⟨w1.heap.size, 1, none⟩ = some (.int .i64 t.color) := Bt.cell 1
    have Bt2 : w8.cell? ⟨w1.heap.size, 2, none⟩ = some (.int .i64 t.count) := Bt.cell 2
    have Bt3 : w8.cell? ⟨w1.heap.size, 3, none⟩ = some (.int .i64 t.shade) := Bt.cell 3
    have Bt4 : w8.cell? ⟨w1.heap.size, 4, none⟩ = some (.int .i64 t.dead) := Bt.cell 4
    have Bt5 : w8.cell? ⟨w1.heap.size, 5, none⟩ = some (.int .i64 t.ring) := Bt.cell 5
    have Bt6 : w8.cell? ⟨w1.heap.size, 6, none⟩ = some (.int .i64 t.owner) := Bt.cell 6
    go_wp2_with fail
    with_reducible refine (SetWord_c (by with_reducible repeat (first | exact H8 | apply zha | apply zhd | apply zhn)) (by omega) (by omega) e9.out).mono ?_
    rintro _ w9 ⟨rfl, H9, K9⟩
    replace Bt := Blk.stays (by with_reducible repeat (first | exact Bt | apply zba | apply zbd)) K9 (GA.foot_far H1.top)
    clear Bt0 Bt1 Bt2 Bt3 Bt4 Bt5 Bt6
    have Bt0 : w9.cell? ⟨w1.heap.size, 0, none⟩ = some (.int .i64 t.kind) := Bt.cell 0
    have Bt1 : w9.cell? ⟨w1.heap.size, 1, none⟩ = some (.int .i64 t.color) := Bt.cell 1
    have Bt2 : w9.cell? ⟨w1.heap.size, 2, none⟩ = some (.int .i64 t.count) := Bt.cell 2
    have Bt3 : w9.cell? ⟨w1.heap.size, 3, none⟩ = some (.int .i64 t.shade) := Bt.cell 3
    have Bt4 : w9.cell? ⟨w1.heap.size, 4, none⟩ = some (.int .i64 t.dead) := Bt.cell 4
    have Bt5 : w9.cell? ⟨w1.heap.size, 5, none⟩ = some (.int .i64 t.ring) := Bt.cell 5
    have Bt6 : w9.cell? ⟨w1.heap.size, 6, none⟩ = some (.int .i64 t.owner) := Bt.cell 6
    go_wp2_with fail
    with_reducible refine (Reg_c (by with_reducible repeat (first | exact H9 | apply zha | apply zhd | apply zhn)) e10.out).mono ?_
    rintro _ w10 ⟨rfl, H10, K10⟩
    obtain ⟨rn0, rn1⟩ := stGet_range (H9).ok e10.out
    replace Bt := Blk.stays (by with_reducible repeat (first | exact Bt | apply zba | apply zbd)) K10 (GA.foot_far H1.top)
    clear Bt0 Bt1 Bt2 Bt3 Bt4 Bt5 Bt6
    have Bt0 : w10.cell? ⟨w1.heap.size, 0, none⟩ = some (.int .i64 t.kind) := Bt.cell 0
    have Bt1 : w10.cell? ⟨w1.heap.size, 1, none⟩ = some (.int .i64 t.color) := Bt.cell 1
    have Bt2 : w10.cell? ⟨w1.heap.size, 2, none⟩ = some (.int .i64 t.count) := Bt.cell 2
    have Bt3 : w10.cell? ⟨w1.heap.size, 3, none⟩ = some (.int .i64 t.shade) := Bt.cell 3
    have Bt4 : w10.cell? ⟨w1.heap.size, 4, none⟩ = some (.int .i64 t.dead) := Bt.cell 4
    have Bt5 : w10.cell? ⟨w1.heap.size, 5, none⟩ = some (.int .i64 t.ring) := Bt.cell 5
    have Bt6 : w10.cell? ⟨w1.heap.size, 6, none⟩ = some (.int .i64 t.owner) := Bt.cell 6
    go_wp2_with fail
    with_reducible refine (SetReg_c (by with_reducible repeat (first | exact H10 | apply zha | apply zhd | apply zhn)) e11.out).mono ?_
    rintro _ w11 ⟨rfl, H11, K11⟩
    replace Bt := Blk.stays (by with_reducible repeat (first | exact Bt | apply zba | apply zbd)) K11 (GA.foot_far H1.top)
    clear Bt0 Bt1 Bt2 Bt3 Bt4 Bt5 Bt6
    have Bt0 : w11.cell? ⟨w1.heap.size, 0, none⟩ = some (.int .i64 t.kind) := Bt.cell 0
    have Bt1 : w11.cell? ⟨w1.heap.size, 1, none⟩ = some (.int .i64 t.color) := Bt.cell 1
    have Bt2 : w11.cell? ⟨w1.heap.size, 2, none⟩ = some (.int .i64 t.count) := Bt.cell 2
    have Bt3 : w11.cell? ⟨w1.heap.size, 3, none⟩ = some (.int .i64 t.shade) := Bt.cell 3
    have Bt4 : w11.cell? ⟨w1.heap.size, 4, none⟩ = some (.int .i64 t.dead) := Bt.cell 4
    have Bt5 : w11.cell? ⟨w1.heap.size, 5, none⟩ = some (.int .i64 t.ring) := Bt.cell 5
    have Bt6 : w11.cell? ⟨w1.heap.size, 6, none⟩ = some (.int .i64 t.owner) := Bt.cell 6
    go_wp2_with fail
    go_ret
    exact ⟨by first | rfl | (simp; done) | (simp [*]; done), (by with_reducible repeat (first | exact H11 | apply zha | apply zhd | apply zhn)), by
      with_reducible repeat (first | apply zsa | apply zsd)
      refine Stays.trans ?_ K11
      with_reducible repeat (first | apply zsa | apply zsd)
      refine Stays.trans ?_ K10
      with_reducible repeat (first | apply zsa | apply zsd)
      refine Stays.trans ?_ K9
      with_reducible repeat (first | apply zsa | apply zsd)
      refine Stays.trans ?_ K8
      with_reducible repeat (first | apply zsa | apply zsd)
      refine Stays.trans ?_ K7
      with_reducible repeat (first | apply zsa | apply zsd)
      refine Stays.trans ?_ K6
      with_reducible repeat (first | apply zsa | apply zsd)
      refine Stays.trans ?_ K5
      with_reducible repeat (first | apply zsa | apply zsd)
      refine Stays.trans ?_ K4
      with_reducible repeat (first | apply zsa | apply zsd)
      refine Stays.trans ?_ K3
      with_reducible repeat (first | apply zsa | apply zsd)
      refine Stays.trans ?_ K1
      with_reducible repeat (first | apply zsa | apply zsd)
      exact Stays.refl _ _⟩
  · rw [if_neg c2] at e; obtain rfl := eq_false_of_ne_true c2; clear c2
    obtain ⟨hv, rfl⟩ := GM.pure_eq e
    obtain rfl := hv
    go_enter Tryz.func109, Tryz.ntmps109
    go_wp2_with fail
    with_reducible refine (rgMarked_c (by with_reducible repeat (first | exact H | apply zha | apply zhd | apply zhn)) e1.out).mono ?_
    rintro _ w1 ⟨rfl, H1, K1⟩
    have Bt := Blk.new w1 149 #[.int .i64 t.kind, .int .i64 t.color, .int .i64 t.count, .int .i64 t.shade, .int .i64 t.dead, .int .i64 t.ring, .int .i64 t.owner]
    go_wp2_with fail
    go_ret
    exact ⟨by first | rfl | (simp; done) | (simp [*]; done), (by with_reducible repeat (first | exact H1 | apply zha | apply zhd | apply zhn)), by
      with_reducible repeat (first | apply zsa | apply zsd)
      refine Stays.trans ?_ K1
      with_reducible repeat (first | apply zsa | apply zsd)
      exact Stays.refl _ _⟩

def rgTake : GM (Int × Bool) :=
  Reg 7 >>= fun n =>
  if n = 0 then
    pure (0, false)
  else
    rgCut (n - 1) >>= fun ok =>
    if ok then
      pure (n - 1, true)
    else
      pure (0, false)

theorem rgTake_c {A : GA} {S : GS} {w : World} (H : Held A S w) {v0 : Int} {v1 : Bool} {T : GS} (e : rgTake S = ((v0, v1), T)) :
    Calls Tryz.prog 118 #[.pointer (some ⟨A.g, 0, none⟩)] w (Did A w (.tuple #[.int .i64 v0, .bool v1]) T) := by
  unfold rgTake at e
  replace e := GM.bind_eq e; obtain ⟨n, S1, e1_, e⟩ := e; have e1 := Hd.mk e1_; clear e1_
  by_cases c2 : n = 0
  · rw [if_pos c2] at e; subst c2
    obtain ⟨hv, rfl⟩ := GM.pure_eq e
    cases hv
    go_enter Tryz.func118, Tryz.ntmps118
    go_wp2_with fail
    with_reducible refine (Reg_c (by with_reducible repeat (first | exact H | apply zha | apply zhd | apply zhn)) e1.out).mono ?_
    rintro _ w1 ⟨rfl, H1, K1⟩
    obtain ⟨rn0, rn1⟩ := stGet_range (H).ok e1.out
    go_wp2_with fail
    go_ret2
    exact ⟨by first | rfl | (simp; done) | (simp [*]; done), (by with_reducible repeat (first | exact H1 | apply zha | apply zhd | apply zhn)), by
      with_reducible repeat (first | apply zsa | apply zsd)
      refine Stays.trans ?_ K1
      with_reducible repeat (first | apply zsa | apply zsd)
      exact Stays.refl _ _⟩
  · rw [if_neg c2] at e; have c2b : (n == 0) = false := beq_eq_false_iff_ne.2 c2; have c2n : (n != 0) = true := bne_iff_ne.2 c2
    replace e := GM.bind_eq e; obtain ⟨ok, S3, e3_, e⟩ := e; have e3 := Hd.mk e3_; clear e3_
    by_cases c4 : ok = true
    · rw [if_pos c4] at e; subst c4
      obtain ⟨hv, rfl⟩ := GM.pure_eq e
      cases hv
      go_enter Tryz.func118, Tryz.ntmps118
      go_wp2_with fail
      with_reducible refine (Reg_c (by with_reducible repeat (first | exact H | apply zha | apply zhd | apply zhn)) e1.out).mono ?_
      rintro _ w1 ⟨rfl, H1, K1⟩
      obtain ⟨rn0, rn1⟩ := stGet_range (H).ok e1.out
      go_wp2_with fail
      with_reducible refine (rgCut_c (by with_reducible repeat (first | exact H1 | apply zha | apply zhd | apply zhn)) e3.out).mono ?_
      rintro _ w3 ⟨rfl, H3, K3⟩
      go_wp2_with fail
      go_ret2
      exact ⟨by first | rfl | (simp; done) | (simp [*]; done), (by with_reducible repeat (first | exact H3 | apply zha | apply zhd | apply zhn)), by
        with_reducible repeat (first | apply zsa | apply zsd)
        refine Stays.trans ?_ K3
        with_reducible repeat (first | apply zsa | apply zsd)
        refine Stays.trans ?_ K1
        with_reducible repeat (first | apply zsa | apply zsd)
        exact Stays.refl _ _⟩
    · rw [if_neg c4] at e; obtain rfl := eq_false_of_ne_true c4; clear c4
      obtain ⟨hv, rfl⟩ := GM.pure_eq e
      cases hv
      go_enter Tryz.func118, Tryz.ntmps118
      go_wp2_with fail
      with_reducible refine (Reg_c (by with_reducible repeat (first | exact H | apply zha | apply zhd | apply zhn)) e1.out).mono ?_
      rintro _ w1 ⟨rfl, H1, K1⟩
      obtain ⟨rn0, rn1⟩ := stGet_range (H).ok e1.out
      go_wp2_with fail
      with_reducible refine (rgCut_c (by with_reducible repeat (first | exact H1 | apply zha | apply zhd | apply zhn)) e3.out).mono ?_
      rintro _ w3 ⟨rfl, H3, K3⟩
      go_wp2_with fail
      go_ret2
      exact ⟨by first | rfl | (simp; done) | (simp [*]; done), (by with_reducible repeat (first | exact H3 | apply zha | apply zhd | apply zhn)), by
        with_reducible repeat (first | apply zsa | apply zsd)
        refine Stays.trans ?_ K3
        with_reducible repeat (first | apply zsa | apply zsd)
        refine Stays.trans ?_ K1
        with_reducible repeat (first | apply zsa | apply zsd)
        exact Stays.refl _ _⟩

def rgLen : GM Int :=
  Reg 9 >>= fun n =>
  pure n

end Go.Proofs.YtadhdjldcpkfiaaGreatDoor
