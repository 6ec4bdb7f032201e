/- What the calls of tint that turn a tag do. Nothing is asked but that the ground lies there. -/
import Derived.Test.YtadhdjldcpkfiaaGreatDoorO
namespace Go.Proofs.YtadhdjldcpkfiaaGreatDoor
set_option linter.unusedVariables false
set_option linter.unusedSimpArgs false
open Go.RowKit
set_option maxRecDepth 100000
set_option maxHeartbeats 800000

/-- A closure that turns a tag in a box, and maybe the ground. -/
structure DidT (A : GA) (tb : Nat) (cs : Array Value) (w : World) (S' : GS) (e : Ending) (w' : World) : Prop where
  ret : e = .returned (.tuple #[])
  held : Held A S' w'
  box : Blk w' tb 149 cs
  stays : Stays (fun k => A.foot k ∨ k = tb) w w'
theorem Stays.foot_or {A : GA} {tb : Nat} {w w' : World} (h : Stays A.foot w w') : Stays (fun k => A.foot k ∨ k = tb) w w' := h.mono (fun _ x => Or.inl x)
theorem Stays.setBox {A : GA} {tb i : Nat} {a w : World} (h : Stays (fun k => A.foot k ∨ k = tb) a w) (u : Value) : Stays (fun k => A.foot k ∨ k = tb) a (w.setCell ⟨tb, i, none⟩ u) := h.setCell (Or.inl (Or.inr rfl)) u

theorem paintL_c {A : GA} {S : GS} {w : World} (H : Held A S w) {k c n s d ro o now : Int} {tb : Nat} (Bt : Blk w tb 149 #[.int .i64 k, .int .i64 c, .int .i64 n, .int .i64 s, .int .i64 d, .int .i64 ro, .int .i64 o]) (ht : A.top ≤ tb) :
    Calls Tryz.prog 201 #[.pointer (some ⟨tb, 0, none⟩), .int .i64 now] w (DidT A tb #[.int .i64 k, .int .i64 now, .int .i64 n, .int .i64 s, .int .i64 d, .int .i64 ro, .int .i64 o] w S) := by
  have b0 : w.cell? ⟨tb, 1, none⟩ = some (.int .i64 c) := Bt.cell 1
  have f0 : w.frozen? ⟨tb, 1, none⟩ = false := Bt.frozen 1
  go_enter Tryz.func201, Tryz.ntmps201
  go_wp2_with fail
  go_end0
  exact ⟨rfl, H.far ht _, Bt.set_ 1 _, (Stays.refl _ _).setBox _⟩

theorem doneL_c {A : GA} {S : GS} {w : World} (H : Held A S w) {k c n s d ro o now : Int} {tb : Nat} (Bt : Blk w tb 149 #[.int .i64 k, .int .i64 c, .int .i64 n, .int .i64 s, .int .i64 d, .int .i64 ro, .int .i64 o]) (ht : A.top ≤ tb) :
    Calls Tryz.prog 176 #[.pointer (some ⟨tb, 0, none⟩), .int .i64 now] w (DidT A tb #[.int .i64 k, .int .i64 c, .int .i64 now, .int .i64 s, .int .i64 d, .int .i64 ro, .int .i64 o] w S) := by
  have b0 : w.cell? ⟨tb, 2, none⟩ = some (.int .i64 n) := Bt.cell 2
  have f0 : w.frozen? ⟨tb, 2, none⟩ = false := Bt.frozen 2
  go_enter Tryz.func176, Tryz.ntmps176
  go_wp2_with fail
  go_end0
  exact ⟨rfl, H.far ht _, Bt.set_ 2 _, (Stays.refl _ _).setBox _⟩

theorem killL_c {A : GA} {S : GS} {w : World} (H : Held A S w) {k c n s d ro o now : Int} {tb : Nat} (Bt : Blk w tb 149 #[.int .i64 k, .int .i64 c, .int .i64 n, .int .i64 s, .int .i64 d, .int .i64 ro, .int .i64 o]) (ht : A.top ≤ tb) :
    Calls Tryz.prog 183 #[.pointer (some ⟨tb, 0, none⟩), .int .i64 now] w (DidT A tb #[.int .i64 k, .int .i64 c, .int .i64 n, .int .i64 s, .int .i64 1, .int .i64 ro, .int .i64 o] w S) := by
  have b0 : w.cell? ⟨tb, 4, none⟩ = some (.int .i64 d) := Bt.cell 4
  have f0 : w.frozen? ⟨tb, 4, none⟩ = false := Bt.frozen 4
  go_enter Tryz.func183, Tryz.ntmps183
  go_wp2_with fail
  go_end0
  exact ⟨rfl, H.far ht _, Bt.set_ 4 _, (Stays.refl _ _).setBox _⟩

theorem dyeL_c {A : GA} {S T : GS} {w : World} (H : Held A S w) {k c n s d ro o now : Int} {tb : Nat} (Bt : Blk w tb 149 #[.int .i64 k, .int .i64 c, .int .i64 n, .int .i64 s, .int .i64 d, .int .i64 ro, .int .i64 o]) (ht : A.top ≤ tb) {bg br : Nat} {r : Int} (Bg : Blk w bg 22 #[.pointer (some ⟨A.g, 0, none⟩)]) (Br : Blk w br 3 #[.int .i64 r]) (hg : ¬ bg = tb) (hr : ¬ br = tb) (hbg : A.top ≤ bg) (hbr : A.top ≤ br) (r0 : 1 ≤ r) (r1 : r ≤ 1048576) {u : Bool} (e : SetWord (r - 1) 4 0 S = (u, T)) :
    Calls Tryz.prog 165 #[.pointer (some ⟨tb, 0, none⟩), .int .i64 now, .pointer (some ⟨bg, 0, none⟩), .pointer (some ⟨br, 0, none⟩)] w (DidT A tb #[.int .i64 k, .int .i64 now, .int .i64 now, .int .i64 now, .int .i64 d, .int .i64 ro, .int .i64 o] w T) := by
  have b1 : w.cell? ⟨tb, 1, none⟩ = some (.int .i64 c) := Bt.cell 1
  have b2 : w.cell? ⟨tb, 2, none⟩ = some (.int .i64 n) := Bt.cell 2
  have b3 : w.cell? ⟨tb, 3, none⟩ = some (.int .i64 s) := Bt.cell 3
  have f1 : w.frozen? ⟨tb, 1, none⟩ = false := Bt.frozen 1
  have f2 : w.frozen? ⟨tb, 2, none⟩ = false := Bt.frozen 2
  have f3 : w.frozen? ⟨tb, 3, none⟩ = false := Bt.frozen 3
  have g0 : w.cell? ⟨bg, 0, none⟩ = some (.pointer (some ⟨A.g, 0, none⟩)) := Bg.cell 0
  have q0 : w.cell? ⟨br, 0, none⟩ = some (.int .i64 r) := Br.cell 0
  have H3 := ((H.far (p := ⟨tb, 1, none⟩) ht (.int .i64 now)).far (p := ⟨tb, 2, none⟩) ht (.int .i64 now)).far (p := ⟨tb, 3, none⟩) ht (.int .i64 now)
  have B3 : Blk (((w.setCell ⟨tb, 1, none⟩ (.int .i64 now)).setCell ⟨tb, 2, none⟩ (.int .i64 now)).setCell ⟨tb, 3, none⟩ (.int .i64 now)) tb 149 #[.int .i64 k, .int .i64 now, .int .i64 now, .int .i64 now, .int .i64 d, .int .i64 ro, .int .i64 o] := ((Bt.set_ 1 _).set_ 2 _).set_ 3 _
  have K3 := (((Stays.refl (fun k => A.foot k ∨ k = tb) w).setBox (i := 1) (.int .i64 now)).setBox (i := 2) (.int .i64 now)).setBox (i := 3) (.int .i64 now)
  have E := Hd.mk e
  clear e
  go_enter Tryz.func165, Tryz.ntmps165
  go_wp2_with fail
  refine (SetWord_c H3 (by omega) (by omega) E.out).mono ?_
  rintro _ w1 ⟨rfl, H4, K4⟩
  go_wp2_with fail
  go_end0
  exact ⟨rfl, H4, B3.stays K4 (GA.foot_far ht), K3.trans K4.foot_or⟩

theorem deepL_same_c {A : GA} {S T : GS} {w : World} (H : Held A S w) {k c n s d ro o now : Int} {tb : Nat} (Bt : Blk w tb 149 #[.int .i64 k, .int .i64 c, .int .i64 n, .int .i64 s, .int .i64 d, .int .i64 ro, .int .i64 o]) (ht : A.top ≤ tb) {bg br : Nat} {r : Int} (Bg : Blk w bg 22 #[.pointer (some ⟨A.g, 0, none⟩)]) (Br : Blk w br 3 #[.int .i64 r]) (hg : ¬ bg = tb) (hr : ¬ br = tb) (hbg : A.top ≤ bg) (hbr : A.top ≤ br) (r0 : 1 ≤ r) (r1 : r ≤ 1048576) (hs : s = now) {v : Int} {U : GS} (e1 : Word (r - 1) 4 S = (v, U)) {u : Bool} (e : SetWord (r - 1) 4 ((v + 1) % 4294967296) U = (u, T)) :
    Calls Tryz.prog 177 #[.pointer (some ⟨tb, 0, none⟩), .int .i64 now, .pointer (some ⟨bg, 0, none⟩), .pointer (some ⟨br, 0, none⟩)] w (DidT A tb #[.int .i64 k, .int .i64 c, .int .i64 n, .int .i64 now, .int .i64 d, .int .i64 ro, .int .i64 o] w T) := by
  subst hs
  have E1 := Hd.mk e1
  have E := Hd.mk e
  clear e e1
  have b3 : w.cell? ⟨tb, 3, none⟩ = some (.int .i64 s) := Bt.cell 3
  have g0 : w.cell? ⟨bg, 0, none⟩ = some (.pointer (some ⟨A.g, 0, none⟩)) := Bg.cell 0
  have q0 : w.cell? ⟨br, 0, none⟩ = some (.int .i64 r) := Br.cell 0
  go_enter Tryz.func177, Tryz.ntmps177
  go_wp2_with fail
  refine (Word_c H E1.out).mono ?_
  rintro _ w1 ⟨rfl, H1, K1⟩
  have B1 := Bt.stays K1 (GA.foot_far ht)
  have G1 := Bg.stays K1 (GA.foot_far hbg)
  have R1 := Br.stays K1 (GA.foot_far hbr)
  have b31 : w1.cell? ⟨tb, 3, none⟩ = some (.int .i64 s) := B1.cell 3
  have f31 : w1.frozen? ⟨tb, 3, none⟩ = false := B1.frozen 3
  have g01 : w1.cell? ⟨bg, 0, none⟩ = some (.pointer (some ⟨A.g, 0, none⟩)) := G1.cell 0
  have q01 : w1.cell? ⟨br, 0, none⟩ = some (.int .i64 r) := R1.cell 0
  have hv : IntKind.u32.wrap (v + 1) = (v + 1) % 4294967296 := IntKind.wrap_u32 _
  go_wp2_with fail

  refine (SetWord_c (H1.far (p := ⟨tb, 3, none⟩) ht (.int .i64 s)) (by omega) (by omega) E.out).mono ?_
  rintro _ w2 ⟨rfl, H2, K2⟩
  go_wp2_with fail
  go_end0
  exact ⟨rfl, H2, (B1.set_ 3 (.int .i64 s)).stays K2 (GA.foot_far ht), (K1.foot_or.setBox (i := 3) (.int .i64 s)).trans K2.foot_or⟩

theorem deepL_other_c {A : GA} {S T : GS} {w : World} (H : Held A S w) {k c n s d ro o now : Int} {tb : Nat} (Bt : Blk w tb 149 #[.int .i64 k, .int .i64 c, .int .i64 n, .int .i64 s, .int .i64 d, .int .i64 ro, .int .i64 o]) (ht : A.top ≤ tb) {bg br : Nat} {r : Int} (Bg : Blk w bg 22 #[.pointer (some ⟨A.g, 0, none⟩)]) (Br : Blk w br 3 #[.int .i64 r]) (hg : ¬ bg = tb) (hr : ¬ br = tb) (hbg : A.top ≤ bg) (hbr : A.top ≤ br) (r0 : 1 ≤ r) (r1 : r ≤ 1048576) (hs : ¬ s = now) {u : Bool} (e : SetWord (r - 1) 4 1 S = (u, T)) :
    Calls Tryz.prog 177 #[.pointer (some ⟨tb, 0, none⟩), .int .i64 now, .pointer (some ⟨bg, 0, none⟩), .pointer (some ⟨br, 0, none⟩)] w (DidT A tb #[.int .i64 k, .int .i64 c, .int .i64 n, .int .i64 now, .int .i64 d, .int .i64 ro, .int .i64 o] w T) := by
  have E := Hd.mk e
  clear e
  have b3 : w.cell? ⟨tb, 3, none⟩ = some (.int .i64 s) := Bt.cell 3
  have f3 : w.frozen? ⟨tb, 3, none⟩ = false := Bt.frozen 3
  have g0 : w.cell? ⟨bg, 0, none⟩ = some (.pointer (some ⟨A.g, 0, none⟩)) := Bg.cell 0
  have q0 : w.cell? ⟨br, 0, none⟩ = some (.int .i64 r) := Br.cell 0
  have hb : (s == now) = false := beq_eq_false_iff_ne.2 hs
  clear hs
  go_enter Tryz.func177, Tryz.ntmps177
  go_wp2_with fail
  refine (SetWord_c (H.far (p := ⟨tb, 3, none⟩) ht (.int .i64 now)) (by omega) (by omega) E.out).mono ?_
  rintro _ w2 ⟨rfl, H2, K2⟩
  go_wp2_with fail
  go_end0
  exact ⟨rfl, H2, (Bt.set_ 3 (.int .i64 now)).stays K2 (GA.foot_far ht), ((Stays.refl _ _).setBox (i := 3) (.int .i64 now)).trans K2.foot_or⟩


def tiParity : GM Int := Reg 10
theorem tiParity_c {A : GA} {S : GS} {w : World} (H : Held A S w) {v : Int} {T : GS} (e : tiParity S = (v, T)) :
    Calls Tryz.prog 170 #[.pointer (some ⟨A.g, 0, none⟩)] w (Did A w (.int .i64 v) T) := by
  go_enter Tryz.func170, Tryz.ntmps170
  go_wp2_with fail
  refine (Reg_c H e).mono ?_
  rintro _ w1 ⟨rfl, H1, K1⟩
  go_wp2_with fail
  go_ret
  exact ⟨rfl, H1, K1⟩
/-- An object's tag, turned. -/
def tiChange (r : Int) (by_ : Tag → Int → GM Tag) : GM Bool :=
  tiOf r >>= fun x => if x.2 = true then tiParity >>= fun now => by_ x.1 now >>= fun t' => if tagRight t' = true then SetWord (r - 1) 0 (tagWord t') >>= fun _ => pure true else pure true else pure false
def byPaint (t : Tag) (now : Int) : GM Tag := pure { t with color := now }
def byDone (t : Tag) (now : Int) : GM Tag := pure { t with count := now }
def byKill (t : Tag) (_ : Int) : GM Tag := pure { t with dead := 1 }
def byDye (r : Int) (t : Tag) (now : Int) : GM Tag := SetWord (r - 1) 4 0 >>= fun _ => pure { t with color := now, count := now, shade := now }
def byDeep (r : Int) (t : Tag) (now : Int) : GM Tag := if t.shade = now then Word (r - 1) 4 >>= fun v => SetWord (r - 1) 4 ((v + 1) % 4294967296) >>= fun _ => pure { t with shade := now } else SetWord (r - 1) 4 1 >>= fun _ => pure { t with shade := now }

theorem Stays.ownT {A : GA} {a w w' : World} {tb : Nat} (k : Stays A.foot a w) (h : Stays (fun k => A.foot k ∨ k = tb) w w') (hg : a.heap.size ≤ tb) : Stays A.foot a w' :=
  ⟨h.os.trans k.os, h.tape.trans k.tape, h.output.trans k.output, Nat.le_trans k.size h.size, fun i hi hf => (h.block i (Nat.lt_of_lt_of_le hi k.size) (fun e => by rcases e with e | e; exact hf e; omega)).trans (k.block i hi hf)⟩

theorem tiPaint_ch {A : GA} {S : GS} {w : World} (H : Held A S w) {r : Int} {v0 : Bool} {T : GS} (e : tiChange r byPaint S = (v0, T)) :
    Calls Tryz.prog 164 #[.pointer (some ⟨A.g, 0, none⟩), .int .i64 r, .func (.func 201) #[] #[]] w (Did A w (.bool v0) T) := by
  unfold tiChange at e
  have hn2 := H.ok.n2
  replace e := GM.bind_eq e
  obtain ⟨⟨t, ok⟩, S1, e1, e⟩ := e
  dsimp only at e
  have E1 := Hd.mk e1
  cases ok with
  | false =>
    rw [if_neg (by decide)] at e
    obtain ⟨rfl, rfl⟩ := GM.pure_eq e
    clear e1
    go_enter Tryz.func164, Tryz.ntmps164
    go_wp2_with fail
    refine (tiOf_c H E1.out).mono ?_
    rintro _ w1 ⟨rfl, H1, K1⟩
    go_wp2_with fail
    go_ret
    exact ⟨rfl, H1.alloc _, K1.alloc _⟩
  | true =>
    obtain ⟨hk, ho, r0, r1⟩ := tiOf_used e1
    clear e1
    rw [if_pos rfl] at e
    replace e := GM.bind_eq e
    obtain ⟨now, S2, e2, e⟩ := e
    have E2 := Hd.mk e2
    clear e2
    replace e := GM.bind_eq e
    obtain ⟨t', S3, e3, e⟩ := e
    obtain ⟨rfl, rfl⟩ := GM.pure_eq e3
    have hu : ({ t with color := now } : Tag).Used := by rcases hk with h | h; exact Or.inl h; exact Or.inr (Or.inl h)
    by_cases hr : tagRight ({ t with color := now }) = true
    · rw [if_pos hr] at e
      replace e := GM.bind_eq e
      obtain ⟨u5, S5, e5, e⟩ := e
      obtain ⟨rfl, rfl⟩ := GM.pure_eq e
      have E5 := Hd.mk e5
      have hw := Hd.mk (tagWord_range hr hu ho)
      have hp := Hd.mk (tagPack_right hr)
      clear e5 hr
      go_enter Tryz.func164, Tryz.ntmps164
      go_wp2_with fail
      refine (tiOf_c H E1.out).mono ?_
      rintro _ w1 ⟨rfl, H1, K1⟩
      have Bt := Blk.new w1 149 #[.int .i64 t.kind, .int .i64 t.color, .int .i64 t.count, .int .i64 t.shade, .int .i64 t.dead, .int .i64 t.ring, .int .i64 t.owner]
      go_wp2_with fail
      refine (tiParity_c (H1.alloc _) E2.out).mono ?_
      rintro _ w2 ⟨rfl, H2, K2⟩
      have Bt2 := Bt.stays K2 (GA.foot_far H1.top)
      go_wp2_with fail
      refine (paintL_c H2 Bt2 H1.top).mono ?_
      rintro _ w3 ⟨rfl, H3, Bt3, K3⟩
      have b0 : w3.cell? ⟨w1.heap.size, 0, none⟩ = some (.int .i64 ({ t with color := now } : Tag).kind) := Bt3.cell 0
      have b1 : w3.cell? ⟨w1.heap.size, 1, none⟩ = some (.int .i64 ({ t with color := now } : Tag).color) := Bt3.cell 1
      have b2 : w3.cell? ⟨w1.heap.size, 2, none⟩ = some (.int .i64 ({ t with color := now } : Tag).count) := Bt3.cell 2
      have b3 : w3.cell? ⟨w1.heap.size, 3, none⟩ = some (.int .i64 ({ t with color := now } : Tag).shade) := Bt3.cell 3
      have b4 : w3.cell? ⟨w1.heap.size, 4, none⟩ = some (.int .i64 ({ t with color := now } : Tag).dead) := Bt3.cell 4
      have b5 : w3.cell? ⟨w1.heap.size, 5, none⟩ = some (.int .i64 ({ t with color := now } : Tag).ring) := Bt3.cell 5
      have b6 : w3.cell? ⟨w1.heap.size, 6, none⟩ = some (.int .i64 ({ t with color := now } : Tag).owner) := Bt3.cell 6
      go_wp2_with fail
      refine (Pack_d H3 ({ t with color := now }) hu ho hp.out).mono ?_
      rintro _ w4 ⟨rfl, H4, K4⟩
      go_wp2_with fail
      refine (SetWord_c H4 hw.out.1 hw.out.2 E5.out).mono ?_
      rintro _ w5 ⟨rfl, H5, K5⟩
      go_wp2_with fail
      go_ret
      exact ⟨rfl, H5, ((((K1.alloc _).trans K2).ownT K3 (Nat.le_trans K1.size (Nat.le_refl _))).trans K4).trans K5⟩
    · rw [if_neg hr] at e
      obtain ⟨rfl, rfl⟩ := GM.pure_eq e
      have hp := Hd.mk (tagPack_wrong hr)
      clear hr
      go_enter Tryz.func164, Tryz.ntmps164
      go_wp2_with fail
      refine (tiOf_c H E1.out).mono ?_
      rintro _ w1 ⟨rfl, H1, K1⟩
      have Bt := Blk.new w1 149 #[.int .i64 t.kind, .int .i64 t.color, .int .i64 t.count, .int .i64 t.shade, .int .i64 t.dead, .int .i64 t.ring, .int .i64 t.owner]
      go_wp2_with fail
      refine (tiParity_c (H1.alloc _) E2.out).mono ?_
      rintro _ w2 ⟨rfl, H2, K2⟩
      have Bt2 := Bt.stays K2 (GA.foot_far H1.top)
      go_wp2_with fail
      refine (paintL_c H2 Bt2 H1.top).mono ?_
      rintro _ w3 ⟨rfl, H3, Bt3, K3⟩
      have b0 : w3.cell? ⟨w1.heap.size, 0, none⟩ = some (.int .i64 ({ t with color := now } : Tag).kind) := Bt3.cell 0
      have b1 : w3.cell? ⟨w1.heap.size, 1, none⟩ = some (.int .i64 ({ t with color := now } : Tag).color) := Bt3.cell 1
      have b2 : w3.cell? ⟨w1.heap.size, 2, none⟩ = some (.int .i64 ({ t with color := now } : Tag).count) := Bt3.cell 2
      have b3 : w3.cell? ⟨w1.heap.size, 3, none⟩ = some (.int .i64 ({ t with color := now } : Tag).shade) := Bt3.cell 3
      have b4 : w3.cell? ⟨w1.heap.size, 4, none⟩ = some (.int .i64 ({ t with color := now } : Tag).dead) := Bt3.cell 4
      have b5 : w3.cell? ⟨w1.heap.size, 5, none⟩ = some (.int .i64 ({ t with color := now } : Tag).ring) := Bt3.cell 5
      have b6 : w3.cell? ⟨w1.heap.size, 6, none⟩ = some (.int .i64 ({ t with color := now } : Tag).owner) := Bt3.cell 6
      go_wp2_with fail
      refine (Pack_d H3 ({ t with color := now }) hu ho hp.out).mono ?_
      rintro _ w4 ⟨rfl, H4, K4⟩
      go_wp2_with fail
      go_ret
      exact ⟨rfl, H4, (((K1.alloc _).trans K2).ownT K3 (Nat.le_trans K1.size (Nat.le_refl _))).trans K4⟩

theorem tiDone_ch {A : GA} {S : GS} {w : World} (H : Held A S w) {r : Int} {v0 : Bool} {T : GS} (e : tiChange r byDone S = (v0, T)) :
    Calls Tryz.prog 164 #[.pointer (some ⟨A.g, 0, none⟩), .int .i64 r, .func (.func 176) #[] #[]] w (Did A w (.bool v0) T) := by
  unfold tiChange at e
  have hn2 := H.ok.n2
  replace e := GM.bind_eq e
  obtain ⟨⟨t, ok⟩, S1, e1, e⟩ := e
  dsimp only at e
  have E1 := Hd.mk e1
  cases ok with
  | false =>
    rw [if_neg (by decide)] at e
    obtain ⟨rfl, rfl⟩ := GM.pure_eq e
    clear e1
    go_enter Tryz.func164, Tryz.ntmps164
    go_wp2_with fail
    refine (tiOf_c H E1.out).mono ?_
    rintro _ w1 ⟨rfl, H1, K1⟩
    go_wp2_with fail
    go_ret
    exact ⟨rfl, H1.alloc _, K1.alloc _⟩
  | true =>
    obtain ⟨hk, ho, r0, r1⟩ := tiOf_used e1
    clear e1
    rw [if_pos rfl] at e
    replace e := GM.bind_eq e
    obtain ⟨now, S2, e2, e⟩ := e
    have E2 := Hd.mk e2
    clear e2
    replace e := GM.bind_eq e
    obtain ⟨t', S3, e3, e⟩ := e
    obtain ⟨rfl, rfl⟩ := GM.pure_eq e3
    have hu : ({ t with count := now } : Tag).Used := by rcases hk with h | h; exact Or.inl h; exact Or.inr (Or.inl h)
    by_cases hr : tagRight ({ t with count := now }) = true
    · rw [if_pos hr] at e
      replace e := GM.bind_eq e
      obtain ⟨u5, S5, e5, e⟩ := e
      obtain ⟨rfl, rfl⟩ := GM.pure_eq e
      have E5 := Hd.mk e5
      have hw := Hd.mk (tagWord_range hr hu ho)
      have hp := Hd.mk (tagPack_right hr)
      clear e5 hr
      go_enter Tryz.func164, Tryz.ntmps164
      go_wp2_with fail
      refine (tiOf_c H E1.out).mono ?_
      rintro _ w1 ⟨rfl, H1, K1⟩
      have Bt := Blk.new w1 149 #[.int .i64 t.kind, .int .i64 t.color, .int .i64 t.count, .int .i64 t.shade, .int .i64 t.dead, .int .i64 t.ring, .int .i64 t.owner]
      go_wp2_with fail
      refine (tiParity_c (H1.alloc _) E2.out).mono ?_
      rintro _ w2 ⟨rfl, H2, K2⟩
      have Bt2 := Bt.stays K2 (GA.foot_far H1.top)
      go_wp2_with fail
      refine (doneL_c H2 Bt2 H1.top).mono ?_
      rintro _ w3 ⟨rfl, H3, Bt3, K3⟩
      have b0 : w3.cell? ⟨w1.heap.size, 0, none⟩ = some (.int .i64 ({ t with count := now } : Tag).kind) := Bt3.cell 0
      have b1 : w3.cell? ⟨w1.heap.size, 1, none⟩ = some (.int .i64 ({ t with count := now } : Tag).color) := Bt3.cell 1
      have b2 : w3.cell? ⟨w1.heap.size, 2, none⟩ = some (.int .i64 ({ t with count := now } : Tag).count) := Bt3.cell 2
      have b3 : w3.cell? ⟨w1.heap.size, 3, none⟩ = some (.int .i64 ({ t with count := now } : Tag).shade) := Bt3.cell 3
      have b4 : w3.cell? ⟨w1.heap.size, 4, none⟩ = some (.int .i64 ({ t with count := now } : Tag).dead) := Bt3.cell 4
      have b5 : w3.cell? ⟨w1.heap.size, 5, none⟩ = some (.int .i64 ({ t with count := now } : Tag).ring) := Bt3.cell 5
      have b6 : w3.cell? ⟨w1.heap.size, 6, none⟩ = some (.int .i64 ({ t with count := now } : Tag).owner) := Bt3.cell 6
      go_wp2_with fail
      refine (Pack_d H3 ({ t with count := now }) hu ho hp.out).mono ?_
      rintro _ w4 ⟨rfl, H4, K4⟩
      go_wp2_with fail
      refine (SetWord_c H4 hw.out.1 hw.out.2 E5.out).mono ?_
      rintro _ w5 ⟨rfl, H5, K5⟩
      go_wp2_with fail
      go_ret
      exact ⟨rfl, H5, ((((K1.alloc _).trans K2).ownT K3 (Nat.le_trans K1.size (Nat.le_refl _))).trans K4).trans K5⟩
    · rw [if_neg hr] at e
      obtain ⟨rfl, rfl⟩ := GM.pure_eq e
      have hp := Hd.mk (tagPack_wrong hr)
      clear hr
      go_enter Tryz.func164, Tryz.ntmps164
      go_wp2_with fail
      refine (tiOf_c H E1.out).mono ?_
      rintro _ w1 ⟨rfl, H1, K1⟩
      have Bt := Blk.new w1 149 #[.int .i64 t.kind, .int .i64 t.color, .int .i64 t.count, .int .i64 t.shade, .int .i64 t.dead, .int .i64 t.ring, .int .i64 t.owner]
      go_wp2_with fail
      refine (tiParity_c (H1.alloc _) E2.out).mono ?_
      rintro _ w2 ⟨rfl, H2, K2⟩
      have Bt2 := Bt.stays K2 (GA.foot_far H1.top)
      go_wp2_with fail
      refine (doneL_c H2 Bt2 H1.top).mono ?_
      rintro _ w3 ⟨rfl, H3, Bt3, K3⟩
      have b0 : w3.cell? ⟨w1.heap.size, 0, none⟩ = some (.int .i64 ({ t with count := now } : Tag).kind) := Bt3.cell 0
      have b1 : w3.cell? ⟨w1.heap.size, 1, none⟩ = some (.int .i64 ({ t with count := now } : Tag).color) := Bt3.cell 1
      have b2 : w3.cell? ⟨w1.heap.size, 2, none⟩ = some (.int .i64 ({ t with count := now } : Tag).count) := Bt3.cell 2
      have b3 : w3.cell? ⟨w1.heap.size, 3, none⟩ = some (.int .i64 ({ t with count := now } : Tag).shade) := Bt3.cell 3
      have b4 : w3.cell? ⟨w1.heap.size, 4, none⟩ = some (.int .i64 ({ t with count := now } : Tag).dead) := Bt3.cell 4
      have b5 : w3.cell? ⟨w1.heap.size, 5, none⟩ = some (.int .i64 ({ t with count := now } : Tag).ring) := Bt3.cell 5
      have b6 : w3.cell? ⟨w1.heap.size, 6, none⟩ = some (.int .i64 ({ t with count := now } : Tag).owner) := Bt3.cell 6
      go_wp2_with fail
      refine (Pack_d H3 ({ t with count := now }) hu ho hp.out).mono ?_
      rintro _ w4 ⟨rfl, H4, K4⟩
      go_wp2_with fail
      go_ret
      exact ⟨rfl, H4, (((K1.alloc _).trans K2).ownT K3 (Nat.le_trans K1.size (Nat.le_refl _))).trans K4⟩

theorem tiKill_ch {A : GA} {S : GS} {w : World} (H : Held A S w) {r : Int} {v0 : Bool} {T : GS} (e : tiChange r byKill S = (v0, T)) :
    Calls Tryz.prog 164 #[.pointer (some ⟨A.g, 0, none⟩), .int .i64 r, .func (.func 183) #[] #[]] w (Did A w (.bool v0) T) := by
  unfold tiChange at e
  have hn2 := H.ok.n2
  replace e := GM.bind_eq e
  obtain ⟨⟨t, ok⟩, S1, e1, e⟩ := e
  dsimp only at e
  have E1 := Hd.mk e1
  cases ok with
  | false =>
    rw [if_neg (by decide)] at e
    obtain ⟨rfl, rfl⟩ := GM.pure_eq e
    clear e1
    go_enter Tryz.func164, Tryz.ntmps164
    go_wp2_with fail
    refine (tiOf_c H E1.out).mono ?_
    rintro _ w1 ⟨rfl, H1, K1⟩
    go_wp2_with fail
    go_ret
    exact ⟨rfl, H1.alloc _, K1.alloc _⟩
  | true =>
    obtain ⟨hk, ho, r0, r1⟩ := tiOf_used e1
    clear e1
    rw [if_pos rfl] at e
    replace e := GM.bind_eq e
    obtain ⟨now, S2, e2, e⟩ := e
    have E2 := Hd.mk e2
    clear e2
    replace e := GM.bind_eq e
    obtain ⟨t', S3, e3, e⟩ := e
    obtain ⟨rfl, rfl⟩ := GM.pure_eq e3
    have hu : ({ t with dead := 1 } : Tag).Used := by rcases hk with h | h; exact Or.inl h; exact Or.inr (Or.inl h)
    by_cases hr : tagRight ({ t with dead := 1 }) = true
    · rw [if_pos hr] at e
      replace e := GM.bind_eq e
      obtain ⟨u5, S5, e5, e⟩ := e
      obtain ⟨rfl, rfl⟩ := GM.pure_eq e
      have E5 := Hd.mk e5
      have hw := Hd.mk (tagWord_range hr hu ho)
      have hp := Hd.mk (tagPack_right hr)
      clear e5 hr
      go_enter Tryz.func164, Tryz.ntmps164
      go_wp2_with fail
      refine (tiOf_c H E1.out).mono ?_
      rintro _ w1 ⟨rfl, H1, K1⟩
      have Bt := Blk.new w1 149 #[.int .i64 t.kind, .int .i64 t.color, .int .i64 t.count, .int .i64 t.shade, .int .i64 t.dead, .int .i64 t.ring, .int .i64 t.owner]
      go_wp2_with fail
      refine (tiParity_c (H1.alloc _) E2.out).mono ?_
      rintro _ w2 ⟨rfl, H2, K2⟩
      have Bt2 := Bt.stays K2 (GA.foot_far H1.top)
      go_wp2_with fail
      refine (killL_c H2 Bt2 H1.top).mono ?_
      rintro _ w3 ⟨rfl, H3, Bt3, K3⟩
      have b0 : w3.cell? ⟨w1.heap.size, 0, none⟩ = some (.int .i64 ({ t with dead := 1 } : Tag).kind) := Bt3.cell 0
      have b1 : w3.cell? ⟨w1.heap.size, 1, none⟩ = some (.int .i64 ({ t with dead := 1 } : Tag).color) := Bt3.cell 1
      have b2 : w3.cell? ⟨w1.heap.size, 2, none⟩ = some (.int .i64 ({ t with dead := 1 } : Tag).count) := Bt3.cell 2
      have b3 : w3.cell? ⟨w1.heap.size, 3, none⟩ = some (.int .i64 ({ t with dead := 1 } : Tag).shade) := Bt3.cell 3
      have b4 : w3.cell? ⟨w1.heap.size, 4, none⟩ = some (.int .i64 ({ t with dead := 1 } : Tag).dead) := Bt3.cell 4
      have b5 : w3.cell? ⟨w1.heap.size, 5, none⟩ = some (.int .i64 ({ t with dead := 1 } : Tag).ring) := Bt3.cell 5
      have b6 : w3.cell? ⟨w1.heap.size, 6, none⟩ = some (.int .i64 ({ t with dead := 1 } : Tag).owner) := Bt3.cell 6
      go_wp2_with fail
      refine (Pack_d H3 ({ t with dead := 1 }) hu ho hp.out).mono ?_
      rintro _ w4 ⟨rfl, H4, K4⟩
      go_wp2_with fail
      refine (SetWord_c H4 hw.out.1 hw.out.2 E5.out).mono ?_
      rintro _ w5 ⟨rfl, H5, K5⟩
      go_wp2_with fail
      go_ret
      exact ⟨rfl, H5, ((((K1.alloc _).trans K2).ownT K3 (Nat.le_trans K1.size (Nat.le_refl _))).trans K4).trans K5⟩
    · rw [if_neg hr] at e
      obtain ⟨rfl, rfl⟩ := GM.pure_eq e
      have hp := Hd.mk (tagPack_wrong hr)
      clear hr
      go_enter Tryz.func164, Tryz.ntmps164
      go_wp2_with fail
      refine (tiOf_c H E1.out).mono ?_
      rintro _ w1 ⟨rfl, H1, K1⟩
      have Bt := Blk.new w1 149 #[.int .i64 t.kind, .int .i64 t.color, .int .i64 t.count, .int .i64 t.shade, .int .i64 t.dead, .int .i64 t.ring, .int .i64 t.owner]
      go_wp2_with fail
      refine (tiParity_c (H1.alloc _) E2.out).mono ?_
      rintro _ w2 ⟨rfl, H2, K2⟩
      have Bt2 := Bt.stays K2 (GA.foot_far H1.top)
      go_wp2_with fail
      refine (killL_c H2 Bt2 H1.top).mono ?_
      rintro _ w3 ⟨rfl, H3, Bt3, K3⟩
      have b0 : w3.cell? ⟨w1.heap.size, 0, none⟩ = some (.int .i64 ({ t with dead := 1 } : Tag).kind) := Bt3.cell 0
      have b1 : w3.cell? ⟨w1.heap.size, 1, none⟩ = some (.int .i64 ({ t with dead := 1 } : Tag).color) := Bt3.cell 1
      have b2 : w3.cell? ⟨w1.heap.size, 2, none⟩ = some (.int .i64 ({ t with dead := 1 } : Tag).count) := Bt3.cell 2
      have b3 : w3.cell? ⟨w1.heap.size, 3, none⟩ = some (.int .i64 ({ t with dead := 1 } : Tag).shade) := Bt3.cell 3
      have b4 : w3.cell? ⟨w1.heap.size, 4, none⟩ = some (.int .i64 ({ t with dead := 1 } : Tag).dead) := Bt3.cell 4
      have b5 : w3.cell? ⟨w1.heap.size, 5, none⟩ = some (.int .i64 ({ t with dead := 1 } : Tag).ring) := Bt3.cell 5
      have b6 : w3.cell? ⟨w1.heap.size, 6, none⟩ = some (.int .i64 ({ t with dead := 1 } : Tag).owner) := Bt3.cell 6
      go_wp2_with fail
      refine (Pack_d H3 ({ t with dead := 1 }) hu ho hp.out).mono ?_
      rintro _ w4 ⟨rfl, H4, K4⟩
      go_wp2_with fail
      go_ret
      exact ⟨rfl, H4, (((K1.alloc _).trans K2).ownT K3 (Nat.le_trans K1.size (Nat.le_refl _))).trans K4⟩

theorem tiDye_ch {A : GA} {S : GS} {w : World} (H : Held A S w) {r : Int} {v0 : Bool} {T : GS} {bg br : Nat} (Bg : Blk w bg 22 #[.pointer (some ⟨A.g, 0, none⟩)]) (Br : Blk w br 3 #[.int .i64 r]) (hbg : A.top ≤ bg) (hbr : A.top ≤ br) (e : tiChange r (byDye r) S = (v0, T)) :
    Calls Tryz.prog 164 #[.pointer (some ⟨A.g, 0, none⟩), .int .i64 r, .func (.func 165) #[] #[.pointer (some ⟨bg, 0, none⟩), .pointer (some ⟨br, 0, none⟩)]] w (Did A w (.bool v0) T) := by
  unfold tiChange at e
  have hn2 := H.ok.n2
  replace e := GM.bind_eq e
  obtain ⟨⟨t, ok⟩, S1, e1, e⟩ := e
  dsimp only at e
  have E1 := Hd.mk e1
  cases ok with
  | false =>
    rw [if_neg (by decide)] at e
    obtain ⟨rfl, rfl⟩ := GM.pure_eq e
    clear e1
    go_enter Tryz.func164, Tryz.ntmps164
    go_wp2_with fail
    refine (tiOf_c H E1.out).mono ?_
    rintro _ w1 ⟨rfl, H1, K1⟩
    go_wp2_with fail
    go_ret
    exact ⟨rfl, H1.alloc _, K1.alloc _⟩
  | true =>
    obtain ⟨hk, ho, r0, r1⟩ := tiOf_used e1
    clear e1
    rw [if_pos rfl] at e
    replace e := GM.bind_eq e
    obtain ⟨now, S2, e2, e⟩ := e
    have E2 := Hd.mk e2
    clear e2
    replace e := GM.bind_eq e
    obtain ⟨t', S3, e3, e⟩ := e
    replace e3 := GM.bind_eq e3
    obtain ⟨u4, S4, e4, e3⟩ := e3
    obtain ⟨rfl, rfl⟩ := GM.pure_eq e3
    have E4 := Hd.mk e4
    clear e4
    have hu : ({ t with color := now, count := now, shade := now } : Tag).Used := by rcases hk with h | h; exact Or.inl h; exact Or.inr (Or.inl h)
    by_cases hr : tagRight ({ t with color := now, count := now, shade := now }) = true
    · rw [if_pos hr] at e
      replace e := GM.bind_eq e
      obtain ⟨u5, S5, e5, e⟩ := e
      obtain ⟨rfl, rfl⟩ := GM.pure_eq e
      have E5 := Hd.mk e5
      have hw := Hd.mk (tagWord_range hr hu ho)
      have hp := Hd.mk (tagPack_right hr)
      clear e5 hr
      go_enter Tryz.func164, Tryz.ntmps164
      go_wp2_with fail
      refine (tiOf_c H E1.out).mono ?_
      rintro _ w1 ⟨rfl, H1, K1⟩
      have Bt := Blk.new w1 149 #[.int .i64 t.kind, .int .i64 t.color, .int .i64 t.count, .int .i64 t.shade, .int .i64 t.dead, .int .i64 t.ring, .int .i64 t.owner]
      go_wp2_with fail
      refine (tiParity_c (H1.alloc _) E2.out).mono ?_
      rintro _ w2 ⟨rfl, H2, K2⟩
      have Bt2 := Bt.stays K2 (GA.foot_far H1.top)
      have Bg2 := ((Bg.stays K1 (GA.foot_far hbg)).alloc _).stays K2 (GA.foot_far hbg)
      have Br2 := ((Br.stays K1 (GA.foot_far hbr)).alloc _).stays K2 (GA.foot_far hbr)
      have hng : ¬ bg = w1.heap.size := by have h1 := Bg.lt; have h2 := K1.size; omega
      have hnr : ¬ br = w1.heap.size := by have h1 := Br.lt; have h2 := K1.size; omega
      go_wp2_with fail
      refine (dyeL_c H2 Bt2 H1.top Bg2 Br2 hng hnr hbg hbr r0 (by omega) E4.out).mono ?_
      rintro _ w3 ⟨rfl, H3, Bt3, K3⟩
      have b0 : w3.cell? ⟨w1.heap.size, 0, none⟩ = some (.int .i64 ({ t with color := now, count := now, shade := now } : Tag).kind) := Bt3.cell 0
      have b1 : w3.cell? ⟨w1.heap.size, 1, none⟩ = some (.int .i64 ({ t with color := now, count := now, shade := now } : Tag).color) := Bt3.cell 1
      have b2 : w3.cell? ⟨w1.heap.size, 2, none⟩ = some (.int .i64 ({ t with color := now, count := now, shade := now } : Tag).count) := Bt3.cell 2
      have b3 : w3.cell? ⟨w1.heap.size, 3, none⟩ = some (.int .i64 ({ t with color := now, count := now, shade := now } : Tag).shade) := Bt3.cell 3
      have b4 : w3.cell? ⟨w1.heap.size, 4, none⟩ = some (.int .i64 ({ t with color := now, count := now, shade := now } : Tag).dead) := Bt3.cell 4
      have b5 : w3.cell? ⟨w1.heap.size, 5, none⟩ = some (.int .i64 ({ t with color := now, count := now, shade := now } : Tag).ring) := Bt3.cell 5
      have b6 : w3.cell? ⟨w1.heap.size, 6, none⟩ = some (.int .i64 ({ t with color := now, count := now, shade := now } : Tag).owner) := Bt3.cell 6
      go_wp2_with fail
      refine (Pack_d H3 ({ t with color := now, count := now, shade := now }) hu ho hp.out).mono ?_
      rintro _ w4 ⟨rfl, H4, K4⟩
      go_wp2_with fail
      refine (SetWord_c H4 hw.out.1 hw.out.2 E5.out).mono ?_
      rintro _ w5 ⟨rfl, H5, K5⟩
      go_wp2_with fail
      go_ret
      exact ⟨rfl, H5, ((((K1.alloc _).trans K2).ownT K3 (Nat.le_trans K1.size (Nat.le_refl _))).trans K4).trans K5⟩
    · rw [if_neg hr] at e
      obtain ⟨rfl, rfl⟩ := GM.pure_eq e
      have hp := Hd.mk (tagPack_wrong hr)
      clear hr
      go_enter Tryz.func164, Tryz.ntmps164
      go_wp2_with fail
      refine (tiOf_c H E1.out).mono ?_
      rintro _ w1 ⟨rfl, H1, K1⟩
      have Bt := Blk.new w1 149 #[.int .i64 t.kind, .int .i64 t.color, .int .i64 t.count, .int .i64 t.shade, .int .i64 t.dead, .int .i64 t.ring, .int .i64 t.owner]
      go_wp2_with fail
      refine (tiParity_c (H1.alloc _) E2.out).mono ?_
      rintro _ w2 ⟨rfl, H2, K2⟩
      have Bt2 := Bt.stays K2 (GA.foot_far H1.top)
      have Bg2 := ((Bg.stays K1 (GA.foot_far hbg)).alloc _).stays K2 (GA.foot_far hbg)
      have Br2 := ((Br.stays K1 (GA.foot_far hbr)).alloc _).stays K2 (GA.foot_far hbr)
      have hng : ¬ bg = w1.heap.size := by have h1 := Bg.lt; have h2 := K1.size; omega
      have hnr : ¬ br = w1.heap.size := by have h1 := Br.lt; have h2 := K1.size; omega
      go_wp2_with fail
      refine (dyeL_c H2 Bt2 H1.top Bg2 Br2 hng hnr hbg hbr r0 (by omega) E4.out).mono ?_
      rintro _ w3 ⟨rfl, H3, Bt3, K3⟩
      have b0 : w3.cell? ⟨w1.heap.size, 0, none⟩ = some (.int .i64 ({ t with color := now, count := now, shade := now } : Tag).kind) := Bt3.cell 0
      have b1 : w3.cell? ⟨w1.heap.size, 1, none⟩ = some (.int .i64 ({ t with color := now, count := now, shade := now } : Tag).color) := Bt3.cell 1
      have b2 : w3.cell? ⟨w1.heap.size, 2, none⟩ = some (.int .i64 ({ t with color := now, count := now, shade := now } : Tag).count) := Bt3.cell 2
      have b3 : w3.cell? ⟨w1.heap.size, 3, none⟩ = some (.int .i64 ({ t with color := now, count := now, shade := now } : Tag).shade) := Bt3.cell 3
      have b4 : w3.cell? ⟨w1.heap.size, 4, none⟩ = some (.int .i64 ({ t with color := now, count := now, shade := now } : Tag).dead) := Bt3.cell 4
      have b5 : w3.cell? ⟨w1.heap.size, 5, none⟩ = some (.int .i64 ({ t with color := now, count := now, shade := now } : Tag).ring) := Bt3.cell 5
      have b6 : w3.cell? ⟨w1.heap.size, 6, none⟩ = some (.int .i64 ({ t with color := now, count := now, shade := now } : Tag).owner) := Bt3.cell 6
      go_wp2_with fail
      refine (Pack_d H3 ({ t with color := now, count := now, shade := now }) hu ho hp.out).mono ?_
      rintro _ w4 ⟨rfl, H4, K4⟩
      go_wp2_with fail
      go_ret
      exact ⟨rfl, H4, (((K1.alloc _).trans K2).ownT K3 (Nat.le_trans K1.size (Nat.le_refl _))).trans K4⟩

theorem tiDeep_ch {A : GA} {S : GS} {w : World} (H : Held A S w) {r : Int} {v0 : Bool} {T : GS} {bg br : Nat} (Bg : Blk w bg 22 #[.pointer (some ⟨A.g, 0, none⟩)]) (Br : Blk w br 3 #[.int .i64 r]) (hbg : A.top ≤ bg) (hbr : A.top ≤ br) (e : tiChange r (byDeep r) S = (v0, T)) :
    Calls Tryz.prog 164 #[.pointer (some ⟨A.g, 0, none⟩), .int .i64 r, .func (.func 177) #[] #[.pointer (some ⟨bg, 0, none⟩), .pointer (some ⟨br, 0, none⟩)]] w (Did A w (.bool v0) T) := by
  unfold tiChange at e
  have hn2 := H.ok.n2
  replace e := GM.bind_eq e
  obtain ⟨⟨t, ok⟩, S1, e1, e⟩ := e
  dsimp only at e
  have E1 := Hd.mk e1
  cases ok with
  | false =>
    rw [if_neg (by decide)] at e
    obtain ⟨rfl, rfl⟩ := GM.pure_eq e
    clear e1
    go_enter Tryz.func164, Tryz.ntmps164
    go_wp2_with fail
    refine (tiOf_c H E1.out).mono ?_
    rintro _ w1 ⟨rfl, H1, K1⟩
    go_wp2_with fail
    go_ret
    exact ⟨rfl, H1.alloc _, K1.alloc _⟩
  | true =>
    obtain ⟨hk, ho, r0, r1⟩ := tiOf_used e1
    clear e1
    rw [if_pos rfl] at e
    replace e := GM.bind_eq e
    obtain ⟨now, S2, e2, e⟩ := e
    have E2 := Hd.mk e2
    clear e2
    replace e := GM.bind_eq e
    obtain ⟨t', S3, e3, e⟩ := e
    unfold byDeep at e3
    by_cases hs : t.shade = now
    · rw [if_pos hs] at e3
      replace e3 := GM.bind_eq e3
      obtain ⟨v, S4, e4, e3⟩ := e3
      replace e3 := GM.bind_eq e3
      obtain ⟨u6, S6, e6, e3⟩ := e3
      obtain ⟨rfl, rfl⟩ := GM.pure_eq e3
      have E4 := Hd.mk e4
      have E6 := Hd.mk e6
      have HS := Hd.mk hs
      clear e4 e6 hs
      have hu : ({ t with shade := now } : Tag).Used := by rcases hk with h | h; exact Or.inl h; exact Or.inr (Or.inl h)
      by_cases hr : tagRight ({ t with shade := now }) = true
      · rw [if_pos hr] at e
        replace e := GM.bind_eq e
        obtain ⟨u5, S5, e5, e⟩ := e
        obtain ⟨rfl, rfl⟩ := GM.pure_eq e
        have E5 := Hd.mk e5
        have hw := Hd.mk (tagWord_range hr hu ho)
        have hp := Hd.mk (tagPack_right hr)
        clear e5 hr
        go_enter Tryz.func164, Tryz.ntmps164
        go_wp2_with fail
        refine (tiOf_c H E1.out).mono ?_
        rintro _ w1 ⟨rfl, H1, K1⟩
        have Bt := Blk.new w1 149 #[.int .i64 t.kind, .int .i64 t.color, .int .i64 t.count, .int .i64 t.shade, .int .i64 t.dead, .int .i64 t.ring, .int .i64 t.owner]
        go_wp2_with fail
        refine (tiParity_c (H1.alloc _) E2.out).mono ?_
        rintro _ w2 ⟨rfl, H2, K2⟩
        have Bt2 := Bt.stays K2 (GA.foot_far H1.top)
        have Bg2 := ((Bg.stays K1 (GA.foot_far hbg)).alloc _).stays K2 (GA.foot_far hbg)
        have Br2 := ((Br.stays K1 (GA.foot_far hbr)).alloc _).stays K2 (GA.foot_far hbr)
        have hng : ¬ bg = w1.heap.size := by have h1 := Bg.lt; have h2 := K1.size; omega
        have hnr : ¬ br = w1.heap.size := by have h1 := Br.lt; have h2 := K1.size; omega
        go_wp2_with fail
        refine (deepL_same_c H2 Bt2 H1.top Bg2 Br2 hng hnr hbg hbr r0 (by omega) HS.out E4.out E6.out).mono ?_
        rintro _ w3 ⟨rfl, H3, Bt3, K3⟩
        have b0 : w3.cell? ⟨w1.heap.size, 0, none⟩ = some (.int .i64 ({ t with shade := now } : Tag).kind) := Bt3.cell 0
        have b1 : w3.cell? ⟨w1.heap.size, 1, none⟩ = some (.int .i64 ({ t with shade := now } : Tag).color) := Bt3.cell 1
        have b2 : w3.cell? ⟨w1.heap.size, 2, none⟩ = some (.int .i64 ({ t with shade := now } : Tag).count) := Bt3.cell 2
        have b3 : w3.cell? ⟨w1.heap.size, 3, none⟩ = some (.int .i64 ({ t with shade := now } : Tag).shade) := Bt3.cell 3
        have b4 : w3.cell? ⟨w1.heap.size, 4, none⟩ = some (.int .i64 ({ t with shade := now } : Tag).dead) := Bt3.cell 4
        have b5 : w3.cell? ⟨w1.heap.size, 5, none⟩ = some (.int .i64 ({ t with shade := now } : Tag).ring) := Bt3.cell 5
        have b6 : w3.cell? ⟨w1.heap.size, 6, none⟩ = some (.int .i64 ({ t with shade := now } : Tag).owner) := Bt3.cell 6
        go_wp2_with fail
        refine (Pack_d H3 ({ t with shade := now }) hu ho hp.out).mono ?_
        rintro _ w4 ⟨rfl, H4, K4⟩
        go_wp2_with fail
        refine (SetWord_c H4 hw.out.1 hw.out.2 E5.out).mono ?_
        rintro _ w5 ⟨rfl, H5, K5⟩
        go_wp2_with fail
        go_ret
        exact ⟨rfl, H5, ((((K1.alloc _).trans K2).ownT K3 (Nat.le_trans K1.size (Nat.le_refl _))).trans K4).trans K5⟩
      · rw [if_neg hr] at e
        obtain ⟨rfl, rfl⟩ := GM.pure_eq e
        have hp := Hd.mk (tagPack_wrong hr)
        clear hr
        go_enter Tryz.func164, Tryz.ntmps164
        go_wp2_with fail
        refine (tiOf_c H E1.out).mono ?_
        rintro _ w1 ⟨rfl, H1, K1⟩
        have Bt := Blk.new w1 149 #[.int .i64 t.kind, .int .i64 t.color, .int .i64 t.count, .int .i64 t.shade, .int .i64 t.dead, .int .i64 t.ring, .int .i64 t.owner]
        go_wp2_with fail
        refine (tiParity_c (H1.alloc _) E2.out).mono ?_
        rintro _ w2 ⟨rfl, H2, K2⟩
        have Bt2 := Bt.stays K2 (GA.foot_far H1.top)
        have Bg2 := ((Bg.stays K1 (GA.foot_far hbg)).alloc _).stays K2 (GA.foot_far hbg)
        have Br2 := ((Br.stays K1 (GA.foot_far hbr)).alloc _).stays K2 (GA.foot_far hbr)
        have hng : ¬ bg = w1.heap.size := by have h1 := Bg.lt; have h2 := K1.size; omega
        have hnr : ¬ br = w1.heap.size := by have h1 := Br.lt; have h2 := K1.size; omega
        go_wp2_with fail
        refine (deepL_same_c H2 Bt2 H1.top Bg2 Br2 hng hnr hbg hbr r0 (by omega) HS.out E4.out E6.out).mono ?_
        rintro _ w3 ⟨rfl, H3, Bt3, K3⟩
        have b0 : w3.cell? ⟨w1.heap.size, 0, none⟩ = some (.int .i64 ({ t with shade := now } : Tag).kind) := Bt3.cell 0
        have b1 : w3.cell? ⟨w1.heap.size, 1, none⟩ = some (.int .i64 ({ t with shade := now } : Tag).color) := Bt3.cell 1
        have b2 : w3.cell? ⟨w1.heap.size, 2, none⟩ = some (.int .i64 ({ t with shade := now } : Tag).count) := Bt3.cell 2
        have b3 : w3.cell? ⟨w1.heap.size, 3, none⟩ = some (.int .i64 ({ t with shade := now } : Tag).shade) := Bt3.cell 3
        have b4 : w3.cell? ⟨w1.heap.size, 4, none⟩ = some (.int .i64 ({ t with shade := now } : Tag).dead) := Bt3.cell 4
        have b5 : w3.cell? ⟨w1.heap.size, 5, none⟩ = some (.int .i64 ({ t with shade := now } : Tag).ring) := Bt3.cell 5
        have b6 : w3.cell? ⟨w1.heap.size, 6, none⟩ = some (.int .i64 ({ t with shade := now } : Tag).owner) := Bt3.cell 6
        go_wp2_with fail
        refine (Pack_d H3 ({ t with shade := now }) hu ho hp.out).mono ?_
        rintro _ w4 ⟨rfl, H4, K4⟩
        go_wp2_with fail
        go_ret
        exact ⟨rfl, H4, (((K1.alloc _).trans K2).ownT K3 (Nat.le_trans K1.size (Nat.le_refl _))).trans K4⟩
    · rw [if_neg hs] at e3
      replace e3 := GM.bind_eq e3
      obtain ⟨u6, S6, e6, e3⟩ := e3
      obtain ⟨rfl, rfl⟩ := GM.pure_eq e3
      have E6 := Hd.mk e6
      have HS := Hd.mk hs
      clear e6 hs
      have hu : ({ t with shade := now } : Tag).Used := by rcases hk with h | h; exact Or.inl h; exact Or.inr (Or.inl h)
      by_cases hr : tagRight ({ t with shade := now }) = true
      · rw [if_pos hr] at e
        replace e := GM.bind_eq e
        obtain ⟨u5, S5, e5, e⟩ := e
        obtain ⟨rfl, rfl⟩ := GM.pure_eq e
        have E5 := Hd.mk e5
        have hw := Hd.mk (tagWord_range hr hu ho)
        have hp := Hd.mk (tagPack_right hr)
        clear e5 hr
        go_enter Tryz.func164, Tryz.ntmps164
        go_wp2_with fail
        refine (tiOf_c H E1.out).mono ?_
        rintro _ w1 ⟨rfl, H1, K1⟩
        have Bt := Blk.new w1 149 #[.int .i64 t.kind, .int .i64 t.color, .int .i64 t.count, .int .i64 t.shade, .int .i64 t.dead, .int .i64 t.ring, .int .i64 t.owner]
        go_wp2_with fail
        refine (tiParity_c (H1.alloc _) E2.out).mono ?_
        rintro _ w2 ⟨rfl, H2, K2⟩
        have Bt2 := Bt.stays K2 (GA.foot_far H1.top)
        have Bg2 := ((Bg.stays K1 (GA.foot_far hbg)).alloc _).stays K2 (GA.foot_far hbg)
        have Br2 := ((Br.stays K1 (GA.foot_far hbr)).alloc _).stays K2 (GA.foot_far hbr)
        have hng : ¬ bg = w1.heap.size := by have h1 := Bg.lt; have h2 := K1.size; omega
        have hnr : ¬ br = w1.heap.size := by have h1 := Br.lt; have h2 := K1.size; omega
        go_wp2_with fail
        refine (deepL_other_c H2 Bt2 H1.top Bg2 Br2 hng hnr hbg hbr r0 (by omega) HS.out E6.out).mono ?_
        rintro _ w3 ⟨rfl, H3, Bt3, K3⟩
        have b0 : w3.cell? ⟨w1.heap.size, 0, none⟩ = some (.int .i64 ({ t with shade := now } : Tag).kind) := Bt3.cell 0
        have b1 : w3.cell? ⟨w1.heap.size, 1, none⟩ = some (.int .i64 ({ t with shade := now } : Tag).color) := Bt3.cell 1
        have b2 : w3.cell? ⟨w1.heap.size, 2, none⟩ = some (.int .i64 ({ t with shade := now } : Tag).count) := Bt3.cell 2
        have b3 : w3.cell? ⟨w1.heap.size, 3, none⟩ = some (.int .i64 ({ t with shade := now } : Tag).shade) := Bt3.cell 3
        have b4 : w3.cell? ⟨w1.heap.size, 4, none⟩ = some (.int .i64 ({ t with shade := now } : Tag).dead) := Bt3.cell 4
        have b5 : w3.cell? ⟨w1.heap.size, 5, none⟩ = some (.int .i64 ({ t with shade := now } : Tag).ring) := Bt3.cell 5
        have b6 : w3.cell? ⟨w1.heap.size, 6, none⟩ = some (.int .i64 ({ t with shade := now } : Tag).owner) := Bt3.cell 6
        go_wp2_with fail
        refine (Pack_d H3 ({ t with shade := now }) hu ho hp.out).mono ?_
        rintro _ w4 ⟨rfl, H4, K4⟩
        go_wp2_with fail
        refine (SetWord_c H4 hw.out.1 hw.out.2 E5.out).mono ?_
        rintro _ w5 ⟨rfl, H5, K5⟩
        go_wp2_with fail
        go_ret
        exact ⟨rfl, H5, ((((K1.alloc _).trans K2).ownT K3 (Nat.le_trans K1.size (Nat.le_refl _))).trans K4).trans K5⟩
      · rw [if_neg hr] at e
        obtain ⟨rfl, rfl⟩ := GM.pure_eq e
        have hp := Hd.mk (tagPack_wrong hr)
        clear hr
        go_enter Tryz.func164, Tryz.ntmps164
        go_wp2_with fail
        refine (tiOf_c H E1.out).mono ?_
        rintro _ w1 ⟨rfl, H1, K1⟩
        have Bt := Blk.new w1 149 #[.int .i64 t.kind, .int .i64 t.color, .int .i64 t.count, .int .i64 t.shade, .int .i64 t.dead, .int .i64 t.ring, .int .i64 t.owner]
        go_wp2_with fail
        refine (tiParity_c (H1.alloc _) E2.out).mono ?_
        rintro _ w2 ⟨rfl, H2, K2⟩
        have Bt2 := Bt.stays K2 (GA.foot_far H1.top)
        have Bg2 := ((Bg.stays K1 (GA.foot_far hbg)).alloc _).stays K2 (GA.foot_far hbg)
        have Br2 := ((Br.stays K1 (GA.foot_far hbr)).alloc _).stays K2 (GA.foot_far hbr)
        have hng : ¬ bg = w1.heap.size := by have h1 := Bg.lt; have h2 := K1.size; omega
        have hnr : ¬ br = w1.heap.size := by have h1 := Br.lt; have h2 := K1.size; omega
        go_wp2_with fail
        refine (deepL_other_c H2 Bt2 H1.top Bg2 Br2 hng hnr hbg hbr r0 (by omega) HS.out E6.out).mono ?_
        rintro _ w3 ⟨rfl, H3, Bt3, K3⟩
        have b0 : w3.cell? ⟨w1.heap.size, 0, none⟩ = some (.int .i64 ({ t with shade := now } : Tag).kind) := Bt3.cell 0
        have b1 : w3.cell? ⟨w1.heap.size, 1, none⟩ = some (.int .i64 ({ t with shade := now } : Tag).color) := Bt3.cell 1
        have b2 : w3.cell? ⟨w1.heap.size, 2, none⟩ = some (.int .i64 ({ t with shade := now } : Tag).count) := Bt3.cell 2
        have b3 : w3.cell? ⟨w1.heap.size, 3, none⟩ = some (.int .i64 ({ t with shade := now } : Tag).shade) := Bt3.cell 3
        have b4 : w3.cell? ⟨w1.heap.size, 4, none⟩ = some (.int .i64 ({ t with shade := now } : Tag).dead) := Bt3.cell 4
        have b5 : w3.cell? ⟨w1.heap.size, 5, none⟩ = some (.int .i64 ({ t with shade := now } : Tag).ring) := Bt3.cell 5
        have b6 : w3.cell? ⟨w1.heap.size, 6, none⟩ = some (.int .i64 ({ t with shade := now } : Tag).owner) := Bt3.cell 6
        go_wp2_with fail
        refine (Pack_d H3 ({ t with shade := now }) hu ho hp.out).mono ?_
        rintro _ w4 ⟨rfl, H4, K4⟩
        go_wp2_with fail
        go_ret
        exact ⟨rfl, H4, (((K1.alloc _).trans K2).ownT K3 (Nat.le_trans K1.size (Nat.le_refl _))).trans K4⟩

end Go.Proofs.YtadhdjldcpkfiaaGreatDoor
