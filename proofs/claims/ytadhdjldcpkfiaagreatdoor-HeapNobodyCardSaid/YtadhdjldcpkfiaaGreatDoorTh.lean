/- Whether a tag may be: the calls. Nothing is asked but that the program's array 'none' holds noughts. -/
import Derived.Test.YtadhdjldcpkfiaaGreatDoorTg
namespace Go.Proofs.YtadhdjldcpkfiaaGreatDoor
set_option linter.unusedVariables false
set_option linter.unusedSimpArgs false
open Go.RowKit
set_option maxRecDepth 100000
set_option maxHeartbeats 1600000

def Tag.mk_ (t : Tag) : Nat → Int
  | 0 => t.color
  | 1 => t.count
  | 2 => t.shade
  | 3 => t.dead
  | _ => t.ring
theorem bit01_neg {x : Int} (h : bit01 x = false) : (x != 0) = true ∧ (x != 1) = true := by
  unfold bit01 at h
  simp at h
  exact ⟨by simp [h.1], by simp [h.2]⟩
theorem bit01_pos {x : Int} (h : bit01 x = true) : x = 0 ∨ x = 1 := by
  unfold bit01 at h
  simpa using h
theorem right_marks {t : Tag} (h : tagRight t = true) : ∀ j, j < 5 → bit01 (t.mk_ j) = true := by
  unfold tagRight at h
  simp only [Bool.and_eq_true] at h
  obtain ⟨⟨⟨⟨⟨h0, h1⟩, h2⟩, h3⟩, h4⟩, _⟩ := h
  intro j hj
  match j, hj with
  | 0, _ => exact h0
  | 1, _ => exact h1
  | 2, _ => exact h2
  | 3, _ => exact h3
  | 4, _ => exact h4
theorem eqz0 (w : World) : (Op.equalIn 10000 209 (.agg #[.int .i64 0, .int .i64 0, .int .i64 0, .int .i64 0, .int .i64 0]) (.agg #[.int .i64 0, .int .i64 0, .int .i64 0, .int .i64 0, .int .i64 0])).run Tryz.prog w = .ok true w := by kernel_rfl
attribute [local go_sem] eqz0 undef

/-- The end of Right, behind the marks: the kind's own. -/
def tagEnd (t : Tag) : Bool :=
  if t.kind = 1 then decide (t.owner = 0) else if t.kind = 2 then decide (t.owner = 0) else
   if t.kind = 0 then decide (t.color = 0) && decide (t.count = 0) && decide (t.shade = 0) && decide (t.dead = 0) && decide (t.ring = 0) && decide (t.owner = 0) else
   if t.kind = 3 then decide (t.color = 0) && decide (t.count = 0) && decide (t.shade = 0) && decide (t.dead = 0) && decide (t.ring = 0) && decide (0 ≤ t.owner) && decide (t.owner < 1048576) else false
/-- The tags that the program packs: heads' and clean leaves'. -/
def Tag.Used (t : Tag) : Prop := t.kind = 1 ∨ t.kind = 2 ∨ (t.kind = 3 ∧ t.color = 0 ∧ t.count = 0 ∧ t.shade = 0 ∧ t.dead = 0 ∧ t.ring = 0 ∧ 0 ≤ t.owner)
theorem Right_c (t : Tag) (w : World) (Z : NoneZ w) (hu : t.Used) :
    Calls Tryz.prog 245 #[t.val] w (Made w (.bool (tagRight t))) := by
  have h2 : tagRight t = (bit01 t.color && bit01 t.count && bit01 t.shade && bit01 t.dead && bit01 t.ring && tagEnd t) := rfl
  have H2 := Hd.mk h2
  have hd_ := Hd.mk hu
  clear hu
  clear h2
  obtain ⟨k, c, n, s, d, r, o⟩ := t
  unfold Tag.Used at hd_
  simp only [Tag.val]
  have i0 : ∀ w, (Instr.index 209 (.agg #[.int .i64 c, .int .i64 n, .int .i64 s, .int .i64 d, .int .i64 r]) (.int .i64 0)).run Tryz.prog w = .ok (.int .i64 c) w := fun _ => by kernel_rfl
  have i1 : ∀ w, (Instr.index 209 (.agg #[.int .i64 c, .int .i64 n, .int .i64 s, .int .i64 d, .int .i64 r]) (.int .i64 1)).run Tryz.prog w = .ok (.int .i64 n) w := fun _ => by kernel_rfl
  have i2 : ∀ w, (Instr.index 209 (.agg #[.int .i64 c, .int .i64 n, .int .i64 s, .int .i64 d, .int .i64 r]) (.int .i64 2)).run Tryz.prog w = .ok (.int .i64 s) w := fun _ => by kernel_rfl
  have i3 : ∀ w, (Instr.index 209 (.agg #[.int .i64 c, .int .i64 n, .int .i64 s, .int .i64 d, .int .i64 r]) (.int .i64 3)).run Tryz.prog w = .ok (.int .i64 d) w := fun _ => by kernel_rfl
  have i4 : ∀ w, (Instr.index 209 (.agg #[.int .i64 c, .int .i64 n, .int .i64 s, .int .i64 d, .int .i64 r]) (.int .i64 4)).run Tryz.prog w = .ok (.int .i64 r) w := fun _ => by kernel_rfl
  have B := Blk.new w 149 #[.int .i64 k, .int .i64 c, .int .i64 n, .int .i64 s, .int .i64 d, .int .i64 r, .int .i64 o]
  go_enter Tryz.func245, Tryz.ntmps245
  go_wp2_with fail
  refine (marks_c ⟨k, c, n, s, d, r, o⟩ _).mono ?_
  rintro _ w1 ⟨rfl, K1⟩
  dsimp only
  replace B := B.stays K1 (fun x => x)
  have Z1 : NoneZ w1 := (Z.alloc _).stays K1 (fun x => x)
  clear Z
  go_wp2_with fail
  go_loop [7] (fun i => ∃ j : Nat, j ≤ 5 ∧ i = .int .i64 j ∧ ∀ q, q < j → bit01 ((⟨k, c, n, s, d, r, o⟩ : Tag).mk_ q) = true) (fun i => 5 - (intOf i).toNat)
  case atStart => exact ⟨0, by omega, rfl, fun q hq => by omega⟩
  case round =>
    obtain ⟨j, hj, rfl, hq⟩ := hrel
    have HQ := Hd.mk hq
    clear hq
    rcases (by omega : j = 0 ∨ j = 1 ∨ j = 2 ∨ j = 3 ∨ j = 4 ∨ j = 5) with rfl | rfl | rfl | rfl | rfl | rfl
    · by_cases hb : bit01 c = true
      · have HB := Hd.mk hb
        rcases bit01_pos hb with rfl | rfl <;> clear hb
        all_goals
          go_wp2_with fail
          go_round
          case rel => exact ⟨1, by omega, rfl, fun q hq => by
            rcases (by omega : q < 0 ∨ q = 0) with h | rfl
            · exact HQ.out q h
            · exact HB.out⟩
          case measure => simp [intOf]
      · have hb' : bit01 c = false := by simpa using hb
        obtain ⟨hb0, hb1⟩ := bit01_neg hb'
        have HB := Hd.mk hb'
        clear hb hb'
        go_wp2_with fail
        go_ret
        exact ⟨by rw [H2.out]; simp [HB.out], by
          refine Stays.trans ?_ K1
          exact (Stays.refl _ _).alloc _⟩
    · by_cases hb : bit01 n = true
      · have HB := Hd.mk hb
        rcases bit01_pos hb with rfl | rfl <;> clear hb
        all_goals
          go_wp2_with fail
          go_round
          case rel => exact ⟨2, by omega, rfl, fun q hq => by
            rcases (by omega : q < 1 ∨ q = 1) with h | rfl
            · exact HQ.out q h
            · exact HB.out⟩
          case measure => simp [intOf]
      · have hb' : bit01 n = false := by simpa using hb
        obtain ⟨hb0, hb1⟩ := bit01_neg hb'
        have HB := Hd.mk hb'
        clear hb hb'
        go_wp2_with fail
        go_ret
        exact ⟨by rw [H2.out]; simp [HB.out], by
          refine Stays.trans ?_ K1
          exact (Stays.refl _ _).alloc _⟩
    · by_cases hb : bit01 s = true
      · have HB := Hd.mk hb
        rcases bit01_pos hb with rfl | rfl <;> clear hb
        all_goals
          go_wp2_with fail
          go_round
          case rel => exact ⟨3, by omega, rfl, fun q hq => by
            rcases (by omega : q < 2 ∨ q = 2) with h | rfl
            · exact HQ.out q h
            · exact HB.out⟩
          case measure => simp [intOf]
      · have hb' : bit01 s = false := by simpa using hb
        obtain ⟨hb0, hb1⟩ := bit01_neg hb'
        have HB := Hd.mk hb'
        clear hb hb'
        go_wp2_with fail
        go_ret
        exact ⟨by rw [H2.out]; simp [HB.out], by
          refine Stays.trans ?_ K1
          exact (Stays.refl _ _).alloc _⟩
    · by_cases hb : bit01 d = true
      · have HB := Hd.mk hb
        rcases bit01_pos hb with rfl | rfl <;> clear hb
        all_goals
          go_wp2_with fail
          go_round
          case rel => exact ⟨4, by omega, rfl, fun q hq => by
            rcases (by omega : q < 3 ∨ q = 3) with h | rfl
            · exact HQ.out q h
            · exact HB.out⟩
          case measure => simp [intOf]
      · have hb' : bit01 d = false := by simpa using hb
        obtain ⟨hb0, hb1⟩ := bit01_neg hb'
        have HB := Hd.mk hb'
        clear hb hb'
        go_wp2_with fail
        go_ret
        exact ⟨by rw [H2.out]; simp [HB.out], by
          refine Stays.trans ?_ K1
          exact (Stays.refl _ _).alloc _⟩
    · by_cases hb : bit01 r = true
      · have HB := Hd.mk hb
        rcases bit01_pos hb with rfl | rfl <;> clear hb
        all_goals
          go_wp2_with fail
          go_round
          case rel => exact ⟨5, by omega, rfl, fun q hq => by
            rcases (by omega : q < 4 ∨ q = 4) with h | rfl
            · exact HQ.out q h
            · exact HB.out⟩
          case measure => simp [intOf]
      · have hb' : bit01 r = false := by simpa using hb
        obtain ⟨hb0, hb1⟩ := bit01_neg hb'
        have HB := Hd.mk hb'
        clear hb hb'
        go_wp2_with fail
        go_ret
        exact ⟨by rw [H2.out]; simp [HB.out], by
          refine Stays.trans ?_ K1
          exact (Stays.refl _ _).alloc _⟩
    · have e0 := HQ.out 0 (by omega)
      have e1 := HQ.out 1 (by omega)
      have e2 := HQ.out 2 (by omega)
      have e3 := HQ.out 3 (by omega)
      have e4 := HQ.out 4 (by omega)
      simp only [Tag.mk_] at e0 e1 e2 e3 e4
      have H3 : tagRight ⟨k, c, n, s, d, r, o⟩ = tagEnd ⟨k, c, n, s, d, r, o⟩ := by rw [H2.out]; simp [e0, e1, e2, e3, e4]
      have H4 := Hd.mk H3
      have E0 := Hd.mk e0
      have E1 := Hd.mk e1
      have E2 := Hd.mk e2
      have E3 := Hd.mk e3
      have E4 := Hd.mk e4
      clear H3 H2 e0 e1 e2 e3 e4 HQ
      clear i0 i1 i2 i3 i4
      have b0 : w1.cell? ⟨w.heap.size, 0, none⟩ = some (.int .i64 k) := B.cell 0
      have b6 : w1.cell? ⟨w.heap.size, 6, none⟩ = some (.int .i64 o) := B.cell 6
      by_cases k1 : k = 1
      · subst k1
        by_cases o0 : o = 0
        · subst o0
          go_wp2_with fail
          go_ret
          exact ⟨by rw [H4.out]; simp [tagEnd], ((Stays.refl _ _).alloc _).trans K1⟩
        · have ob : (o == 0) = false := beq_eq_false_iff_ne.2 o0
          go_wp2_with fail
          go_ret
          exact ⟨by rw [H4.out]; simp [tagEnd, o0], ((Stays.refl _ _).alloc _).trans K1⟩
      have kb1 : (k == 1) = false := beq_eq_false_iff_ne.2 k1
      by_cases k2 : k = 2
      · subst k2
        by_cases o0 : o = 0
        · subst o0
          go_wp2_with fail
          go_ret
          exact ⟨by rw [H4.out]; simp [tagEnd], ((Stays.refl _ _).alloc _).trans K1⟩
        · have ob : (o == 0) = false := beq_eq_false_iff_ne.2 o0
          go_wp2_with fail
          go_ret
          exact ⟨by rw [H4.out]; simp [tagEnd, o0], ((Stays.refl _ _).alloc _).trans K1⟩
      have kb2 : (k == 2) = false := beq_eq_false_iff_ne.2 k2
      obtain ⟨rfl, rfl, rfl, rfl, rfl, rfl, o0⟩ : k = 3 ∧ c = 0 ∧ n = 0 ∧ s = 0 ∧ d = 0 ∧ r = 0 ∧ 0 ≤ o := by
        rcases hd_.out with h | h | h
        · exact absurd h k1
        · exact absurd h k2
        · exact h
      have b1 : w1.cell? ⟨w.heap.size, 1, none⟩ = some (.int .i64 0) := B.cell 1
      have b2 : w1.cell? ⟨w.heap.size, 2, none⟩ = some (.int .i64 0) := B.cell 2
      have b3 : w1.cell? ⟨w.heap.size, 3, none⟩ = some (.int .i64 0) := B.cell 3
      have b4 : w1.cell? ⟨w.heap.size, 4, none⟩ = some (.int .i64 0) := B.cell 4
      have b5 : w1.cell? ⟨w.heap.size, 5, none⟩ = some (.int .i64 0) := B.cell 5
      have z0 := Z1 0 (by omega)
      have z1 := Z1 1 (by omega)
      have z2 := Z1 2 (by omega)
      have z3 := Z1 3 (by omega)
      have z4 := Z1 4 (by omega)
      by_cases o1 : o < 1048576
      · go_wp2_with fail
        first | go_region_with (first | (go_at_call 246; (with_reducible refine (marks_x _ _ _ _ _ _ _ _).mono ?_); (rintro _ w2 ⟨rfl, K2⟩); have B2 := Blk.stays (Blk.drew B) K2 (fun x => x); have Z2 := NoneZ.stays (NoneZ.drew Z1) K2 (fun x => x); have y0 : w2.cell? ⟨w.heap.size, 0, none⟩ = some (.int .i64 3) := B2.cell 0; have y6 : w2.cell? ⟨w.heap.size, 6, none⟩ = some (.int .i64 o) := B2.cell 6; have x0 := Z2 0 (by omega); have x1 := Z2 1 (by omega); have x2 := Z2 2 (by omega); have x3 := Z2 3 (by omega); have x4 := Z2 4 (by omega))) | fail
        all_goals
          go_wp2_with fail
          go_ret
          exact ⟨by rw [H4.out]; simp [tagEnd, Act.put, *], (((Stays.refl _ _).alloc _).trans K1).trans ((Stays.refl _ _).drew.trans K2)⟩
      · have ob : decide (o < 1048576) = false := by simpa using o1
        have oz : ¬ o = 0 := by omega
        go_wp2_with fail
        first | go_region_with (first | (go_at_call 246; (with_reducible refine (marks_x _ _ _ _ _ _ _ _).mono ?_); (rintro _ w2 ⟨rfl, K2⟩); have B2 := Blk.stays (Blk.drew B) K2 (fun x => x); have Z2 := NoneZ.stays (NoneZ.drew Z1) K2 (fun x => x); have y0 : w2.cell? ⟨w.heap.size, 0, none⟩ = some (.int .i64 3) := B2.cell 0; have y6 : w2.cell? ⟨w.heap.size, 6, none⟩ = some (.int .i64 o) := B2.cell 6; have x0 := Z2 0 (by omega); have x1 := Z2 1 (by omega); have x2 := Z2 2 (by omega); have x3 := Z2 3 (by omega); have x4 := Z2 4 (by omega))) | fail
        all_goals
          go_wp2_with fail
          go_ret
          exact ⟨by rw [H4.out]; simp [tagEnd, Act.put]; omega, (((Stays.refl _ _).alloc _).trans K1).trans ((Stays.refl _ _).drew.trans K2)⟩
end Go.Proofs.YtadhdjldcpkfiaaGreatDoor
