/-
  OpTells, without the machine: by the kinds; and the number of leaves, divided or counted up, is one.
-/
import Derived.Test.YtampnfmhmonebaaDoorQOpTellsx8
namespace Go.Proofs.YtampnfmhmonebaaDoor.Pure
open Go.RowKit Go.Proofs.YtampnfmhmonebaaDoor.QOpTells Go.Proofs.YtampnfmhmonebaaDoorW.PrintWords Go.Proofs.YtampnfmhmonebaaDoorW.PrintLast
set_option maxRecDepth 100000
set_option linter.unusedSimpArgs false
set_option linter.unusedVariables false

theorem begun_ok : ∀ k : Nat, quitrentlaw22_begun.f (k + 6) = some true := by
  intro k
  have e : op_Name.f 3 = some ⟨#[115, 116, 111, 114, 101]⟩ := rfl
  unfold quitrentlaw22_begun.f
  rw [e, Option.bind_some, if_pos (by rw [ByteArray.toList_eq])]
  simp [op_Slots.f, op_Slots.j0, quitrentref01_Ints.f, quitrentref01_Ints.l0, op_Plain.f, op_is.f, op_Bare.f, op_Bare.j0, op_First.f, op_First.l0, rd, wrap64, rd_T46]

theorem kinds (a : Int) : a = 1 ∨ a = 2 ∨ a = 3 ∨ a = 4 ∨ a = 5 ∨ a = 6 ∨ a = 7 ∨ a = 8 ∨ a = 9 ∨ a = 10 ∨ (a ≠ 1 ∧ a ≠ 2 ∧ a ≠ 3 ∧ a ≠ 4 ∧ a ≠ 5 ∧ a ≠ 6 ∧ a ≠ 7 ∧ a ≠ 8 ∧ a ≠ 9 ∧ a ≠ 10) := by omega

theorem bare_alike (k : Nat) (a b c d e : Int) : op_Bare.f (k + 3) a b c d e = quitrentref22_Bare.f (k + 3) a b c d e ∧ ∃ r, quitrentref22_Bare.f (k + 3) a b c d e = some r := by
  rcases kinds a with rfl | rfl | rfl | rfl | rfl | rfl | rfl | rfl | rfl | rfl | ⟨h1, h2, h3, h4, h5, h6, h7, h8, h9, h10⟩
  all_goals first
    | (refine ⟨?_, ?_⟩ <;> simp [op_Bare.f, op_Bare.j0, op_Bare.j1, op_Bare.j2, quitrentref22_Bare.f, quitrentref22_Bare.j0, quitrentref22_Bare.j1, quitrentref22_Bare.j2]; done)
    | (refine ⟨?_, ?_⟩ <;> simp [op_Bare.f, op_Bare.j0, op_Bare.j1, op_Bare.j2, quitrentref22_Bare.f, quitrentref22_Bare.j0, quitrentref22_Bare.j1, quitrentref22_Bare.j2, h1, h2, h3, h4, h5, h6, h7, h8, h9, h10])

theorem plain_alike (k : Nat) (a b c d e : Int) : op_Plain.f (k + 3) a b c d e = quitrentref22_Plain.f (k + 3) a b c d e ∧ ∃ r, quitrentref22_Plain.f (k + 3) a b c d e = some r := by
  obtain ⟨h1, r, h2⟩ := bare_alike k a b c d e
  unfold op_Plain.f quitrentref22_Plain.f op_is.f
  rw [h1, h2]
  by_cases c1 : a ≥ 1
  · by_cases c2 : a ≤ 10
    · simp [c1, c2]
    · simp [c1, c2]
  · simp [c1]

theorem slots_alike (k : Nat) (a b c d e : Int) : op_Slots.f (k + 1) a b c d e = quitrentref22_Slots.f (k + 1) a b c d e ∧ ((∃ x y, quitrentref22_Slots.f (k + 1) a b c d e = some [x, y]) ∨ (∃ x, quitrentref22_Slots.f (k + 1) a b c d e = some [x]) ∨ quitrentref22_Slots.f (k + 1) a b c d e = some []) := by
  rcases kinds a with rfl | rfl | rfl | rfl | rfl | rfl | rfl | rfl | rfl | rfl | ⟨h1, h2, h3, h4, h5, h6, h7, h8, h9, h10⟩
  all_goals first
    | (refine ⟨?_, ?_⟩ <;> simp [op_Slots.f, op_Slots.j0, quitrentref22_Slots.f, quitrentref22_Slots.j0, op_is.f]; done)
    | skip
  by_cases c1 : a ≥ 1
  · have c2 : ¬ a ≤ 10 := by omega
    refine ⟨?_, ?_⟩ <;> simp [op_Slots.f, op_Slots.j0, quitrentref22_Slots.f, quitrentref22_Slots.j0, op_is.f, h1, h2, h3, h4, h5, h6, h7, h8, h9, h10, c1, c2]
  · refine ⟨?_, ?_⟩ <;> simp [op_Slots.f, op_Slots.j0, quitrentref22_Slots.f, quitrentref22_Slots.j0, op_is.f, h1, h2, h3, h4, h5, h6, h7, h8, h9, h10, c1]

theorem ints2 (k : Nat) (x y : Int) : quitrentref01_Ints.f (k + 3) [x, y] [x, y] = some true := by
  simp [quitrentref01_Ints.f, quitrentref01_Ints.l0, rd, wrap64]
theorem ints1 (k : Nat) (x : Int) : quitrentref01_Ints.f (k + 3) [x] [x] = some true := by
  simp [quitrentref01_Ints.f, quitrentref01_Ints.l0, rd, wrap64]
theorem ints0 (k : Nat) : quitrentref01_Ints.f (k + 3) [] [] = some true := by
  simp [quitrentref01_Ints.f, quitrentref01_Ints.l0, rd, wrap64]

theorem leaves_up {k : Nat} {w f N : Int} (hw1 : 16 ≤ w) (hw2 : w ≤ 256) (hN : N ≤ 300) (hlow : ∀ m, 0 ≤ m → m < N → m * (w - 1) < f) (hf : ¬ N * (w - 1) < f) : ∀ (d : Nat) (n : Int), 0 ≤ n → n + d = N → quitrentref07_Leaves.l0 (k + d + 1) w f n = some N
  | d, n, h0, e => by
    have e1 : wrap64 (w - 1) = w - 1 := by unfold wrap64; omega
    have p1 : n * (w - 1) ≤ 300 * 255 := Int.mul_le_mul (by omega) (by omega) (by omega) (by omega)
    have p0 : 0 ≤ n * (w - 1) := Int.mul_nonneg h0 (by omega)
    have e2 : wrap64 (n * (w - 1)) = n * (w - 1) := by unfold wrap64; omega
    unfold quitrentref07_Leaves.l0
    rw [e1, e2]
    match d with
    | 0 =>
      obtain rfl : n = N := by simpa using e
      rw [if_neg hf]
    | d + 1 =>
      have e3 : wrap64 (n + 1) = n + 1 := by unfold wrap64; omega
      rw [if_pos (hlow n h0 (by omega)), e3]
      exact leaves_up hw1 hw2 hN hlow hf d (n + 1) (by omega) (by omega)

theorem mx_of {a b : Int} (h : b ≤ a) : mx a b = a := by unfold mx; omega

theorem leaves_alike {k : Nat} {w f : Int} (hw1 : 16 ≤ w) (hw2 : w ≤ 256) (h0 : 0 ≤ f) (hf : f ≤ (w - 8) * (w - 1)) : ∃ n, shape_leaves.f w f = some n ∧ quitrentref07_Leaves.f (k + 400) w f = some n := by
  have e8 : wrap64 (w - 8) = w - 8 := by unfold wrap64; omega
  have e1 : wrap64 (w - 1) = w - 1 := by unfold wrap64; omega
  have p1 : (w - 8) * (w - 1) ≤ 248 * 255 := Int.mul_le_mul (by omega) (by omega) (by omega) (by omega)
  unfold shape_leaves.f quitrentref07_Leaves.f shape_inHead.f shape_inLeaf.f
  rw [Option.bind_some, Option.bind_some, e8, e1]
  by_cases c : f ≤ w - 8
  · rw [if_pos c, if_pos c]
    exact ⟨_, rfl, rfl⟩
  · rw [if_neg c, if_neg c]
    have u : ratio_Up.f f (w - 1) = some ((f + (w - 1) - 1) / (w - 1)) := by
      have c1 : ratio_counts.f f = some f := by
        unfold ratio_counts.f ratio_Clamp.f
        rw [if_neg (by omega), mx_of h0]
        rfl
      have c2 : ratio_by.f (w - 1) = some (w - 1) := by
        unfold ratio_by.f ratio_counts.f ratio_Clamp.f
        rw [if_neg (by omega), mx_of (show 0 ≤ w - 1 by omega), Option.bind_some, Option.bind_some, mx_of (show 1 ≤ w - 1 by omega)]
      unfold ratio_Up.f
      rw [c1, c2, Option.bind_some, Option.bind_some, Option.bind_some, if_neg (by omega)]
      have s1 : wrap64 (f + (w - 1)) = f + (w - 1) := by unfold wrap64; omega
      have s2 : wrap64 (f + (w - 1) - 1) = f + (w - 1) - 1 := by unfold wrap64; omega
      have q0 : 0 ≤ (f + (w - 1) - 1) / (w - 1) := Int.ediv_nonneg (by omega) (by omega)
      have q1 : (f + (w - 1) - 1) / (w - 1) ≤ f + (w - 1) - 1 := Int.ediv_le_self _ (by omega)
      rw [s1, s2, Int.tdiv_eq_ediv_of_nonneg (by omega)]
      have s3 : wrap64 ((f + (w - 1) - 1) / (w - 1)) = (f + (w - 1) - 1) / (w - 1) := by
        unfold wrap64; omega
      rw [s3]
    rw [u]
    refine ⟨_, rfl, ?_⟩
    have em := Int.mul_ediv_add_emod (f + (w - 1) - 1) (w - 1)
    have r0 := Int.emod_nonneg (f + (w - 1) - 1) (show w - 1 ≠ 0 by omega)
    have r1 := Int.emod_lt_of_pos (f + (w - 1) - 1) (show 0 < w - 1 by omega)
    have q0 : 0 ≤ (f + (w - 1) - 1) / (w - 1) := Int.ediv_nonneg (by omega) (by omega)
    have qN : (f + (w - 1) - 1) / (w - 1) ≤ w - 8 := by
      have : (f + (w - 1) - 1) / (w - 1) < w - 8 + 1 := by
        refine Int.ediv_lt_of_lt_mul (by omega) ?_
        have : (w - 8 + 1) * (w - 1) = (w - 8) * (w - 1) + (w - 1) := by
          rw [Int.add_mul, Int.one_mul]
        omega
      omega
    generalize (f + (w - 1) - 1) / (w - 1) = N at em q0 qN ⊢
    generalize (f + (w - 1) - 1) % (w - 1) = r at em r0 r1
    obtain ⟨d, rfl⟩ := Int.eq_ofNat_of_zero_le q0
    have := leaves_up (k := k + 399 - d) (f := f) hw1 hw2 (N := (d : Int)) (by omega) (fun m hm0 hm => ?_) ?_ d 0 (by omega) (by omega)
    · rw [show k + 399 - d + d + 1 = k + 400 by omega] at this
      exact this
    · have : m * (w - 1) ≤ (d - 1) * (w - 1) := Int.mul_le_mul_of_nonneg_right (by omega) (by omega)
      rw [Int.sub_mul, Int.one_mul] at this
      rw [Int.mul_comm] at em
      omega
    · rw [Int.mul_comm] at em
      omega

theorem needs_alike (k : Nat) (c0 c1 c2 c3 a b c d e : Int) (hb : -9223372036854775808 ≤ c ∧ c ≤ 9223372036854775807) (hd : -9223372036854775808 ≤ d ∧ d ≤ 9223372036854775807) (hc : -9223372036854775808 ≤ c1 ∧ c1 ≤ 9223372036854775807) :
    ∃ n, op_Needs.f (k + 400) c0 c1 c2 c3 a b c d e = some n ∧ quitrentref22_Needs.f (k + 400) c0 c1 c2 c3 a b c d e = some n := by
  unfold op_Needs.f quitrentref22_Needs.f
  by_cases ha : a = 1
  · rw [if_pos ha, if_pos ha]
    unfold shape_Blocks.f quitrentref07_Blocks.f shape_wrong.f shape_isWidth.f quitrentref07_Width.f
    by_cases w1 : c1 ≥ 16
    · by_cases w2 : c1 ≤ 256
      · have e8 : wrap64 (c1 - 8) = c1 - 8 := by unfold wrap64; omega
        have e1 : wrap64 (c1 - 1) = c1 - 1 := by unfold wrap64; omega
        have p1 : (c1 - 8) * (c1 - 1) ≤ 248 * 255 := Int.mul_le_mul (by omega) (by omega) (by omega) (by omega)
        have p0 : 0 ≤ (c1 - 8) * (c1 - 1) := Int.mul_nonneg (by omega) (by omega)
        have em : wrap64 ((c1 - 8) * (c1 - 1)) = (c1 - 8) * (c1 - 1) := by unfold wrap64; omega
        have hm : shape_most.f c1 = some ((c1 - 8) * (c1 - 1)) := by
          unfold shape_most.f shape_inHead.f shape_inLeaf.f
          rw [Option.bind_some, Option.bind_some, e8, e1, em]
        have hF : quitrentref07_Fields.f c1 = some ((c1 - 8) * (c1 - 1)) := by
          unfold quitrentref07_Fields.f
          rw [e8, e1, em]
        rw [if_pos w1, Option.bind_some, if_pos (decide_eq_true w2), hm, Option.bind_some, Option.bind_some, if_pos (decide_eq_true w2)]
        have hl := leaves_alike (k := k) (w := c1) (f := c + d) w1 w2
        generalize hFF : (c1 - 8) * (c1 - 1) = F at *
        unfold quitrentref07_Size.f
        rw [hF]
        have l0 : ∀ F', shape_wrong.l0 (k + 400) F' [c, d] 2 0 = if c < 0 then some 3 else if c > F' then some 3 else shape_wrong.l0 (k + 399) (wrap64 (F' - c)) [c, d] 2 1 := by
          intro F'
          conv => lhs; unfold shape_wrong.l0
          simp [rd, wrap64]
        have l1 : ∀ F', shape_wrong.l0 (k + 399) F' [c, d] 2 1 = if d < 0 then some 3 else if d > F' then some 3 else shape_wrong.l0 (k + 398) (wrap64 (F' - d)) [c, d] 2 2 := by
          intro F'
          conv => lhs; unfold shape_wrong.l0
          simp [rd, wrap64]
        have l2 : ∀ F', shape_wrong.l0 (k + 398) F' [c, d] 2 2 = some 0 := by
          intro F'
          unfold shape_wrong.l0
          simp
        have hln : (([c, d] : List Int).length : Int) = 2 := rfl
        rw [hln, l0]
        by_cases b1 : c < 0
        · rw [if_pos b1]
          have b1' : ¬ c ≥ 0 := by omega
          simp [b1']
        · rw [if_neg b1]
          have b1' : c ≥ 0 := by omega
          by_cases b2 : c > F
          · rw [if_pos b2]
            have b2' : ¬ c ≤ F := by omega
            by_cases b3 : d ≥ 0
            · simp [b1', b2', b3]
            · simp [b1', b3]
          · rw [if_neg b2, l1]
            have b2' : c ≤ F := by omega
            have ec : wrap64 (F - c) = F - c := by unfold wrap64; omega
            rw [ec]
            by_cases b3 : d < 0
            · rw [if_pos b3]
              have b3' : ¬ d ≥ 0 := by omega
              simp [b1', b3']
            · rw [if_neg b3]
              have b3' : d ≥ 0 := by omega
              by_cases b4 : d > F - c
              · rw [if_pos b4]
                by_cases b5 : d ≤ F
                · have es : wrap64 (c + d) = c + d := by unfold wrap64; omega
                  have b6 : ¬ c + d ≤ F := by omega
                  simp [b1', b2', b3', b5, es, b6]
                · simp [b1', b2', b3', b5]
              · rw [if_neg b4, l2]
                have b5 : d ≤ F := by omega
                have es : wrap64 (c + d) = c + d := by unfold wrap64; omega
                have b6 : c + d ≤ F := by omega
                obtain ⟨n, h1, h2⟩ := hl (by omega) b6
                simp [b1', b2', b3', b5, es, b6, h1, h2]
      · have w2' : decide (c1 ≤ 256) = false := decide_eq_false w2
        simp [w1, w2]
    · simp [w1]
  · rw [if_neg ha, if_neg ha]
    exact ⟨_, rfl, rfl⟩

theorem OpTells (c0 c1 c2 c3 a b c d e : Int) (hb : -9223372036854775808 ≤ c ∧ c ≤ 9223372036854775807) (hd : -9223372036854775808 ≤ d ∧ d ≤ 9223372036854775807) (hc : -9223372036854775808 ≤ c1 ∧ c1 ≤ 9223372036854775807) :
    quitrentlaw22_OpTells.f 400 c0 c1 c2 c3 a b c d e = some true := by
  obtain ⟨p1, x, p2⟩ := plain_alike 397 a b c d e
  obtain ⟨q1, y, q2⟩ := bare_alike 397 a b c d e
  obtain ⟨s1, s2⟩ := slots_alike 399 a b c d e
  obtain ⟨n, n1, n2⟩ := needs_alike 0 c0 c1 c2 c3 a b c d e hb hd hc
  have n1' : op_Needs.f 400 c0 c1 c2 c3 a b c d e = some n := n1
  have n2' : quitrentref22_Needs.f 400 c0 c1 c2 c3 a b c d e = some n := n2
  have b0 : quitrentlaw22_begun.f 400 = some true := begun_ok 394
  have p1' : op_Plain.f 400 a b c d e = some x := p1.trans p2
  have p2' : quitrentref22_Plain.f 400 a b c d e = some x := p2
  have q1' : op_Bare.f 400 a b c d e = some y := q1.trans q2
  have q2' : quitrentref22_Bare.f 400 a b c d e = some y := q2
  unfold quitrentlaw22_OpTells.f
  rw [b0, p1', p2', q1', q2', n1', n2']
  rcases s2 with ⟨u, v, s3⟩ | ⟨u, s3⟩ | s3
  · have t1 : op_Slots.f 400 a b c d e = some [u, v] := s1.trans s3
    have t2 : quitrentref22_Slots.f 400 a b c d e = some [u, v] := s3
    have t3 : quitrentref01_Ints.f 400 [u, v] [u, v] = some true := ints2 397 u v
    simp [t1, t2, t3]
  · have t1 : op_Slots.f 400 a b c d e = some [u] := s1.trans s3
    have t2 : quitrentref22_Slots.f 400 a b c d e = some [u] := s3
    have t3 : quitrentref01_Ints.f 400 [u] [u] = some true := ints1 397 u
    simp [t1, t2, t3]
  · have t1 : op_Slots.f 400 a b c d e = some [] := s1.trans s3
    have t2 : quitrentref22_Slots.f 400 a b c d e = some [] := s3
    have t3 : quitrentref01_Ints.f 400 [] [] = some true := ints0 397
    simp [t1, t2, t3]

end Go.Proofs.YtampnfmhmonebaaDoor.Pure
