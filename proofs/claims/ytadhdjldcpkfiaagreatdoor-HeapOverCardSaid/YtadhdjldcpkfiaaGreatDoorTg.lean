/- Tags: what a block's first word says, as numbers. Nothing is asked. -/
/- Whether a tag may be: the calls. Nothing is asked but that the program's array 'none' holds noughts. -/
/- A tag's word, put together: Join at the eight widths of a tag, and Pack. Nothing is asked but that the tag is a head's, or a clean leaf's. -/
/- Pack: a tag's word. Nothing is asked but that the tag is a head's, or a clean leaf's, and that the array 'none' holds noughts. -/
import Derived.Test.YtadhdjldcpkfiaaGreatDoorC1
namespace Go.Proofs.YtadhdjldcpkfiaaGreatDoor
set_option linter.unusedVariables false
set_option linter.unusedSimpArgs false
open Go.RowKit
set_option maxRecDepth 100000
set_option maxHeartbeats 800000

structure Tag where
  kind : Int
  color : Int
  count : Int
  shade : Int
  dead : Int
  ring : Int
  owner : Int
deriving DecidableEq
def bit01 (x : Int) : Bool := decide (x = 0) || decide (x = 1)
def tagRight (t : Tag) : Bool :=
  bit01 t.color && bit01 t.count && bit01 t.shade && bit01 t.dead && bit01 t.ring &&
  (if t.kind = 1 then decide (t.owner = 0) else if t.kind = 2 then decide (t.owner = 0) else
   if t.kind = 0 then decide (t.color = 0) && decide (t.count = 0) && decide (t.shade = 0) && decide (t.dead = 0) && decide (t.ring = 0) && decide (t.owner = 0) else
   if t.kind = 3 then decide (t.color = 0) && decide (t.count = 0) && decide (t.shade = 0) && decide (t.dead = 0) && decide (t.ring = 0) && decide (0 ≤ t.owner) && decide (t.owner < 1048576) else false)
def tagWord (t : Tag) : Int := t.kind + 4 * t.color + 8 * t.count + 16 * t.shade + 32 * t.dead + 64 * t.ring + 256 * t.owner
def tagOf (v : Int) : Tag := ⟨v % 4, v / 4 % 2, v / 8 % 2, v / 16 % 2, v / 32 % 2, v / 64 % 2, v / 256 % 16777216⟩
def Tag.val (t : Tag) : Value := .agg #[.int .i64 t.kind, .int .i64 t.color, .int .i64 t.count, .int .i64 t.shade, .int .i64 t.dead, .int .i64 t.ring, .int .i64 t.owner]

/-! ### Get, at the seven pieces of a tag -/
theorem land_div (v j n : Nat) : (v &&& ((2 ^ n - 1) * 2 ^ j)) / 2 ^ j = v / 2 ^ j % 2 ^ n := by
  rw [← Nat.shiftLeft_eq, ← Nat.shiftRight_eq_div_pow, Nat.shiftRight_and_distrib, Nat.shiftLeft_shiftRight, Nat.and_two_pow_sub_one_eq_mod, Nat.shiftRight_eq_div_pow]
theorem bits_piece (v : Int) (j n m : Nat) (h0 : 0 ≤ v) (h1 : v ≤ 4294967295) (hm : m = (2 ^ n - 1) * 2 ^ j) (hj : m < 2 ^ 32) (d : Int) (hd : d = ((2 ^ j : Nat) : Int)) (q : Int) (hq : q = ((2 ^ n : Nat) : Int)) : bits .and .u32 v (m : Int) / d = v / d % q := by
  obtain ⟨a, rfl⟩ := Int.eq_ofNat_of_zero_le h0
  have ha : a < 2 ^ 32 := by omega
  rw [(bits_nat .u32 32 (by decide) (fun n h h' => by rw [IntKind.wrap_u32]; omega) a m ha hj).1, hm, hd, hq]
  have := land_div a j n
  norm_cast
theorem get_0_2 (v : Int) (w : World) (h0 : 0 ≤ v) (h1 : v ≤ 4294967295) :
    Calls Tryz.prog 232 #[.int .u32 v, .int .i64 0, .int .i64 2] w fun e w' => e = .returned (.int .u32 (v % 4)) ∧ w = w' := by
  have hb := bits_piece v 0 2 3 h0 h1 (by decide) (by decide) 1 (by decide) 4 (by decide)
  rw [Int.ediv_one, Int.ediv_one] at hb
  have hb' : bits .and .u32 v 3 = v % 4 := hb
  go_enter Tryz.func232, Tryz.ntmps232
  go_wp2
  go_ret
  exact ⟨rfl, rfl⟩
theorem get_2_1 (v : Int) (w : World) (h0 : 0 ≤ v) (h1 : v ≤ 4294967295) :
    Calls Tryz.prog 232 #[.int .u32 v, .int .i64 2, .int .i64 1] w fun e w' => e = .returned (.int .u32 (v / 4 % 2)) ∧ w = w' := by
  have hb : bits .and .u32 v 4 / 4 = v / 4 % 2 := bits_piece v 2 1 4 h0 h1 (by decide) (by decide) 4 (by decide) 2 (by decide)
  go_enter Tryz.func232, Tryz.ntmps232
  go_wp2
  go_ret
  exact ⟨rfl, rfl⟩
theorem get_3_1 (v : Int) (w : World) (h0 : 0 ≤ v) (h1 : v ≤ 4294967295) :
    Calls Tryz.prog 232 #[.int .u32 v, .int .i64 3, .int .i64 1] w fun e w' => e = .returned (.int .u32 (v / 8 % 2)) ∧ w = w' := by
  have hb : bits .and .u32 v 8 / 8 = v / 8 % 2 := bits_piece v 3 1 8 h0 h1 (by decide) (by decide) 8 (by decide) 2 (by decide)
  go_enter Tryz.func232, Tryz.ntmps232
  go_wp2
  go_ret
  exact ⟨rfl, rfl⟩
theorem get_4_1 (v : Int) (w : World) (h0 : 0 ≤ v) (h1 : v ≤ 4294967295) :
    Calls Tryz.prog 232 #[.int .u32 v, .int .i64 4, .int .i64 1] w fun e w' => e = .returned (.int .u32 (v / 16 % 2)) ∧ w = w' := by
  have hb : bits .and .u32 v 16 / 16 = v / 16 % 2 := bits_piece v 4 1 16 h0 h1 (by decide) (by decide) 16 (by decide) 2 (by decide)
  go_enter Tryz.func232, Tryz.ntmps232
  go_wp2
  go_ret
  exact ⟨rfl, rfl⟩
theorem get_5_1 (v : Int) (w : World) (h0 : 0 ≤ v) (h1 : v ≤ 4294967295) :
    Calls Tryz.prog 232 #[.int .u32 v, .int .i64 5, .int .i64 1] w fun e w' => e = .returned (.int .u32 (v / 32 % 2)) ∧ w = w' := by
  have hb : bits .and .u32 v 32 / 32 = v / 32 % 2 := bits_piece v 5 1 32 h0 h1 (by decide) (by decide) 32 (by decide) 2 (by decide)
  go_enter Tryz.func232, Tryz.ntmps232
  go_wp2
  go_ret
  exact ⟨rfl, rfl⟩
theorem get_6_1 (v : Int) (w : World) (h0 : 0 ≤ v) (h1 : v ≤ 4294967295) :
    Calls Tryz.prog 232 #[.int .u32 v, .int .i64 6, .int .i64 1] w fun e w' => e = .returned (.int .u32 (v / 64 % 2)) ∧ w = w' := by
  have hb : bits .and .u32 v 64 / 64 = v / 64 % 2 := bits_piece v 6 1 64 h0 h1 (by decide) (by decide) 64 (by decide) 2 (by decide)
  go_enter Tryz.func232, Tryz.ntmps232
  go_wp2
  go_ret
  exact ⟨rfl, rfl⟩
theorem get_8_24 (v : Int) (w : World) (h0 : 0 ≤ v) (h1 : v ≤ 4294967295) :
    Calls Tryz.prog 232 #[.int .u32 v, .int .i64 8, .int .i64 24] w fun e w' => e = .returned (.int .u32 (v / 256 % 16777216)) ∧ w = w' := by
  have hb : bits .and .u32 v 4294967040 / 256 = v / 256 % 16777216 := bits_piece v 8 24 4294967040 h0 h1 (by decide) (by decide) 256 (by decide) 16777216 (by decide)
  go_enter Tryz.func232, Tryz.ntmps232
  go_wp2
  go_ret
  exact ⟨rfl, rfl⟩

theorem piece_c (v a n r : Int) (bb : Nat) (w : World) (h0 : 0 ≤ r) (h1 : r ≤ 4294967295) (hb : w.cell? ⟨bb, 0, none⟩ = some (.int .u32 v))
    (hG : Calls Tryz.prog 232 #[.int .u32 v, .int .i64 a, .int .i64 n] w fun e w' => e = .returned (.int .u32 r) ∧ w = w') :
    Calls Tryz.prog 231 #[.int .i64 a, .int .i64 n, .pointer (some ⟨bb, 0, none⟩)] w fun e w' => e = .returned (.int .i64 r) ∧ w = w' := by
  have HG := Hd.mk hG
  clear hG
  go_enter Tryz.func231, Tryz.ntmps231
  go_wp2_with fail
  refine HG.out.mono ?_
  rintro _ _ ⟨rfl, rfl⟩
  go_wp2_with fail
  go_ret
  exact ⟨rfl, rfl⟩

theorem Unpack_c (v : Int) (w : World) (h0 : 0 ≤ v) (h1 : v ≤ 4294967295) :
    Calls Tryz.prog 182 #[.int .u32 v] w (Made w (tagOf v).val) := by
  have hmf : ∀ (fn : Fn) (first cap : Array Value) (w : World), (Instr.makeFunc fn first cap).run Tryz.prog w = .ok (.func fn first cap) w := fun _ _ _ _ => rfl
  have hb : ((w.alloc (.cells #[.int .u32 v] 51)).alloc (.cells #[.int .i64 0, .int .i64 0, .int .i64 0, .int .i64 0, .int .i64 0, .int .i64 0, .int .i64 0] 149)).cell? ⟨w.heap.size, 0, none⟩ = some (.int .u32 v) :=
    ((Blk.new w _ _).alloc _).cell 0
  have p0 := piece_c v 0 2 (v % 4) w.heap.size _ (by omega) (by omega) hb (get_0_2 v _ h0 h1)
  have p1 := piece_c v 2 1 (v / 4 % 2) w.heap.size _ (by omega) (by omega) hb (get_2_1 v _ h0 h1)
  have p2 := piece_c v 3 1 (v / 8 % 2) w.heap.size _ (by omega) (by omega) hb (get_3_1 v _ h0 h1)
  have p3 := piece_c v 4 1 (v / 16 % 2) w.heap.size _ (by omega) (by omega) hb (get_4_1 v _ h0 h1)
  have p4 := piece_c v 5 1 (v / 32 % 2) w.heap.size _ (by omega) (by omega) hb (get_5_1 v _ h0 h1)
  have p5 := piece_c v 6 1 (v / 64 % 2) w.heap.size _ (by omega) (by omega) hb (get_6_1 v _ h0 h1)
  have p6 := piece_c v 8 24 (v / 256 % 16777216) w.heap.size _ (by omega) (by omega) hb (get_8_24 v _ h0 h1)
  have P0 := Hd.mk p0; clear p0
  have P1 := Hd.mk p1; clear p1
  have P2 := Hd.mk p2; clear p2
  have P3 := Hd.mk p3; clear p3
  have P4 := Hd.mk p4; clear p4
  have P5 := Hd.mk p5; clear p5
  have P6 := Hd.mk p6; clear p6 hb
  go_enter Tryz.func182, Tryz.ntmps182
  go_wp2_with fail
  refine P0.out.mono ?_
  rintro _ _ ⟨rfl, rfl⟩
  go_wp2_with fail
  refine P1.out.mono ?_
  rintro _ _ ⟨rfl, rfl⟩
  go_wp2_with fail
  refine P2.out.mono ?_
  rintro _ _ ⟨rfl, rfl⟩
  go_wp2_with fail
  refine P3.out.mono ?_
  rintro _ _ ⟨rfl, rfl⟩
  go_wp2_with fail
  refine P4.out.mono ?_
  rintro _ _ ⟨rfl, rfl⟩
  go_wp2_with fail
  refine P5.out.mono ?_
  rintro _ _ ⟨rfl, rfl⟩
  go_wp2_with fail
  refine P6.out.mono ?_
  rintro _ _ ⟨rfl, rfl⟩
  clear P0 P1 P2 P3 P4 P5 P6
  go_wp2_with fail
  refine bodyPost_ret (v := (tagOf v).val) (by simp [results, Tryz.results182, go_sem, tagOf, Tag.val]) rfl ⟨rfl, ?_⟩
  with_reducible repeat (first | apply zsa | apply zsd)
  exact Stays.refl _ _

theorem marks_c (t : Tag) (w : World) :
    Calls Tryz.prog 246 #[t.val] w (Made w (.agg #[.int .i64 t.color, .int .i64 t.count, .int .i64 t.shade, .int .i64 t.dead, .int .i64 t.ring])) := by
  obtain ⟨k, c, n, s, d, r, o⟩ := t
  simp only [Tag.val]
  go_enter Tryz.func246, Tryz.ntmps246
  go_wp2_with fail
  refine bodyPost_ret (v := .agg #[.int .i64 c, .int .i64 n, .int .i64 s, .int .i64 d, .int .i64 r]) (by simp [results, Tryz.results246, go_sem]) rfl ⟨rfl, ?_⟩
  with_reducible repeat (first | apply zsa | apply zsd)
  exact Stays.refl _ _

theorem marks_x (k c n s d r o : Int) (w : World) :
    Calls Tryz.prog 246 #[.agg #[.int .i64 k, .int .i64 c, .int .i64 n, .int .i64 s, .int .i64 d, .int .i64 r, .int .i64 o]] w (Made w (.agg #[.int .i64 c, .int .i64 n, .int .i64 s, .int .i64 d, .int .i64 r])) :=
  marks_c ⟨k, c, n, s, d, r, o⟩ w
end Go.Proofs.YtadhdjldcpkfiaaGreatDoor
namespace Go.Proofs.YtadhdjldcpkfiaaGreatDoor
set_option linter.unusedVariables false
set_option linter.unusedSimpArgs false
open Go.RowKit
set_option maxRecDepth 100000
set_option maxHeartbeats 1600000

def Tag.mk_ (t : Tag) : Nat → Int
  | 0 => t.color
  | 1 => t.count
  | 2 => t.shade
  | 3 => t.dead
  | _ => t.ring
theorem bit01_neg {x : Int} (h : bit01 x = false) : (x != 0) = true ∧ (x != 1) = true := by
  unfold bit01 at h
  simp at h
  exact ⟨by simp [h.1], by simp [h.2]⟩
theorem bit01_pos {x : Int} (h : bit01 x = true) : x = 0 ∨ x = 1 := by
  unfold bit01 at h
  simpa using h
theorem right_marks {t : Tag} (h : tagRight t = true) : ∀ j, j < 5 → bit01 (t.mk_ j) = true := by
  unfold tagRight at h
  simp only [Bool.and_eq_true] at h
  obtain ⟨⟨⟨⟨⟨h0, h1⟩, h2⟩, h3⟩, h4⟩, _⟩ := h
  intro j hj
  match j, hj with
  | 0, _ => exact h0
  | 1, _ => exact h1
  | 2, _ => exact h2
  | 3, _ => exact h3
  | 4, _ => exact h4
theorem eqz0 (w : World) : (Op.equalIn 10000 209 (.agg #[.int .i64 0, .int .i64 0, .int .i64 0, .int .i64 0, .int .i64 0]) (.agg #[.int .i64 0, .int .i64 0, .int .i64 0, .int .i64 0, .int .i64 0])).run Tryz.prog w = .ok true w := by kernel_rfl
attribute [local go_sem] eqz0 undef

/-- The end of Right, behind the marks: the kind's own. -/
def tagEnd (t : Tag) : Bool :=
  if t.kind = 1 then decide (t.owner = 0) else if t.kind = 2 then decide (t.owner = 0) else
   if t.kind = 0 then decide (t.color = 0) && decide (t.count = 0) && decide (t.shade = 0) && decide (t.dead = 0) && decide (t.ring = 0) && decide (t.owner = 0) else
   if t.kind = 3 then decide (t.color = 0) && decide (t.count = 0) && decide (t.shade = 0) && decide (t.dead = 0) && decide (t.ring = 0) && decide (0 ≤ t.owner) && decide (t.owner < 1048576) else false
/-- The tags that the program packs: heads' and clean leaves'. -/
def Tag.Used (t : Tag) : Prop := t.kind = 1 ∨ t.kind = 2 ∨ (t.kind = 3 ∧ t.color = 0 ∧ t.count = 0 ∧ t.shade = 0 ∧ t.dead = 0 ∧ t.ring = 0 ∧ 0 ≤ t.owner)
theorem Right_c (t : Tag) (w : World) (Z : NoneZ w) (hu : t.Used) :
    Calls Tryz.prog 245 #[t.val] w (Made w (.bool (tagRight t))) := by
  have h2 : tagRight t = (bit01 t.color && bit01 t.count && bit01 t.shade && bit01 t.dead && bit01 t.ring && tagEnd t) := rfl
  have H2 := Hd.mk h2
  have hd_ := Hd.mk hu
  clear hu
  clear h2
  obtain ⟨k, c, n, s, d, r, o⟩ := t
  unfold Tag.Used at hd_
  simp only [Tag.val]
  have i0 : ∀ w, (Instr.index 209 (.agg #[.int .i64 c, .int .i64 n, .int .i64 s, .int .i64 d, .int .i64 r]) (.int .i64 0)).run Tryz.prog w = .ok (.int .i64 c) w := fun _ => by kernel_rfl
  have i1 : ∀ w, (Instr.index 209 (.agg #[.int .i64 c, .int .i64 n, .int .i64 s, .int .i64 d, .int .i64 r]) (.int .i64 1)).run Tryz.prog w = .ok (.int .i64 n) w := fun _ => by kernel_rfl
  have i2 : ∀ w, (Instr.index 209 (.agg #[.int .i64 c, .int .i64 n, .int .i64 s, .int .i64 d, .int .i64 r]) (.int .i64 2)).run Tryz.prog w = .ok (.int .i64 s) w := fun _ => by kernel_rfl
  have i3 : ∀ w, (Instr.index 209 (.agg #[.int .i64 c, .int .i64 n, .int .i64 s, .int .i64 d, .int .i64 r]) (.int .i64 3)).run Tryz.prog w = .ok (.int .i64 d) w := fun _ => by kernel_rfl
  have i4 : ∀ w, (Instr.index 209 (.agg #[.int .i64 c, .int .i64 n, .int .i64 s, .int .i64 d, .int .i64 r]) (.int .i64 4)).run Tryz.prog w = .ok (.int .i64 r) w := fun _ => by kernel_rfl
  have B := Blk.new w 149 #[.int .i64 k, .int .i64 c, .int .i64 n, .int .i64 s, .int .i64 d, .int .i64 r, .int .i64 o]
  go_enter Tryz.func245, Tryz.ntmps245
  go_wp2_with fail
  refine (marks_c ⟨k, c, n, s, d, r, o⟩ _).mono ?_
  rintro _ w1 ⟨rfl, K1⟩
  dsimp only
  replace B := B.stays K1 (fun x => x)
  have Z1 : NoneZ w1 := (Z.alloc _).stays K1 (fun x => x)
  clear Z
  go_wp2_with fail
  go_loop [7] (fun i => ∃ j : Nat, j ≤ 5 ∧ i = .int .i64 j ∧ ∀ q, q < j → bit01 ((⟨k, c, n, s, d, r, o⟩ : Tag).mk_ q) = true) (fun i => 5 - (intOf i).toNat)
  case atStart => exact ⟨0, by omega, rfl, fun q hq => by omega⟩
  case round =>
    obtain ⟨j, hj, rfl, hq⟩ := hrel
    have HQ := Hd.mk hq
    clear hq
    rcases (by omega : j = 0 ∨ j = 1 ∨ j = 2 ∨ j = 3 ∨ j = 4 ∨ j = 5) with rfl | rfl | rfl | rfl | rfl | rfl
    · by_cases hb : bit01 c = true
      · have HB := Hd.mk hb
        rcases bit01_pos hb with rfl | rfl <;> clear hb
        all_goals
          go_wp2_with fail
          go_round
          case rel => exact ⟨1, by omega, rfl, fun q hq => by
            rcases (by omega : q < 0 ∨ q = 0) with h | rfl
            · exact HQ.out q h
            · exact HB.out⟩
          case measure => simp [intOf]
      · have hb' : bit01 c = false := by simpa using hb
        obtain ⟨hb0, hb1⟩ := bit01_neg hb'
        have HB := Hd.mk hb'
        clear hb hb'
        go_wp2_with fail
        go_ret
        exact ⟨by rw [H2.out]; simp [HB.out], by
          refine Stays.trans ?_ K1
          exact (Stays.refl _ _).alloc _⟩
    · by_cases hb : bit01 n = true
      · have HB := Hd.mk hb
        rcases bit01_pos hb with rfl | rfl <;> clear hb
        all_goals
          go_wp2_with fail
          go_round
          case rel => exact ⟨2, by omega, rfl, fun q hq => by
            rcases (by omega : q < 1 ∨ q = 1) with h | rfl
            · exact HQ.out q h
            · exact HB.out⟩
          case measure => simp [intOf]
      · have hb' : bit01 n = false := by simpa using hb
        obtain ⟨hb0, hb1⟩ := bit01_neg hb'
        have HB := Hd.mk hb'
        clear hb hb'
        go_wp2_with fail
        go_ret
        exact ⟨by rw [H2.out]; simp [HB.out], by
          refine Stays.trans ?_ K1
          exact (Stays.refl _ _).alloc _⟩
    · by_cases hb : bit01 s = true
      · have HB := Hd.mk hb
        rcases bit01_pos hb with rfl | rfl <;> clear hb
        all_goals
          go_wp2_with fail
          go_round
          case rel => exact ⟨3, by omega, rfl, fun q hq => by
            rcases (by omega : q < 2 ∨ q = 2) with h | rfl
            · exact HQ.out q h
            · exact HB.out⟩
          case measure => simp [intOf]
      · have hb' : bit01 s = false := by simpa using hb
        obtain ⟨hb0, hb1⟩ := bit01_neg hb'
        have HB := Hd.mk hb'
        clear hb hb'
        go_wp2_with fail
        go_ret
        exact ⟨by rw [H2.out]; simp [HB.out], by
          refine Stays.trans ?_ K1
          exact (Stays.refl _ _).alloc _⟩
    · by_cases hb : bit01 d = true
      · have HB := Hd.mk hb
        rcases bit01_pos hb with rfl | rfl <;> clear hb
        all_goals
          go_wp2_with fail
          go_round
          case rel => exact ⟨4, by omega, rfl, fun q hq => by
            rcases (by omega : q < 3 ∨ q = 3) with h | rfl
            · exact HQ.out q h
            · exact HB.out⟩
          case measure => simp [intOf]
      · have hb' : bit01 d = false := by simpa using hb
        obtain ⟨hb0, hb1⟩ := bit01_neg hb'
        have HB := Hd.mk hb'
        clear hb hb'
        go_wp2_with fail
        go_ret
        exact ⟨by rw [H2.out]; simp [HB.out], by
          refine Stays.trans ?_ K1
          exact (Stays.refl _ _).alloc _⟩
    · by_cases hb : bit01 r = true
      · have HB := Hd.mk hb
        rcases bit01_pos hb with rfl | rfl <;> clear hb
        all_goals
          go_wp2_with fail
          go_round
          case rel => exact ⟨5, by omega, rfl, fun q hq => by
            rcases (by omega : q < 4 ∨ q = 4) with h | rfl
            · exact HQ.out q h
            · exact HB.out⟩
          case measure => simp [intOf]
      · have hb' : bit01 r = false := by simpa using hb
        obtain ⟨hb0, hb1⟩ := bit01_neg hb'
        have HB := Hd.mk hb'
        clear hb hb'
        go_wp2_with fail
        go_ret
        exact ⟨by rw [H2.out]; simp [HB.out], by
          refine Stays.trans ?_ K1
          exact (Stays.refl _ _).alloc _⟩
    · have e0 := HQ.out 0 (by omega)
      have e1 := HQ.out 1 (by omega)
      have e2 := HQ.out 2 (by omega)
      have e3 := HQ.out 3 (by omega)
      have e4 := HQ.out 4 (by omega)
      simp only [Tag.mk_] at e0 e1 e2 e3 e4
      have H3 : tagRight ⟨k, c, n, s, d, r, o⟩ = tagEnd ⟨k, c, n, s, d, r, o⟩ := by rw [H2.out]; simp [e0, e1, e2, e3, e4]
      have H4 := Hd.mk H3
      have E0 := Hd.mk e0
      have E1 := Hd.mk e1
      have E2 := Hd.mk e2
      have E3 := Hd.mk e3
      have E4 := Hd.mk e4
      clear H3 H2 e0 e1 e2 e3 e4 HQ
      clear i0 i1 i2 i3 i4
      have b0 : w1.cell? ⟨w.heap.size, 0, none⟩ = some (.int .i64 k) := B.cell 0
      have b6 : w1.cell? ⟨w.heap.size, 6, none⟩ = some (.int .i64 o) := B.cell 6
      by_cases k1 : k = 1
      · subst k1
        by_cases o0 : o = 0
        · subst o0
          go_wp2_with fail
          go_ret
          exact ⟨by rw [H4.out]; simp [tagEnd], ((Stays.refl _ _).alloc _).trans K1⟩
        · have ob : (o == 0) = false := beq_eq_false_iff_ne.2 o0
          go_wp2_with fail
          go_ret
          exact ⟨by rw [H4.out]; simp [tagEnd, o0], ((Stays.refl _ _).alloc _).trans K1⟩
      have kb1 : (k == 1) = false := beq_eq_false_iff_ne.2 k1
      by_cases k2 : k = 2
      · subst k2
        by_cases o0 : o = 0
        · subst o0
          go_wp2_with fail
          go_ret
          exact ⟨by rw [H4.out]; simp [tagEnd], ((Stays.refl _ _).alloc _).trans K1⟩
        · have ob : (o == 0) = false := beq_eq_false_iff_ne.2 o0
          go_wp2_with fail
          go_ret
          exact ⟨by rw [H4.out]; simp [tagEnd, o0], ((Stays.refl _ _).alloc _).trans K1⟩
      have kb2 : (k == 2) = false := beq_eq_false_iff_ne.2 k2
      obtain ⟨rfl, rfl, rfl, rfl, rfl, rfl, o0⟩ : k = 3 ∧ c = 0 ∧ n = 0 ∧ s = 0 ∧ d = 0 ∧ r = 0 ∧ 0 ≤ o := by
        rcases hd_.out with h | h | h
        · exact absurd h k1
        · exact absurd h k2
        · exact h
      have b1 : w1.cell? ⟨w.heap.size, 1, none⟩ = some (.int .i64 0) := B.cell 1
      have b2 : w1.cell? ⟨w.heap.size, 2, none⟩ = some (.int .i64 0) := B.cell 2
      have b3 : w1.cell? ⟨w.heap.size, 3, none⟩ = some (.int .i64 0) := B.cell 3
      have b4 : w1.cell? ⟨w.heap.size, 4, none⟩ = some (.int .i64 0) := B.cell 4
      have b5 : w1.cell? ⟨w.heap.size, 5, none⟩ = some (.int .i64 0) := B.cell 5
      have z0 := Z1 0 (by omega)
      have z1 := Z1 1 (by omega)
      have z2 := Z1 2 (by omega)
      have z3 := Z1 3 (by omega)
      have z4 := Z1 4 (by omega)
      by_cases o1 : o < 1048576
      · go_wp2_with fail
        first | go_region_with (first | (go_at_call 246; (with_reducible refine (marks_x _ _ _ _ _ _ _ _).mono ?_); (rintro _ w2 ⟨rfl, K2⟩); have B2 := Blk.stays (Blk.drew B) K2 (fun x => x); have Z2 := NoneZ.stays (NoneZ.drew Z1) K2 (fun x => x); have y0 : w2.cell? ⟨w.heap.size, 0, none⟩ = some (.int .i64 3) := B2.cell 0; have y6 : w2.cell? ⟨w.heap.size, 6, none⟩ = some (.int .i64 o) := B2.cell 6; have x0 := Z2 0 (by omega); have x1 := Z2 1 (by omega); have x2 := Z2 2 (by omega); have x3 := Z2 3 (by omega); have x4 := Z2 4 (by omega))) | fail
        all_goals
          go_wp2_with fail
          go_ret
          exact ⟨by rw [H4.out]; simp [tagEnd, Act.put, *], (((Stays.refl _ _).alloc _).trans K1).trans ((Stays.refl _ _).drew.trans K2)⟩
      · have ob : decide (o < 1048576) = false := by simpa using o1
        have oz : ¬ o = 0 := by omega
        go_wp2_with fail
        first | go_region_with (first | (go_at_call 246; (with_reducible refine (marks_x _ _ _ _ _ _ _ _).mono ?_); (rintro _ w2 ⟨rfl, K2⟩); have B2 := Blk.stays (Blk.drew B) K2 (fun x => x); have Z2 := NoneZ.stays (NoneZ.drew Z1) K2 (fun x => x); have y0 : w2.cell? ⟨w.heap.size, 0, none⟩ = some (.int .i64 3) := B2.cell 0; have y6 : w2.cell? ⟨w.heap.size, 6, none⟩ = some (.int .i64 o) := B2.cell 6; have x0 := Z2 0 (by omega); have x1 := Z2 1 (by omega); have x2 := Z2 2 (by omega); have x3 := Z2 3 (by omega); have x4 := Z2 4 (by omega))) | fail
        all_goals
          go_wp2_with fail
          go_ret
          exact ⟨by rw [H4.out]; simp [tagEnd, Act.put]; omega, (((Stays.refl _ _).alloc _).trans K1).trans ((Stays.refl _ _).drew.trans K2)⟩
end Go.Proofs.YtadhdjldcpkfiaaGreatDoor
namespace Go.Proofs.YtadhdjldcpkfiaaGreatDoor
set_option linter.unusedVariables false
set_option linter.unusedSimpArgs false
open Go.RowKit
set_option maxRecDepth 100000
set_option maxHeartbeats 1600000

def tW : Nat → Int
  | 0 => 2
  | 1 => 1
  | 2 => 1
  | 3 => 1
  | 4 => 1
  | 5 => 1
  | 6 => 1
  | 7 => 24
  | _ => 0
def tS : Nat → Int
  | 0 => 0
  | 1 => 2
  | 2 => 3
  | 3 => 4
  | 4 => 5
  | 5 => 6
  | 6 => 7
  | 7 => 8
  | 8 => 32
  | _ => 0
/-- The word of the first pieces. -/
def tP (v : Nat → Int) : Nat → Int
  | 0 => 0
  | 1 => 0 + v 0
  | 2 => 0 + v 0 + v 1 * 4
  | 3 => 0 + v 0 + v 1 * 4 + v 2 * 8
  | 4 => 0 + v 0 + v 1 * 4 + v 2 * 8 + v 3 * 16
  | 5 => 0 + v 0 + v 1 * 4 + v 2 * 8 + v 3 * 16 + v 4 * 32
  | 6 => 0 + v 0 + v 1 * 4 + v 2 * 8 + v 3 * 16 + v 4 * 32 + v 5 * 64
  | 7 => 0 + v 0 + v 1 * 4 + v 2 * 8 + v 3 * 16 + v 4 * 32 + v 5 * 64 + v 6 * 128
  | 8 => 0 + v 0 + v 1 * 4 + v 2 * 8 + v 3 * 16 + v 4 * 32 + v 5 * 64 + v 6 * 128 + v 7 * 256
  | _ => 0

theorem total_c (b c : Nat) (w : World) (hw : ∀ i, i < 8 → w.cell? ⟨b, i, none⟩ = some (.int .i64 (tW i))) :
    Calls Tryz.prog 254 #[.slice (some ⟨b, 0, none⟩) 8 c] w fun e w' => e = .returned (.int .i64 32) ∧ w = w' := by
  have c0 : w.cell? ⟨b, 0, none⟩ = some (.int .i64 2) := hw 0 (by omega)
  have c1 : w.cell? ⟨b, 1, none⟩ = some (.int .i64 1) := hw 1 (by omega)
  have c2 : w.cell? ⟨b, 2, none⟩ = some (.int .i64 1) := hw 2 (by omega)
  have c3 : w.cell? ⟨b, 3, none⟩ = some (.int .i64 1) := hw 3 (by omega)
  have c4 : w.cell? ⟨b, 4, none⟩ = some (.int .i64 1) := hw 4 (by omega)
  have c5 : w.cell? ⟨b, 5, none⟩ = some (.int .i64 1) := hw 5 (by omega)
  have c6 : w.cell? ⟨b, 6, none⟩ = some (.int .i64 1) := hw 6 (by omega)
  have c7 : w.cell? ⟨b, 7, none⟩ = some (.int .i64 24) := hw 7 (by omega)
  clear hw
  go_enter Tryz.func254, Tryz.ntmps254
  go_wp2_with fail
  go_loop [3, 8] (fun s i => ∃ j : Nat, j ≤ 8 ∧ i = .int .i64 j ∧ s = .int .i64 (tS j)) (fun _ i => 8 - (intOf i).toNat)
  case atStart => exact ⟨0, by omega, rfl, rfl⟩
  case round =>
    obtain ⟨j, hj, rfl, rfl⟩ := hrel
    rcases (by omega : j = 0 ∨ j = 1 ∨ j = 2 ∨ j = 3 ∨ j = 4 ∨ j = 5 ∨ j = 6 ∨ j = 7 ∨ j = 8) with rfl | rfl | rfl | rfl | rfl | rfl | rfl | rfl | rfl
    · have hs : tS 0 = 0 := rfl
      go_wp2_with fail
      go_round
      case rel => exact ⟨1, by omega, rfl, rfl⟩
      case measure => simp [intOf]
    · have hs : tS 1 = 2 := rfl
      go_wp2_with fail
      go_round
      case rel => exact ⟨2, by omega, rfl, rfl⟩
      case measure => simp [intOf]
    · have hs : tS 2 = 3 := rfl
      go_wp2_with fail
      go_round
      case rel => exact ⟨3, by omega, rfl, rfl⟩
      case measure => simp [intOf]
    · have hs : tS 3 = 4 := rfl
      go_wp2_with fail
      go_round
      case rel => exact ⟨4, by omega, rfl, rfl⟩
      case measure => simp [intOf]
    · have hs : tS 4 = 5 := rfl
      go_wp2_with fail
      go_round
      case rel => exact ⟨5, by omega, rfl, rfl⟩
      case measure => simp [intOf]
    · have hs : tS 5 = 6 := rfl
      go_wp2_with fail
      go_round
      case rel => exact ⟨6, by omega, rfl, rfl⟩
      case measure => simp [intOf]
    · have hs : tS 6 = 7 := rfl
      go_wp2_with fail
      go_round
      case rel => exact ⟨7, by omega, rfl, rfl⟩
      case measure => simp [intOf]
    · have hs : tS 7 = 8 := rfl
      go_wp2_with fail
      go_round
      case rel => exact ⟨8, by omega, rfl, rfl⟩
      case measure => simp [intOf]
    · have hs : tS 8 = 32 := rfl
      go_wp2_with fail
      go_ret
      exact ⟨rfl, rfl⟩

theorem bits_or_add (x y D : Int) (i : Nat) (hD : D = ((2 ^ i : Nat) : Int)) (hx0 : 0 ≤ x) (hx : x < D) (hy0 : 0 ≤ y) (hy : y % D = 0) (hi : i ≤ 32) (hy1 : y < 4294967296) : bits .or .u32 x y = x + y := by
  have hc : bits .or .u32 x y = bits .or .u32 y x := by unfold bits; simp only; rw [BitVec.or_comm]
  have hp : (2 ^ i : Nat) ≤ 2 ^ 32 := Nat.pow_le_pow_right (by decide) hi
  have hD2 : D = 2 ^ i := by rw [hD]; norm_cast
  rw [hc, bits_join .u32 32 (by decide) (fun n h h' => by rw [IntKind.wrap_u32]; omega) i y x hy0 (by rw [← hD2]; exact hy) (by omega) hx0 (by rw [← hD2]; exact hx) (by omega)]
  omega
theorem bits_andNot_low (x m D : Int) (i : Nat) (hD : D = ((2 ^ i : Nat) : Int)) (hx0 : 0 ≤ x) (hx : x < D) (hm0 : 0 ≤ m) (hm : m % D = 0) (hi : i ≤ 32) (hm1 : m < 4294967296) : bits .andNot .u32 x m = x := by
  obtain ⟨a, rfl⟩ := Int.eq_ofNat_of_zero_le hx0
  obtain ⟨b, rfl⟩ := Int.eq_ofNat_of_zero_le hm0
  subst hD
  have ha : a < 2 ^ i := by exact_mod_cast hx
  have hb : b % 2 ^ i = 0 := by exact_mod_cast hm
  have hp : 2 ^ i ≤ 2 ^ 32 := Nat.pow_le_pow_right (by decide) hi
  have ha' : a < 2 ^ 32 := by omega
  have hb' : b < 2 ^ 32 := by omega
  have key : ((BitVec.ofNat 32 a) &&& ~~~(BitVec.ofNat 32 b)) = BitVec.ofNat 32 a := by
    apply BitVec.eq_of_getLsbD_eq
    intro k hk
    simp only [BitVec.getLsbD_and, BitVec.getLsbD_not, BitVec.getLsbD_ofNat, hk, decide_true, Bool.true_and]
    rcases Nat.lt_or_ge k i with h | h
    · have : b.testBit k = false := by
        have h2 : (b % 2 ^ i).testBit k = b.testBit k := by rw [Nat.testBit_mod_two_pow]; simp [h]
        rw [← h2, hb]; simp
      simp [this]
    · have : a.testBit k = false := Nat.testBit_lt_two_pow (Nat.lt_of_lt_of_le ha (Nat.pow_le_pow_right (by decide) h))
      simp [this]
  unfold bits
  simp only [BitVec.ofInt_natCast]
  change IntKind.u32.wrap (((BitVec.ofNat 32 a) &&& ~~~(BitVec.ofNat 32 b)).toNat : Int) = a
  rw [key]
  simp only [BitVec.toNat_ofNat]
  rw [Nat.mod_eq_of_lt ha', IntKind.wrap_u32]
  omega

theorem put_0_2 (x v : Int) (w : World) (x0 : 0 ≤ x) (x1 : x < 1) (v0 : 0 ≤ v) (v1 : v < 4) :
    Calls Tryz.prog 255 #[.int .u32 x, .int .i64 0, .int .i64 2, .int .u32 v] w fun e w' => e = .returned (.tuple #[.int .u32 (x + v), .int .i64 0]) ∧ w = w' := by
  have h1 : bits .andNot .u32 x 3 = x := bits_andNot_low x 3 1 0 (by decide) x0 x1 (by omega) (by omega) (by omega) (by omega)
  have h2 : bits .or .u32 x v = x + v := bits_or_add x v 1 0 (by decide) x0 x1 (by omega) (by omega) (by omega) (by omega)
  have h3 : v / 4 = 0 := by omega
  go_enter Tryz.func255, Tryz.ntmps255
  go_wp2
  go_ret2
  exact ⟨rfl, rfl⟩

theorem put_2_1 (x v : Int) (w : World) (x0 : 0 ≤ x) (x1 : x < 4) (v0 : 0 ≤ v) (v1 : v < 2) :
    Calls Tryz.prog 255 #[.int .u32 x, .int .i64 2, .int .i64 1, .int .u32 v] w fun e w' => e = .returned (.tuple #[.int .u32 (x + (v * 4)), .int .i64 0]) ∧ w = w' := by
  have h1 : bits .andNot .u32 x 4 = x := bits_andNot_low x 4 4 2 (by decide) x0 x1 (by omega) (by omega) (by omega) (by omega)
  have h2 : bits .or .u32 x (v * 4) = x + (v * 4) := bits_or_add x (v * 4) 4 2 (by decide) x0 x1 (by omega) (by omega) (by omega) (by omega)
  have h3 : v / 2 = 0 := by omega
  go_enter Tryz.func255, Tryz.ntmps255
  go_wp2
  go_ret2
  exact ⟨rfl, rfl⟩

theorem put_3_1 (x v : Int) (w : World) (x0 : 0 ≤ x) (x1 : x < 8) (v0 : 0 ≤ v) (v1 : v < 2) :
    Calls Tryz.prog 255 #[.int .u32 x, .int .i64 3, .int .i64 1, .int .u32 v] w fun e w' => e = .returned (.tuple #[.int .u32 (x + (v * 8)), .int .i64 0]) ∧ w = w' := by
  have h1 : bits .andNot .u32 x 8 = x := bits_andNot_low x 8 8 3 (by decide) x0 x1 (by omega) (by omega) (by omega) (by omega)
  have h2 : bits .or .u32 x (v * 8) = x + (v * 8) := bits_or_add x (v * 8) 8 3 (by decide) x0 x1 (by omega) (by omega) (by omega) (by omega)
  have h3 : v / 2 = 0 := by omega
  go_enter Tryz.func255, Tryz.ntmps255
  go_wp2
  go_ret2
  exact ⟨rfl, rfl⟩

theorem put_4_1 (x v : Int) (w : World) (x0 : 0 ≤ x) (x1 : x < 16) (v0 : 0 ≤ v) (v1 : v < 2) :
    Calls Tryz.prog 255 #[.int .u32 x, .int .i64 4, .int .i64 1, .int .u32 v] w fun e w' => e = .returned (.tuple #[.int .u32 (x + (v * 16)), .int .i64 0]) ∧ w = w' := by
  have h1 : bits .andNot .u32 x 16 = x := bits_andNot_low x 16 16 4 (by decide) x0 x1 (by omega) (by omega) (by omega) (by omega)
  have h2 : bits .or .u32 x (v * 16) = x + (v * 16) := bits_or_add x (v * 16) 16 4 (by decide) x0 x1 (by omega) (by omega) (by omega) (by omega)
  have h3 : v / 2 = 0 := by omega
  go_enter Tryz.func255, Tryz.ntmps255
  go_wp2
  go_ret2
  exact ⟨rfl, rfl⟩

theorem put_5_1 (x v : Int) (w : World) (x0 : 0 ≤ x) (x1 : x < 32) (v0 : 0 ≤ v) (v1 : v < 2) :
    Calls Tryz.prog 255 #[.int .u32 x, .int .i64 5, .int .i64 1, .int .u32 v] w fun e w' => e = .returned (.tuple #[.int .u32 (x + (v * 32)), .int .i64 0]) ∧ w = w' := by
  have h1 : bits .andNot .u32 x 32 = x := bits_andNot_low x 32 32 5 (by decide) x0 x1 (by omega) (by omega) (by omega) (by omega)
  have h2 : bits .or .u32 x (v * 32) = x + (v * 32) := bits_or_add x (v * 32) 32 5 (by decide) x0 x1 (by omega) (by omega) (by omega) (by omega)
  have h3 : v / 2 = 0 := by omega
  go_enter Tryz.func255, Tryz.ntmps255
  go_wp2
  go_ret2
  exact ⟨rfl, rfl⟩

theorem put_6_1 (x v : Int) (w : World) (x0 : 0 ≤ x) (x1 : x < 64) (v0 : 0 ≤ v) (v1 : v < 2) :
    Calls Tryz.prog 255 #[.int .u32 x, .int .i64 6, .int .i64 1, .int .u32 v] w fun e w' => e = .returned (.tuple #[.int .u32 (x + (v * 64)), .int .i64 0]) ∧ w = w' := by
  have h1 : bits .andNot .u32 x 64 = x := bits_andNot_low x 64 64 6 (by decide) x0 x1 (by omega) (by omega) (by omega) (by omega)
  have h2 : bits .or .u32 x (v * 64) = x + (v * 64) := bits_or_add x (v * 64) 64 6 (by decide) x0 x1 (by omega) (by omega) (by omega) (by omega)
  have h3 : v / 2 = 0 := by omega
  go_enter Tryz.func255, Tryz.ntmps255
  go_wp2
  go_ret2
  exact ⟨rfl, rfl⟩

theorem put_7_1 (x v : Int) (w : World) (x0 : 0 ≤ x) (x1 : x < 128) (v0 : 0 ≤ v) (v1 : v < 2) :
    Calls Tryz.prog 255 #[.int .u32 x, .int .i64 7, .int .i64 1, .int .u32 v] w fun e w' => e = .returned (.tuple #[.int .u32 (x + (v * 128)), .int .i64 0]) ∧ w = w' := by
  have h1 : bits .andNot .u32 x 128 = x := bits_andNot_low x 128 128 7 (by decide) x0 x1 (by omega) (by omega) (by omega) (by omega)
  have h2 : bits .or .u32 x (v * 128) = x + (v * 128) := bits_or_add x (v * 128) 128 7 (by decide) x0 x1 (by omega) (by omega) (by omega) (by omega)
  have h3 : v / 2 = 0 := by omega
  go_enter Tryz.func255, Tryz.ntmps255
  go_wp2
  go_ret2
  exact ⟨rfl, rfl⟩

theorem put_8_24 (x v : Int) (w : World) (x0 : 0 ≤ x) (x1 : x < 256) (v0 : 0 ≤ v) (v1 : v < 16777216) :
    Calls Tryz.prog 255 #[.int .u32 x, .int .i64 8, .int .i64 24, .int .u32 v] w fun e w' => e = .returned (.tuple #[.int .u32 (x + (v * 256)), .int .i64 0]) ∧ w = w' := by
  have h1 : bits .andNot .u32 x 4294967040 = x := bits_andNot_low x 4294967040 256 8 (by decide) x0 x1 (by omega) (by omega) (by omega) (by omega)
  have h2 : bits .or .u32 x (v * 256) = x + (v * 256) := bits_or_add x (v * 256) 256 8 (by decide) x0 x1 (by omega) (by omega) (by omega) (by omega)
  have h3 : v / 16777216 = 0 := by omega
  go_enter Tryz.func255, Tryz.ntmps255
  go_wp2
  go_ret2
  exact ⟨rfl, rfl⟩

theorem Join_c (a b ca cb : Nat) (v : Nat → Int) (w : World) (hv : ∀ i, i < 8 → w.cell? ⟨a, i, none⟩ = some (.int .u32 (v i))) (hw : ∀ i, i < 8 → w.cell? ⟨b, i, none⟩ = some (.int .i64 (tW i)))
    (h0 : ∀ i, 0 ≤ v i) (b0 : v 0 < 4) (b1 : v 1 < 2) (b2 : v 2 < 2) (b3 : v 3 < 2) (b4 : v 4 < 2) (b5 : v 5 < 2) (b6 : v 6 < 2) (b7 : v 7 < 16777216) :
    Calls Tryz.prog 247 #[.slice (some ⟨a, 0, none⟩) 8 ca, .slice (some ⟨b, 0, none⟩) 8 cb] w fun e w' => e = .returned (.tuple #[.int .u32 (tP v 8), .int .i64 0]) ∧ w = w' := by
  have c0 : w.cell? ⟨b, 0, none⟩ = some (.int .i64 2) := hw 0 (by omega)
  have d0 : w.cell? ⟨a, 0, none⟩ = some (.int .u32 (v 0)) := hv 0 (by omega)
  have n0 := h0 0
  have c1 : w.cell? ⟨b, 1, none⟩ = some (.int .i64 1) := hw 1 (by omega)
  have d1 : w.cell? ⟨a, 1, none⟩ = some (.int .u32 (v 1)) := hv 1 (by omega)
  have n1 := h0 1
  have c2 : w.cell? ⟨b, 2, none⟩ = some (.int .i64 1) := hw 2 (by omega)
  have d2 : w.cell? ⟨a, 2, none⟩ = some (.int .u32 (v 2)) := hv 2 (by omega)
  have n2 := h0 2
  have c3 : w.cell? ⟨b, 3, none⟩ = some (.int .i64 1) := hw 3 (by omega)
  have d3 : w.cell? ⟨a, 3, none⟩ = some (.int .u32 (v 3)) := hv 3 (by omega)
  have n3 := h0 3
  have c4 : w.cell? ⟨b, 4, none⟩ = some (.int .i64 1) := hw 4 (by omega)
  have d4 : w.cell? ⟨a, 4, none⟩ = some (.int .u32 (v 4)) := hv 4 (by omega)
  have n4 := h0 4
  have c5 : w.cell? ⟨b, 5, none⟩ = some (.int .i64 1) := hw 5 (by omega)
  have d5 : w.cell? ⟨a, 5, none⟩ = some (.int .u32 (v 5)) := hv 5 (by omega)
  have n5 := h0 5
  have c6 : w.cell? ⟨b, 6, none⟩ = some (.int .i64 1) := hw 6 (by omega)
  have d6 : w.cell? ⟨a, 6, none⟩ = some (.int .u32 (v 6)) := hv 6 (by omega)
  have n6 := h0 6
  have c7 : w.cell? ⟨b, 7, none⟩ = some (.int .i64 24) := hw 7 (by omega)
  have d7 : w.cell? ⟨a, 7, none⟩ = some (.int .u32 (v 7)) := hv 7 (by omega)
  have n7 := h0 7
  have HW := Hd.mk hw
  have p0 : tP v 0 = 0 := rfl
  have p1 : tP v 1 = tP v 0 + v 0 := rfl
  have p2 : tP v 2 = tP v 1 + v 1 * 4 := rfl
  have p3 : tP v 3 = tP v 2 + v 2 * 8 := rfl
  have p4 : tP v 4 = tP v 3 + v 3 * 16 := rfl
  have p5 : tP v 5 = tP v 4 + v 4 * 32 := rfl
  have p6 : tP v 6 = tP v 5 + v 5 * 64 := rfl
  have p7 : tP v 7 = tP v 6 + v 6 * 128 := rfl
  have p8 : tP v 8 = tP v 7 + v 7 * 256 := rfl
  have q0 : 0 ≤ tP v 0 ∧ tP v 0 < 1 := by omega
  have q1 : 0 ≤ tP v 1 ∧ tP v 1 < 4 := by omega
  have q2 : 0 ≤ tP v 2 ∧ tP v 2 < 8 := by omega
  have q3 : 0 ≤ tP v 3 ∧ tP v 3 < 16 := by omega
  have q4 : 0 ≤ tP v 4 ∧ tP v 4 < 32 := by omega
  have q5 : 0 ≤ tP v 5 ∧ tP v 5 < 64 := by omega
  have q6 : 0 ≤ tP v 6 ∧ tP v 6 < 128 := by omega
  have q7 : 0 ≤ tP v 7 ∧ tP v 7 < 256 := by omega
  have q8 : 0 ≤ tP v 8 ∧ tP v 8 < 4294967296 := by omega
  have HP := Hd.mk (And.intro p0 (And.intro p1 (And.intro p2 (And.intro p3 (And.intro p4 (And.intro p5 (And.intro p6 (And.intro p7 p8))))))))
  clear hv hw h0 p0 p1 p2 p3 p4 p5 p6 p7 p8
  go_enter Tryz.func247, Tryz.ntmps247
  go_wp2_with fail
  refine (total_c _ _ _ HW.out).mono ?_
  rintro _ _ ⟨rfl, rfl⟩
  go_wp2_with fail
  go_loop [6, 7, 24] (fun x s i => ∃ j : Nat, j ≤ 8 ∧ i = .int .i64 j ∧ s = .int .i64 (tS j) ∧ x = .int .u32 (tP v j)) (fun _ _ i => 8 - (intOf i).toNat)
  case atStart => exact ⟨0, by omega, rfl, rfl, rfl⟩
  case round =>
    obtain ⟨j, hj, rfl, rfl, rfl⟩ := hrel
    rcases (by omega : j = 0 ∨ j = 1 ∨ j = 2 ∨ j = 3 ∨ j = 4 ∨ j = 5 ∨ j = 6 ∨ j = 7 ∨ j = 8) with rfl | rfl | rfl | rfl | rfl | rfl | rfl | rfl | rfl
    · have hs : tS 0 = 0 := rfl
      obtain ⟨y0, y1⟩ := q0
      go_wp2_with fail
      refine (put_0_2 _ _ _ y0 y1 n0 b0).mono ?_
      rintro _ _ ⟨rfl, rfl⟩
      go_wp2_with fail
      go_round
      case rel => exact ⟨1, by omega, rfl, rfl, rfl⟩
      case measure => simp [intOf]
    · have hs : tS 1 = 2 := rfl
      obtain ⟨y0, y1⟩ := q1
      go_wp2_with fail
      refine (put_2_1 _ _ _ y0 y1 n1 b1).mono ?_
      rintro _ _ ⟨rfl, rfl⟩
      go_wp2_with fail
      go_round
      case rel => exact ⟨2, by omega, rfl, rfl, rfl⟩
      case measure => simp [intOf]
    · have hs : tS 2 = 3 := rfl
      obtain ⟨y0, y1⟩ := q2
      go_wp2_with fail
      refine (put_3_1 _ _ _ y0 y1 n2 b2).mono ?_
      rintro _ _ ⟨rfl, rfl⟩
      go_wp2_with fail
      go_round
      case rel => exact ⟨3, by omega, rfl, rfl, rfl⟩
      case measure => simp [intOf]
    · have hs : tS 3 = 4 := rfl
      obtain ⟨y0, y1⟩ := q3
      go_wp2_with fail
      refine (put_4_1 _ _ _ y0 y1 n3 b3).mono ?_
      rintro _ _ ⟨rfl, rfl⟩
      go_wp2_with fail
      go_round
      case rel => exact ⟨4, by omega, rfl, rfl, rfl⟩
      case measure => simp [intOf]
    · have hs : tS 4 = 5 := rfl
      obtain ⟨y0, y1⟩ := q4
      go_wp2_with fail
      refine (put_5_1 _ _ _ y0 y1 n4 b4).mono ?_
      rintro _ _ ⟨rfl, rfl⟩
      go_wp2_with fail
      go_round
      case rel => exact ⟨5, by omega, rfl, rfl, rfl⟩
      case measure => simp [intOf]
    · have hs : tS 5 = 6 := rfl
      obtain ⟨y0, y1⟩ := q5
      go_wp2_with fail
      refine (put_6_1 _ _ _ y0 y1 n5 b5).mono ?_
      rintro _ _ ⟨rfl, rfl⟩
      go_wp2_with fail
      go_round
      case rel => exact ⟨6, by omega, rfl, rfl, rfl⟩
      case measure => simp [intOf]
    · have hs : tS 6 = 7 := rfl
      obtain ⟨y0, y1⟩ := q6
      go_wp2_with fail
      refine (put_7_1 _ _ _ y0 y1 n6 b6).mono ?_
      rintro _ _ ⟨rfl, rfl⟩
      go_wp2_with fail
      go_round
      case rel => exact ⟨7, by omega, rfl, rfl, rfl⟩
      case measure => simp [intOf]
    · have hs : tS 7 = 8 := rfl
      obtain ⟨y0, y1⟩ := q7
      go_wp2_with fail
      refine (put_8_24 _ _ _ y0 y1 n7 b7).mono ?_
      rintro _ _ ⟨rfl, rfl⟩
      go_wp2_with fail
      go_round
      case rel => exact ⟨8, by omega, rfl, rfl, rfl⟩
      case measure => simp [intOf]
    · go_wp2_with fail
      go_ret2
      exact ⟨rfl, rfl⟩

end Go.Proofs.YtadhdjldcpkfiaaGreatDoor
namespace Go.Proofs.YtadhdjldcpkfiaaGreatDoor
set_option linter.unusedVariables false
set_option linter.unusedSimpArgs false
open Go.RowKit
set_option maxRecDepth 100000
set_option maxHeartbeats 3200000

def Tag.piece (t : Tag) : Nat → Int
  | 0 => t.kind
  | 1 => t.color
  | 2 => t.count
  | 3 => t.shade
  | 4 => t.dead
  | 5 => t.ring
  | 7 => t.owner
  | _ => 0
def Tag.row (t : Tag) (n : Nat) : List Value := (List.range n).map fun q => Value.int .u32 (t.piece q)
theorem Tag.row_snoc (t : Tag) (n : Nat) : t.row (n + 1) = t.row n ++ [Value.int .u32 (t.piece n)] := by
  simp [Tag.row, List.range_succ]
theorem infoU : (Tryz.prog.info? 51).map (fun i => (i.zero, i.size, i.bytes)) = some (some (.int .u32 0), 1, 4) := by kernel_rfl
/-- What Pack answers. -/
def tagPack (t : Tag) : Int × Int := if tagRight t = true then (tagWord t, 0) else (0, 2)
theorem right_bits {t : Tag} (h : tagRight t = true) (hu : t.Used) (ho : 0 ≤ t.owner ∧ t.owner < 16777216) : ∀ i, 0 ≤ t.piece i := by
  intro i
  have hm := right_marks h
  have b (j : Nat) (hj : j < 5) : 0 ≤ t.mk_ j := by rcases bit01_pos (hm j hj) with e | e <;> omega
  have b0 := b 0 (by omega)
  have b1 := b 1 (by omega)
  have b2 := b 2 (by omega)
  have b3 := b 3 (by omega)
  have b4 := b 4 (by omega)
  simp only [Tag.mk_] at b0 b1 b2 b3 b4
  unfold Tag.Used at hu
  unfold Tag.piece
  split <;> omega

theorem Pack_c (t : Tag) (w : World) (Z : NoneZ w) (hu : t.Used) (ho : 0 ≤ t.owner ∧ t.owner < 16777216) :
    Calls Tryz.prog 225 #[.agg #[.int .i64 t.kind, .int .i64 t.color, .int .i64 t.count, .int .i64 t.shade, .int .i64 t.dead, .int .i64 t.ring, .int .i64 t.owner]] w (Made w (.tuple #[.int .u32 (tagPack t).1, .int .i64 (tagPack t).2])) := by
  obtain ⟨i0, hi, hz0, hz1, hz2⟩ := info_parts infoU
  by_cases hr : tagRight t = true
  · have e1 : (tagPack t).1 = tagWord t := by unfold tagPack; rw [if_pos hr]
    have e2 : (tagPack t).2 = 0 := by unfold tagPack; rw [if_pos hr]
    rw [e1, e2]
    clear e1 e2
    have hm := right_marks hr
    have hb := right_bits hr hu ho
    have B0 (j : Nat) (hj : j < 5) : 0 ≤ t.mk_ j ∧ t.mk_ j ≤ 1 := by rcases bit01_pos (hm j hj) with e | e <;> omega
    obtain ⟨m0, m0'⟩ := B0 0 (by omega)
    obtain ⟨m1, m1'⟩ := B0 1 (by omega)
    obtain ⟨m2, m2'⟩ := B0 2 (by omega)
    obtain ⟨m3, m3'⟩ := B0 3 (by omega)
    obtain ⟨m4, m4'⟩ := B0 4 (by omega)
    have hk : 0 ≤ t.kind ∧ t.kind ≤ 3 := by unfold Tag.Used at hu; omega
    have HR := Right_c t (w.alloc (.cells #[.int .i64 t.kind, .int .i64 t.color, .int .i64 t.count, .int .i64 t.shade, .int .i64 t.dead, .int .i64 t.ring, .int .i64 t.owner] 149)) (Z.alloc _) hu
    rw [hr] at HR
    have HR' := Hd.mk HR
    have HB := Hd.mk hb
    have BT := Blk.new w 149 #[.int .i64 t.kind, .int .i64 t.color, .int .i64 t.count, .int .i64 t.shade, .int .i64 t.dead, .int .i64 t.ring, .int .i64 t.owner]
    have hw8 : tP t.piece 8 = tagWord t := by simp only [tP, Tag.piece, tagWord]; omega
    have HW8 := Hd.mk hw8
    clear HR hr hm hb B0 hu Z hw8
    obtain ⟨k, c, n, s, d, r, o⟩ := t
    simp only [Tag.mk_] at m0 m0' m1 m1' m2 m2' m3 m3' m4 m4' hk ho
    obtain ⟨k0, k1⟩ := hk
    obtain ⟨o0, o1⟩ := ho
    go_enter Tryz.func225, Tryz.ntmps225
    go_wp2_with fail
    refine HR'.out.mono ?_
    rintro _ w1 ⟨rfl, K1⟩
    clear HR'
    replace BT := BT.stays K1 (fun x => x)
    have t0 : w1.cell? ⟨w.heap.size, 0, none⟩ = some (.int .i64 k) := BT.cell 0
    have BT1 := BT.alloc (.cells #[.int .u32 k] 51)
    have s0 : (w1.alloc (.cells #[.int .u32 k] 51)).cell? ⟨w.heap.size, 0, none⟩ = some (.int .i64 k) := BT1.cell 0
    have s1 : (w1.alloc (.cells #[.int .u32 k] 51)).cell? ⟨w.heap.size, 1, none⟩ = some (.int .i64 c) := BT1.cell 1
    have s2 : (w1.alloc (.cells #[.int .u32 k] 51)).cell? ⟨w.heap.size, 2, none⟩ = some (.int .i64 n) := BT1.cell 2
    have s3 : (w1.alloc (.cells #[.int .u32 k] 51)).cell? ⟨w.heap.size, 3, none⟩ = some (.int .i64 s) := BT1.cell 3
    have s4 : (w1.alloc (.cells #[.int .u32 k] 51)).cell? ⟨w.heap.size, 4, none⟩ = some (.int .i64 d) := BT1.cell 4
    have s5 : (w1.alloc (.cells #[.int .u32 k] 51)).cell? ⟨w.heap.size, 5, none⟩ = some (.int .i64 r) := BT1.cell 5
    have s6 : (w1.alloc (.cells #[.int .u32 k] 51)).cell? ⟨w.heap.size, 6, none⟩ = some (.int .i64 o) := BT1.cell 6
    have hl : (w1.alloc (.cells #[.int .u32 k] 51)).ownsRow w1.heap.size 51 1 (.slice (some ⟨w1.heap.size, 0, none⟩) 1 1) 1 ((⟨k, c, n, s, d, r, o⟩ : Tag).row 1) :=
      World.ownsRow_lit w1 #[.int .u32 k] 1 (Nat.le_refl _) (by decide) rfl
    have HL := Hd.mk hl
    clear hl BT
    go_wp2_with fail
    refine (marks_x _ _ _ _ _ _ _ _).mono ?_
    rintro _ w2 ⟨rfl, K2⟩
    clear t0 s0 s1 s2 s3 s4 s5 s6
    have i1 : ∀ w, (Instr.index 209 (.agg #[.int .i64 c, .int .i64 n, .int .i64 s, .int .i64 d, .int .i64 r]) (.int .i64 0)).run Tryz.prog w = .ok (.int .i64 c) w := fun _ => by kernel_rfl
    have i2 : ∀ w, (Instr.index 209 (.agg #[.int .i64 c, .int .i64 n, .int .i64 s, .int .i64 d, .int .i64 r]) (.int .i64 1)).run Tryz.prog w = .ok (.int .i64 n) w := fun _ => by kernel_rfl
    have i3 : ∀ w, (Instr.index 209 (.agg #[.int .i64 c, .int .i64 n, .int .i64 s, .int .i64 d, .int .i64 r]) (.int .i64 2)).run Tryz.prog w = .ok (.int .i64 s) w := fun _ => by kernel_rfl
    have i4 : ∀ w, (Instr.index 209 (.agg #[.int .i64 c, .int .i64 n, .int .i64 s, .int .i64 d, .int .i64 r]) (.int .i64 3)).run Tryz.prog w = .ok (.int .i64 d) w := fun _ => by kernel_rfl
    have i5 : ∀ w, (Instr.index 209 (.agg #[.int .i64 c, .int .i64 n, .int .i64 s, .int .i64 d, .int .i64 r]) (.int .i64 4)).run Tryz.prog w = .ok (.int .i64 r) w := fun _ => by kernel_rfl
    have hl2 := HL.out.kept (row := none) ⟨K2.os, K2.tape, K2.output, K2.size, fun q hq _ => K2.block q hq (fun x => x)⟩ (Or.inr (by simp [Value.ownBlock]))
    have HL2 := Hd.mk hl2
    clear hl2 HL
    have BT2 := BT1.stays K2 (fun x => x)
    have hsz : w1.heap.size + 1 ≤ w2.heap.size := by have := K2.size; simpa using this
    have hsz0 : w.heap.size + 1 ≤ w1.heap.size := by have := K1.size; simpa using this
    go_wp2_with fail
    go_loopw [4, 16] (fun l i wr => ∃ j : Nat, j ≤ 5 ∧ i = .int .i64 j ∧ wr.ownsRow w1.heap.size 51 1 l (1 + j) ((⟨k, c, n, s, d, r, o⟩ : Tag).row (1 + j)) ∧ Below w1.heap.size w2 wr) (fun _ i _ => 5 - (intOf i).toNat)
    case atStart => exact ⟨0, by omega, rfl, HL2.out, Below.refl _ _⟩
    case round =>
      obtain ⟨j, hj, rfl, hown, hbel⟩ := hrel
      have hsz3 : w2.heap.size ≤ wr.heap.size := hbel.size
      have BTr : Blk wr w.heap.size 149 #[.int .i64 k, .int .i64 c, .int .i64 n, .int .i64 s, .int .i64 d, .int .i64 r, .int .i64 o] := (hbel.block _ (by omega)).trans BT2
      have t6 : wr.cell? ⟨w.heap.size, 6, none⟩ = some (.int .i64 o) := BTr.cell 6
      have HO := Hd.mk hown
      have HBE := Hd.mk hbel
      have hbel' : w1.heap.size ≤ wr.heap.size + 1 := by omega
      clear hown hbel HL2 BT2 BT1 BTr
      rcases (by omega : j = 0 ∨ j = 1 ∨ j = 2 ∨ j = 3 ∨ j = 4 ∨ j = 5) with rfl | rfl | rfl | rfl | rfl | rfl
      · have hown := HO.out
        go_wp2_with (at_builtin; refine wpList_append_own _ rfl (.tmp 19) (.tmp 22) 69 rfl w1.heap.size 51 i0 (.int .u32 0) 1 4 Tryz.underlying69 hi hz0 hz1 hz2 rfl (by decide) _ (1 + 0) _ rfl (hown.alloc _) ⟨wr.heap.size, 0, none⟩ 1 1 [.int .u32 c] rfl rfl (World.news_of_block (cs := #[.int .u32 c]) (t := 51) (fr := (0, 0)) (heap_alloc_new wr _)) (by simp [Value.oneCell']) (by unfold maxLen; omega) (by omega) (by simpa using hbel') ?_; intro l' w3 hown3 hgrow _)
        have hb3 : Below w1.heap.size w2 w3 := (HBE.out.alloc (by omega) _).grown hgrow (by simp; omega) (fun q hq => (hown.lt q hq).1)
        have hr3 : w3.ownsRow w1.heap.size 51 1 l' (1 + 1) ((⟨k, c, n, s, d, r, o⟩ : Tag).row (1 + 1)) := hown3
        have HR3 := Hd.mk hr3
        have HB3 := Hd.mk hb3
        clear hown hown3 hgrow hr3 hb3
        go_wp2_with fail
        go_roundw
        case rel => exact ⟨1, by omega, rfl, HR3.out, HB3.out⟩
        case measure => simp [intOf]
      · have hown := HO.out
        go_wp2_with (at_builtin; refine wpList_append_own _ rfl (.tmp 19) (.tmp 22) 69 rfl w1.heap.size 51 i0 (.int .u32 0) 1 4 Tryz.underlying69 hi hz0 hz1 hz2 rfl (by decide) _ (1 + 1) _ rfl (hown.alloc _) ⟨wr.heap.size, 0, none⟩ 1 1 [.int .u32 n] rfl rfl (World.news_of_block (cs := #[.int .u32 n]) (t := 51) (fr := (0, 0)) (heap_alloc_new wr _)) (by simp [Value.oneCell']) (by unfold maxLen; omega) (by omega) (by simpa using hbel') ?_; intro l' w3 hown3 hgrow _)
        have hb3 : Below w1.heap.size w2 w3 := (HBE.out.alloc (by omega) _).grown hgrow (by simp; omega) (fun q hq => (hown.lt q hq).1)
        have hr3 : w3.ownsRow w1.heap.size 51 1 l' (1 + 2) ((⟨k, c, n, s, d, r, o⟩ : Tag).row (1 + 2)) := hown3
        have HR3 := Hd.mk hr3
        have HB3 := Hd.mk hb3
        clear hown hown3 hgrow hr3 hb3
        go_wp2_with fail
        go_roundw
        case rel => exact ⟨2, by omega, rfl, HR3.out, HB3.out⟩
        case measure => simp [intOf]
      · have hown := HO.out
        go_wp2_with (at_builtin; refine wpList_append_own _ rfl (.tmp 19) (.tmp 22) 69 rfl w1.heap.size 51 i0 (.int .u32 0) 1 4 Tryz.underlying69 hi hz0 hz1 hz2 rfl (by decide) _ (1 + 2) _ rfl (hown.alloc _) ⟨wr.heap.size, 0, none⟩ 1 1 [.int .u32 s] rfl rfl (World.news_of_block (cs := #[.int .u32 s]) (t := 51) (fr := (0, 0)) (heap_alloc_new wr _)) (by simp [Value.oneCell']) (by unfold maxLen; omega) (by omega) (by simpa using hbel') ?_; intro l' w3 hown3 hgrow _)
        have hb3 : Below w1.heap.size w2 w3 := (HBE.out.alloc (by omega) _).grown hgrow (by simp; omega) (fun q hq => (hown.lt q hq).1)
        have hr3 : w3.ownsRow w1.heap.size 51 1 l' (1 + 3) ((⟨k, c, n, s, d, r, o⟩ : Tag).row (1 + 3)) := hown3
        have HR3 := Hd.mk hr3
        have HB3 := Hd.mk hb3
        clear hown hown3 hgrow hr3 hb3
        go_wp2_with fail
        go_roundw
        case rel => exact ⟨3, by omega, rfl, HR3.out, HB3.out⟩
        case measure => simp [intOf]
      · have hown := HO.out
        go_wp2_with (at_builtin; refine wpList_append_own _ rfl (.tmp 19) (.tmp 22) 69 rfl w1.heap.size 51 i0 (.int .u32 0) 1 4 Tryz.underlying69 hi hz0 hz1 hz2 rfl (by decide) _ (1 + 3) _ rfl (hown.alloc _) ⟨wr.heap.size, 0, none⟩ 1 1 [.int .u32 d] rfl rfl (World.news_of_block (cs := #[.int .u32 d]) (t := 51) (fr := (0, 0)) (heap_alloc_new wr _)) (by simp [Value.oneCell']) (by unfold maxLen; omega) (by omega) (by simpa using hbel') ?_; intro l' w3 hown3 hgrow _)
        have hb3 : Below w1.heap.size w2 w3 := (HBE.out.alloc (by omega) _).grown hgrow (by simp; omega) (fun q hq => (hown.lt q hq).1)
        have hr3 : w3.ownsRow w1.heap.size 51 1 l' (1 + 4) ((⟨k, c, n, s, d, r, o⟩ : Tag).row (1 + 4)) := hown3
        have HR3 := Hd.mk hr3
        have HB3 := Hd.mk hb3
        clear hown hown3 hgrow hr3 hb3
        go_wp2_with fail
        go_roundw
        case rel => exact ⟨4, by omega, rfl, HR3.out, HB3.out⟩
        case measure => simp [intOf]
      · have hown := HO.out
        go_wp2_with (at_builtin; refine wpList_append_own _ rfl (.tmp 19) (.tmp 22) 69 rfl w1.heap.size 51 i0 (.int .u32 0) 1 4 Tryz.underlying69 hi hz0 hz1 hz2 rfl (by decide) _ (1 + 4) _ rfl (hown.alloc _) ⟨wr.heap.size, 0, none⟩ 1 1 [.int .u32 r] rfl rfl (World.news_of_block (cs := #[.int .u32 r]) (t := 51) (fr := (0, 0)) (heap_alloc_new wr _)) (by simp [Value.oneCell']) (by unfold maxLen; omega) (by omega) (by simpa using hbel') ?_; intro l' w3 hown3 hgrow _)
        have hb3 : Below w1.heap.size w2 w3 := (HBE.out.alloc (by omega) _).grown hgrow (by simp; omega) (fun q hq => (hown.lt q hq).1)
        have hr3 : w3.ownsRow w1.heap.size 51 1 l' (1 + 5) ((⟨k, c, n, s, d, r, o⟩ : Tag).row (1 + 5)) := hown3
        have HR3 := Hd.mk hr3
        have HB3 := Hd.mk hb3
        clear hown hown3 hgrow hr3 hb3
        go_wp2_with fail
        go_roundw
        case rel => exact ⟨5, by omega, rfl, HR3.out, HB3.out⟩
        case measure => simp [intOf]
      · have hown := HO.out
        go_wp2_with (at_builtin; refine wpList_append_own _ rfl (.tmp 25) (.tmp 29) 69 rfl w1.heap.size 51 i0 (.int .u32 0) 1 4 Tryz.underlying69 hi hz0 hz1 hz2 rfl (by decide) _ (1 + 5) _ rfl (hown.alloc _) ⟨wr.heap.size, 0, none⟩ 2 2 [.int .u32 0, .int .u32 o] rfl rfl (World.news_of_block (cs := #[.int .u32 0, .int .u32 o]) (t := 51) (fr := (0, 0)) (heap_alloc_new wr _)) (by simp [Value.oneCell']) (by unfold maxLen; omega) (by omega) (by simpa using hbel') ?_; intro l' w3 hown3 hgrow _)
        have hb3 : Below w1.heap.size w2 w3 := (HBE.out.alloc (by omega) _).grown hgrow (by simp; omega) (fun q hq => (hown.lt q hq).1)
        have hr3 : w3.ownsRow w1.heap.size 51 1 l' 8 ((⟨k, c, n, s, d, r, o⟩ : Tag).row 8) := hown3
        obtain ⟨g, cap, rfl, hg0, hg1⟩ := hr3.form (by omega)
        have HR3 := Hd.mk (hr3.alloc (.cells #[.int .i64 2, .int .i64 1, .int .i64 1, .int .i64 1, .int .i64 1, .int .i64 1, .int .i64 1, .int .i64 24] 3))
        have HB3 := Hd.mk hb3
        clear hown hown3 hgrow hr3 hb3
        go_wp2_with fail
        refine (Join_c g w3.heap.size cap 8 ((⟨k, c, n, s, d, r, o⟩ : Tag).piece) _ (fun i hi => ?_) (fun i hi => ?_) HB.out ?_ ?_ ?_ ?_ ?_ ?_ ?_ ?_).mono ?_
        · rw [HR3.out.cellAt i (by omega)]
          simp [Tag.row, hi]
        · rw [(Blk.new w3 _ _).cell i]
          rcases (by omega : i = 0 ∨ i = 1 ∨ i = 2 ∨ i = 3 ∨ i = 4 ∨ i = 5 ∨ i = 6 ∨ i = 7) with rfl | rfl | rfl | rfl | rfl | rfl | rfl | rfl <;> rfl
        all_goals first | (simp only [Tag.piece]; omega) | skip
        rintro _ _ ⟨rfl, rfl⟩
        rw [HW8.out]
        go_wp2_with fail
        go_ret2
        refine ⟨rfl, ?_⟩
        have hb := HB3.out
        refine Stays.alloc ?_ _
        refine Stays.of_below ?_
        exact (((((Below.refl w.heap.size w).alloc (Nat.le_refl _) _).trans (K1.below.mono (by simp))).alloc (by omega) _).trans (K2.below.mono (by simp; omega))).trans (hb.mono (by omega))
  · have hf : tagRight t = false := by simpa using hr
    have e1 : (tagPack t).1 = 0 := by unfold tagPack; rw [if_neg hr]
    have e2 : (tagPack t).2 = 2 := by unfold tagPack; rw [if_neg hr]
    rw [e1, e2]
    clear e1 e2
    have HR := Right_c t (w.alloc (.cells #[.int .i64 t.kind, .int .i64 t.color, .int .i64 t.count, .int .i64 t.shade, .int .i64 t.dead, .int .i64 t.ring, .int .i64 t.owner] 149)) (Z.alloc _) hu
    rw [hf] at HR
    have HR' := Hd.mk HR
    clear HR hr hf hu Z
    obtain ⟨k, c, n, s, d, r, o⟩ := t
    go_enter Tryz.func225, Tryz.ntmps225
    go_wp2_with fail
    refine HR'.out.mono ?_
    rintro _ w1 ⟨rfl, K1⟩
    clear HR'
    go_wp2_with fail
    go_ret2
    exact ⟨rfl, ((Stays.refl _ _).alloc _).trans K1⟩
end Go.Proofs.YtadhdjldcpkfiaaGreatDoor
