/- Tags: what a block's first word says, as numbers. Nothing is asked. -/
import Derived.Test.YtadhdjldcpkfiaaGreatDoorC2
namespace Go.Proofs.YtadhdjldcpkfiaaGreatDoor
set_option linter.unusedVariables false
set_option linter.unusedSimpArgs false
open Go.RowKit
set_option maxRecDepth 100000
set_option maxHeartbeats 800000

structure Tag where
  kind : Int
  color : Int
  count : Int
  shade : Int
  dead : Int
  ring : Int
  owner : Int
deriving DecidableEq
def bit01 (x : Int) : Bool := decide (x = 0) || decide (x = 1)
def tagRight (t : Tag) : Bool :=
  bit01 t.color && bit01 t.count && bit01 t.shade && bit01 t.dead && bit01 t.ring &&
  (if t.kind = 1 then decide (t.owner = 0) else if t.kind = 2 then decide (t.owner = 0) else
   if t.kind = 0 then decide (t.color = 0) && decide (t.count = 0) && decide (t.shade = 0) && decide (t.dead = 0) && decide (t.ring = 0) && decide (t.owner = 0) else
   if t.kind = 3 then decide (t.color = 0) && decide (t.count = 0) && decide (t.shade = 0) && decide (t.dead = 0) && decide (t.ring = 0) && decide (0 ≤ t.owner) && decide (t.owner < 1048576) else false)
def tagWord (t : Tag) : Int := t.kind + 4 * t.color + 8 * t.count + 16 * t.shade + 32 * t.dead + 64 * t.ring + 256 * t.owner
def tagOf (v : Int) : Tag := ⟨v % 4, v / 4 % 2, v / 8 % 2, v / 16 % 2, v / 32 % 2, v / 64 % 2, v / 256 % 16777216⟩
def Tag.val (t : Tag) : Value := .agg #[.int .i64 t.kind, .int .i64 t.color, .int .i64 t.count, .int .i64 t.shade, .int .i64 t.dead, .int .i64 t.ring, .int .i64 t.owner]

/-! ### Get, at the seven pieces of a tag -/
theorem land_div (v j n : Nat) : (v &&& ((2 ^ n - 1) * 2 ^ j)) / 2 ^ j = v / 2 ^ j % 2 ^ n := by
  rw [← Nat.shiftLeft_eq, ← Nat.shiftRight_eq_div_pow, Nat.shiftRight_and_distrib, Nat.shiftLeft_shiftRight, Nat.and_two_pow_sub_one_eq_mod, Nat.shiftRight_eq_div_pow]
theorem bits_piece (v : Int) (j n m : Nat) (h0 : 0 ≤ v) (h1 : v ≤ 4294967295) (hm : m = (2 ^ n - 1) * 2 ^ j) (hj : m < 2 ^ 32) (d : Int) (hd : d = ((2 ^ j : Nat) : Int)) (q : Int) (hq : q = ((2 ^ n : Nat) : Int)) : bits .and .u32 v (m : Int) / d = v / d % q := by
  obtain ⟨a, rfl⟩ := Int.eq_ofNat_of_zero_le h0
  have ha : a < 2 ^ 32 := by omega
  rw [(bits_nat .u32 32 (by decide) (fun n h h' => by rw [IntKind.wrap_u32]; omega) a m ha hj).1, hm, hd, hq]
  have := land_div a j n
  norm_cast
theorem get_0_2 (v : Int) (w : World) (h0 : 0 ≤ v) (h1 : v ≤ 4294967295) :
    Calls Tryz.prog 232 #[.int .u32 v, .int .i64 0, .int .i64 2] w fun e w' => e = .returned (.int .u32 (v % 4)) ∧ w = w' := by
  have hb := bits_piece v 0 2 3 h0 h1 (by decide) (by decide) 1 (by decide) 4 (by decide)
  rw [Int.ediv_one, Int.ediv_one] at hb
  have hb' : bits .and .u32 v 3 = v % 4 := hb
  go_enter Tryz.func232, Tryz.ntmps232
  go_wp2
  go_ret
  exact ⟨rfl, rfl⟩
theorem get_2_1 (v : Int) (w : World) (h0 : 0 ≤ v) (h1 : v ≤ 4294967295) :
    Calls Tryz.prog 232 #[.int .u32 v, .int .i64 2, .int .i64 1] w fun e w' => e = .returned (.int .u32 (v / 4 % 2)) ∧ w = w' := by
  have hb : bits .and .u32 v 4 / 4 = v / 4 % 2 := bits_piece v 2 1 4 h0 h1 (by decide) (by decide) 4 (by decide) 2 (by decide)
  go_enter Tryz.func232, Tryz.ntmps232
  go_wp2
  go_ret
  exact ⟨rfl, rfl⟩
theorem get_3_1 (v : Int) (w : World) (h0 : 0 ≤ v) (h1 : v ≤ 4294967295) :
    Calls Tryz.prog 232 #[.int .u32 v, .int .i64 3, .int .i64 1] w fun e w' => e = .returned (.int .u32 (v / 8 % 2)) ∧ w = w' := by
  have hb : bits .and .u32 v 8 / 8 = v / 8 % 2 := bits_piece v 3 1 8 h0 h1 (by decide) (by decide) 8 (by decide) 2 (by decide)
  go_enter Tryz.func232, Tryz.ntmps232
  go_wp2
  go_ret
  exact ⟨rfl, rfl⟩
theorem get_4_1 (v : Int) (w : World) (h0 : 0 ≤ v) (h1 : v ≤ 4294967295) :
    Calls Tryz.prog 232 #[.int .u32 v, .int .i64 4, .int .i64 1] w fun e w' => e = .returned (.int .u32 (v / 16 % 2)) ∧ w = w' := by
  have hb : bits .and .u32 v 16 / 16 = v / 16 % 2 := bits_piece v 4 1 16 h0 h1 (by decide) (by decide) 16 (by decide) 2 (by decide)
  go_enter Tryz.func232, Tryz.ntmps232
  go_wp2
  go_ret
  exact ⟨rfl, rfl⟩
theorem get_5_1 (v : Int) (w : World) (h0 : 0 ≤ v) (h1 : v ≤ 4294967295) :
    Calls Tryz.prog 232 #[.int .u32 v, .int .i64 5, .int .i64 1] w fun e w' => e = .returned (.int .u32 (v / 32 % 2)) ∧ w = w' := by
  have hb : bits .and .u32 v 32 / 32 = v / 32 % 2 := bits_piece v 5 1 32 h0 h1 (by decide) (by decide) 32 (by decide) 2 (by decide)
  go_enter Tryz.func232, Tryz.ntmps232
  go_wp2
  go_ret
  exact ⟨rfl, rfl⟩
theorem get_6_1 (v : Int) (w : World) (h0 : 0 ≤ v) (h1 : v ≤ 4294967295) :
    Calls Tryz.prog 232 #[.int .u32 v, .int .i64 6, .int .i64 1] w fun e w' => e = .returned (.int .u32 (v / 64 % 2)) ∧ w = w' := by
  have hb : bits .and .u32 v 64 / 64 = v / 64 % 2 := bits_piece v 6 1 64 h0 h1 (by decide) (by decide) 64 (by decide) 2 (by decide)
  go_enter Tryz.func232, Tryz.ntmps232
  go_wp2
  go_ret
  exact ⟨rfl, rfl⟩
theorem get_8_24 (v : Int) (w : World) (h0 : 0 ≤ v) (h1 : v ≤ 4294967295) :
    Calls Tryz.prog 232 #[.int .u32 v, .int .i64 8, .int .i64 24] w fun e w' => e = .returned (.int .u32 (v / 256 % 16777216)) ∧ w = w' := by
  have hb : bits .and .u32 v 4294967040 / 256 = v / 256 % 16777216 := bits_piece v 8 24 4294967040 h0 h1 (by decide) (by decide) 256 (by decide) 16777216 (by decide)
  go_enter Tryz.func232, Tryz.ntmps232
  go_wp2
  go_ret
  exact ⟨rfl, rfl⟩

theorem piece_c (v a n r : Int) (bb : Nat) (w : World) (h0 : 0 ≤ r) (h1 : r ≤ 4294967295) (hb : w.cell? ⟨bb, 0, none⟩ = some (.int .u32 v))
    (hG : Calls Tryz.prog 232 #[.int .u32 v, .int .i64 a, .int .i64 n] w fun e w' => e = .returned (.int .u32 r) ∧ w = w') :
    Calls Tryz.prog 231 #[.int .i64 a, .int .i64 n, .pointer (some ⟨bb, 0, none⟩)] w fun e w' => e = .returned (.int .i64 r) ∧ w = w' := by
  have HG := Hd.mk hG
  clear hG
  go_enter Tryz.func231, Tryz.ntmps231
  go_wp2_with fail
  refine HG.out.mono ?_
  rintro _ _ ⟨rfl, rfl⟩
  go_wp2_with fail
  go_ret
  exact ⟨rfl, rfl⟩

theorem Unpack_c (v : Int) (w : World) (h0 : 0 ≤ v) (h1 : v ≤ 4294967295) :
    Calls Tryz.prog 182 #[.int .u32 v] w (Made w (tagOf v).val) := by
  have hmf : ∀ (fn : Fn) (first cap : Array Value) (w : World), (Instr.makeFunc fn first cap).run Tryz.prog w = .ok (.func fn first cap) w := fun _ _ _ _ => rfl
  have hb : ((w.alloc (.cells #[.int .u32 v] 51)).alloc (.cells #[.int .i64 0, .int .i64 0, .int .i64 0, .int .i64 0, .int .i64 0, .int .i64 0, .int .i64 0] 149)).cell? ⟨w.heap.size, 0, none⟩ = some (.int .u32 v) :=
    ((Blk.new w _ _).alloc _).cell 0
  have p0 := piece_c v 0 2 (v % 4) w.heap.size _ (by omega) (by omega) hb (get_0_2 v _ h0 h1)
  have p1 := piece_c v 2 1 (v / 4 % 2) w.heap.size _ (by omega) (by omega) hb (get_2_1 v _ h0 h1)
  have p2 := piece_c v 3 1 (v / 8 % 2) w.heap.size _ (by omega) (by omega) hb (get_3_1 v _ h0 h1)
  have p3 := piece_c v 4 1 (v / 16 % 2) w.heap.size _ (by omega) (by omega) hb (get_4_1 v _ h0 h1)
  have p4 := piece_c v 5 1 (v / 32 % 2) w.heap.size _ (by omega) (by omega) hb (get_5_1 v _ h0 h1)
  have p5 := piece_c v 6 1 (v / 64 % 2) w.heap.size _ (by omega) (by omega) hb (get_6_1 v _ h0 h1)
  have p6 := piece_c v 8 24 (v / 256 % 16777216) w.heap.size _ (by omega) (by omega) hb (get_8_24 v _ h0 h1)
  have P0 := Hd.mk p0; clear p0
  have P1 := Hd.mk p1; clear p1
  have P2 := Hd.mk p2; clear p2
  have P3 := Hd.mk p3; clear p3
  have P4 := Hd.mk p4; clear p4
  have P5 := Hd.mk p5; clear p5
  have P6 := Hd.mk p6; clear p6 hb
  go_enter Tryz.func182, Tryz.ntmps182
  go_wp2_with fail
  refine P0.out.mono ?_
  rintro _ _ ⟨rfl, rfl⟩
  go_wp2_with fail
  refine P1.out.mono ?_
  rintro _ _ ⟨rfl, rfl⟩
  go_wp2_with fail
  refine P2.out.mono ?_
  rintro _ _ ⟨rfl, rfl⟩
  go_wp2_with fail
  refine P3.out.mono ?_
  rintro _ _ ⟨rfl, rfl⟩
  go_wp2_with fail
  refine P4.out.mono ?_
  rintro _ _ ⟨rfl, rfl⟩
  go_wp2_with fail
  refine P5.out.mono ?_
  rintro _ _ ⟨rfl, rfl⟩
  go_wp2_with fail
  refine P6.out.mono ?_
  rintro _ _ ⟨rfl, rfl⟩
  clear P0 P1 P2 P3 P4 P5 P6
  go_wp2_with fail
  refine bodyPost_ret (v := (tagOf v).val) (by simp [results, Tryz.results182, go_sem, tagOf, Tag.val]) rfl ⟨rfl, ?_⟩
  repeat (first | with_reducible apply Stays.alloc | with_reducible apply Stays.drew)
  exact Stays.refl _ _

theorem marks_c (t : Tag) (w : World) :
    Calls Tryz.prog 246 #[t.val] w (Made w (.agg #[.int .i64 t.color, .int .i64 t.count, .int .i64 t.shade, .int .i64 t.dead, .int .i64 t.ring])) := by
  obtain ⟨k, c, n, s, d, r, o⟩ := t
  simp only [Tag.val]
  go_enter Tryz.func246, Tryz.ntmps246
  go_wp2_with fail
  refine bodyPost_ret (v := .agg #[.int .i64 c, .int .i64 n, .int .i64 s, .int .i64 d, .int .i64 r]) (by simp [results, Tryz.results246, go_sem]) rfl ⟨rfl, ?_⟩
  repeat (first | with_reducible apply Stays.alloc | with_reducible apply Stays.drew)
  exact Stays.refl _ _

theorem marks_x (k c n s d r o : Int) (w : World) :
    Calls Tryz.prog 246 #[.agg #[.int .i64 k, .int .i64 c, .int .i64 n, .int .i64 s, .int .i64 d, .int .i64 r, .int .i64 o]] w (Made w (.agg #[.int .i64 c, .int .i64 n, .int .i64 s, .int .i64 d, .int .i64 r])) :=
  marks_c ⟨k, c, n, s, d, r, o⟩ w
end Go.Proofs.YtadhdjldcpkfiaaGreatDoor
