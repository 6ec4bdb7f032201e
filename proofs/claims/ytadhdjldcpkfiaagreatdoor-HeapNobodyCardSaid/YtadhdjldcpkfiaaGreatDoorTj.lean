/- A tag's word, put together: Join at the eight widths of a tag, and Pack. Nothing is asked but that the tag is a head's, or a clean leaf's. -/
import Derived.Test.YtadhdjldcpkfiaaGreatDoorTh
namespace Go.Proofs.YtadhdjldcpkfiaaGreatDoor
set_option linter.unusedVariables false
set_option linter.unusedSimpArgs false
open Go.RowKit
set_option maxRecDepth 100000
set_option maxHeartbeats 1600000

def tW : Nat → Int
  | 0 => 2
  | 1 => 1
  | 2 => 1
  | 3 => 1
  | 4 => 1
  | 5 => 1
  | 6 => 1
  | 7 => 24
  | _ => 0
def tS : Nat → Int
  | 0 => 0
  | 1 => 2
  | 2 => 3
  | 3 => 4
  | 4 => 5
  | 5 => 6
  | 6 => 7
  | 7 => 8
  | 8 => 32
  | _ => 0
/-- The word of the first pieces. -/
def tP (v : Nat → Int) : Nat → Int
  | 0 => 0
  | 1 => 0 + v 0
  | 2 => 0 + v 0 + v 1 * 4
  | 3 => 0 + v 0 + v 1 * 4 + v 2 * 8
  | 4 => 0 + v 0 + v 1 * 4 + v 2 * 8 + v 3 * 16
  | 5 => 0 + v 0 + v 1 * 4 + v 2 * 8 + v 3 * 16 + v 4 * 32
  | 6 => 0 + v 0 + v 1 * 4 + v 2 * 8 + v 3 * 16 + v 4 * 32 + v 5 * 64
  | 7 => 0 + v 0 + v 1 * 4 + v 2 * 8 + v 3 * 16 + v 4 * 32 + v 5 * 64 + v 6 * 128
  | 8 => 0 + v 0 + v 1 * 4 + v 2 * 8 + v 3 * 16 + v 4 * 32 + v 5 * 64 + v 6 * 128 + v 7 * 256
  | _ => 0

theorem total_c (b c : Nat) (w : World) (hw : ∀ i, i < 8 → w.cell? ⟨b, i, none⟩ = some (.int .i64 (tW i))) :
    Calls Tryz.prog 254 #[.slice (some ⟨b, 0, none⟩) 8 c] w fun e w' => e = .returned (.int .i64 32) ∧ w = w' := by
  have c0 : w.cell? ⟨b, 0, none⟩ = some (.int .i64 2) := hw 0 (by omega)
  have c1 : w.cell? ⟨b, 1, none⟩ = some (.int .i64 1) := hw 1 (by omega)
  have c2 : w.cell? ⟨b, 2, none⟩ = some (.int .i64 1) := hw 2 (by omega)
  have c3 : w.cell? ⟨b, 3, none⟩ = some (.int .i64 1) := hw 3 (by omega)
  have c4 : w.cell? ⟨b, 4, none⟩ = some (.int .i64 1) := hw 4 (by omega)
  have c5 : w.cell? ⟨b, 5, none⟩ = some (.int .i64 1) := hw 5 (by omega)
  have c6 : w.cell? ⟨b, 6, none⟩ = some (.int .i64 1) := hw 6 (by omega)
  have c7 : w.cell? ⟨b, 7, none⟩ = some (.int .i64 24) := hw 7 (by omega)
  clear hw
  go_enter Tryz.func254, Tryz.ntmps254
  go_wp2_with fail
  go_loop [3, 8] (fun s i => ∃ j : Nat, j ≤ 8 ∧ i = .int .i64 j ∧ s = .int .i64 (tS j)) (fun _ i => 8 - (intOf i).toNat)
  case atStart => exact ⟨0, by omega, rfl, rfl⟩
  case round =>
    obtain ⟨j, hj, rfl, rfl⟩ := hrel
    rcases (by omega : j = 0 ∨ j = 1 ∨ j = 2 ∨ j = 3 ∨ j = 4 ∨ j = 5 ∨ j = 6 ∨ j = 7 ∨ j = 8) with rfl | rfl | rfl | rfl | rfl | rfl | rfl | rfl | rfl
    · have hs : tS 0 = 0 := rfl
      go_wp2_with fail
      go_round
      case rel => exact ⟨1, by omega, rfl, rfl⟩
      case measure => simp [intOf]
    · have hs : tS 1 = 2 := rfl
      go_wp2_with fail
      go_round
      case rel => exact ⟨2, by omega, rfl, rfl⟩
      case measure => simp [intOf]
    · have hs : tS 2 = 3 := rfl
      go_wp2_with fail
      go_round
      case rel => exact ⟨3, by omega, rfl, rfl⟩
      case measure => simp [intOf]
    · have hs : tS 3 = 4 := rfl
      go_wp2_with fail
      go_round
      case rel => exact ⟨4, by omega, rfl, rfl⟩
      case measure => simp [intOf]
    · have hs : tS 4 = 5 := rfl
      go_wp2_with fail
      go_round
      case rel => exact ⟨5, by omega, rfl, rfl⟩
      case measure => simp [intOf]
    · have hs : tS 5 = 6 := rfl
      go_wp2_with fail
      go_round
      case rel => exact ⟨6, by omega, rfl, rfl⟩
      case measure => simp [intOf]
    · have hs : tS 6 = 7 := rfl
      go_wp2_with fail
      go_round
      case rel => exact ⟨7, by omega, rfl, rfl⟩
      case measure => simp [intOf]
    · have hs : tS 7 = 8 := rfl
      go_wp2_with fail
      go_round
      case rel => exact ⟨8, by omega, rfl, rfl⟩
      case measure => simp [intOf]
    · have hs : tS 8 = 32 := rfl
      go_wp2_with fail
      go_ret
      exact ⟨rfl, rfl⟩

theorem bits_or_add (x y D : Int) (i : Nat) (hD : D = ((2 ^ i : Nat) : Int)) (hx0 : 0 ≤ x) (hx : x < D) (hy0 : 0 ≤ y) (hy : y % D = 0) (hi : i ≤ 32) (hy1 : y < 4294967296) : bits .or .u32 x y = x + y := by
  have hc : bits .or .u32 x y = bits .or .u32 y x := by unfold bits; simp only; rw [BitVec.or_comm]
  have hp : (2 ^ i : Nat) ≤ 2 ^ 32 := Nat.pow_le_pow_right (by decide) hi
  have hD2 : D = 2 ^ i := by rw [hD]; norm_cast
  rw [hc, bits_join .u32 32 (by decide) (fun n h h' => by rw [IntKind.wrap_u32]; omega) i y x hy0 (by rw [← hD2]; exact hy) (by omega) hx0 (by rw [← hD2]; exact hx) (by omega)]
  omega
theorem bits_andNot_low (x m D : Int) (i : Nat) (hD : D = ((2 ^ i : Nat) : Int)) (hx0 : 0 ≤ x) (hx : x < D) (hm0 : 0 ≤ m) (hm : m % D = 0) (hi : i ≤ 32) (hm1 : m < 4294967296) : bits .andNot .u32 x m = x := by
  obtain ⟨a, rfl⟩ := Int.eq_ofNat_of_zero_le hx0
  obtain ⟨b, rfl⟩ := Int.eq_ofNat_of_zero_le hm0
  subst hD
  have ha : a < 2 ^ i := by exact_mod_cast hx
  have hb : b % 2 ^ i = 0 := by exact_mod_cast hm
  have hp : 2 ^ i ≤ 2 ^ 32 := Nat.pow_le_pow_right (by decide) hi
  have ha' : a < 2 ^ 32 := by omega
  have hb' : b < 2 ^ 32 := by omega
  have key : ((BitVec.ofNat 32 a) &&& ~~~(BitVec.ofNat 32 b)) = BitVec.ofNat 32 a := by
    apply BitVec.eq_of_getLsbD_eq
    intro k hk
    simp only [BitVec.getLsbD_and, BitVec.getLsbD_not, BitVec.getLsbD_ofNat, hk, decide_true, Bool.true_and]
    rcases Nat.lt_or_ge k i with h | h
    · have : b.testBit k = false := by
        have h2 : (b % 2 ^ i).testBit k = b.testBit k := by rw [Nat.testBit_mod_two_pow]; simp [h]
        rw [← h2, hb]; simp
      simp [this]
    · have : a.testBit k = false := Nat.testBit_lt_two_pow (Nat.lt_of_lt_of_le ha (Nat.pow_le_pow_right (by decide) h))
      simp [this]
  unfold bits
  simp only [BitVec.ofInt_natCast]
  change IntKind.u32.wrap (((BitVec.ofNat 32 a) &&& ~~~(BitVec.ofNat 32 b)).toNat : Int) = a
  rw [key]
  simp only [BitVec.toNat_ofNat]
  rw [Nat.mod_eq_of_lt ha', IntKind.wrap_u32]
  omega

theorem put_0_2 (x v : Int) (w : World) (x0 : 0 ≤ x) (x1 : x < 1) (v0 : 0 ≤ v) (v1 : v < 4) :
    Calls Tryz.prog 255 #[.int .u32 x, .int .i64 0, .int .i64 2, .int .u32 v] w fun e w' => e = .returned (.tuple #[.int .u32 (x + v), .int .i64 0]) ∧ w = w' := by
  have h1 : bits .andNot .u32 x 3 = x := bits_andNot_low x 3 1 0 (by decide) x0 x1 (by omega) (by omega) (by omega) (by omega)
  have h2 : bits .or .u32 x v = x + v := bits_or_add x v 1 0 (by decide) x0 x1 (by omega) (by omega) (by omega) (by omega)
  have h3 : v / 4 = 0 := by omega
  go_enter Tryz.func255, Tryz.ntmps255
  go_wp2
  go_ret2
  exact ⟨rfl, rfl⟩

theorem put_2_1 (x v : Int) (w : World) (x0 : 0 ≤ x) (x1 : x < 4) (v0 : 0 ≤ v) (v1 : v < 2) :
    Calls Tryz.prog 255 #[.int .u32 x, .int .i64 2, .int .i64 1, .int .u32 v] w fun e w' => e = .returned (.tuple #[.int .u32 (x + (v * 4)), .int .i64 0]) ∧ w = w' := by
  have h1 : bits .andNot .u32 x 4 = x := bits_andNot_low x 4 4 2 (by decide) x0 x1 (by omega) (by omega) (by omega) (by omega)
  have h2 : bits .or .u32 x (v * 4) = x + (v * 4) := bits_or_add x (v * 4) 4 2 (by decide) x0 x1 (by omega) (by omega) (by omega) (by omega)
  have h3 : v / 2 = 0 := by omega
  go_enter Tryz.func255, Tryz.ntmps255
  go_wp2
  go_ret2
  exact ⟨rfl, rfl⟩

theorem put_3_1 (x v : Int) (w : World) (x0 : 0 ≤ x) (x1 : x < 8) (v0 : 0 ≤ v) (v1 : v < 2) :
    Calls Tryz.prog 255 #[.int .u32 x, .int .i64 3, .int .i64 1, .int .u32 v] w fun e w' => e = .returned (.tuple #[.int .u32 (x + (v * 8)), .int .i64 0]) ∧ w = w' := by
  have h1 : bits .andNot .u32 x 8 = x := bits_andNot_low x 8 8 3 (by decide) x0 x1 (by omega) (by omega) (by omega) (by omega)
  have h2 : bits .or .u32 x (v * 8) = x + (v * 8) := bits_or_add x (v * 8) 8 3 (by decide) x0 x1 (by omega) (by omega) (by omega) (by omega)
  have h3 : v / 2 = 0 := by omega
  go_enter Tryz.func255, Tryz.ntmps255
  go_wp2
  go_ret2
  exact ⟨rfl, rfl⟩

theorem put_4_1 (x v : Int) (w : World) (x0 : 0 ≤ x) (x1 : x < 16) (v0 : 0 ≤ v) (v1 : v < 2) :
    Calls Tryz.prog 255 #[.int .u32 x, .int .i64 4, .int .i64 1, .int .u32 v] w fun e w' => e = .returned (.tuple #[.int .u32 (x + (v * 16)), .int .i64 0]) ∧ w = w' := by
  have h1 : bits .andNot .u32 x 16 = x := bits_andNot_low x 16 16 4 (by decide) x0 x1 (by omega) (by omega) (by omega) (by omega)
  have h2 : bits .or .u32 x (v * 16) = x + (v * 16) := bits_or_add x (v * 16) 16 4 (by decide) x0 x1 (by omega) (by omega) (by omega) (by omega)
  have h3 : v / 2 = 0 := by omega
  go_enter Tryz.func255, Tryz.ntmps255
  go_wp2
  go_ret2
  exact ⟨rfl, rfl⟩

theorem put_5_1 (x v : Int) (w : World) (x0 : 0 ≤ x) (x1 : x < 32) (v0 : 0 ≤ v) (v1 : v < 2) :
    Calls Tryz.prog 255 #[.int .u32 x, .int .i64 5, .int .i64 1, .int .u32 v] w fun e w' => e = .returned (.tuple #[.int .u32 (x + (v * 32)), .int .i64 0]) ∧ w = w' := by
  have h1 : bits .andNot .u32 x 32 = x := bits_andNot_low x 32 32 5 (by decide) x0 x1 (by omega) (by omega) (by omega) (by omega)
  have h2 : bits .or .u32 x (v * 32) = x + (v * 32) := bits_or_add x (v * 32) 32 5 (by decide) x0 x1 (by omega) (by omega) (by omega) (by omega)
  have h3 : v / 2 = 0 := by omega
  go_enter Tryz.func255, Tryz.ntmps255
  go_wp2
  go_ret2
  exact ⟨rfl, rfl⟩

theorem put_6_1 (x v : Int) (w : World) (x0 : 0 ≤ x) (x1 : x < 64) (v0 : 0 ≤ v) (v1 : v < 2) :
    Calls Tryz.prog 255 #[.int .u32 x, .int .i64 6, .int .i64 1, .int .u32 v] w fun e w' => e = .returned (.tuple #[.int .u32 (x + (v * 64)), .int .i64 0]) ∧ w = w' := by
  have h1 : bits .andNot .u32 x 64 = x := bits_andNot_low x 64 64 6 (by decide) x0 x1 (by omega) (by omega) (by omega) (by omega)
  have h2 : bits .or .u32 x (v * 64) = x + (v * 64) := bits_or_add x (v * 64) 64 6 (by decide) x0 x1 (by omega) (by omega) (by omega) (by omega)
  have h3 : v / 2 = 0 := by omega
  go_enter Tryz.func255, Tryz.ntmps255
  go_wp2
  go_ret2
  exact ⟨rfl, rfl⟩

theorem put_7_1 (x v : Int) (w : World) (x0 : 0 ≤ x) (x1 : x < 128) (v0 : 0 ≤ v) (v1 : v < 2) :
    Calls Tryz.prog 255 #[.int .u32 x, .int .i64 7, .int .i64 1, .int .u32 v] w fun e w' => e = .returned (.tuple #[.int .u32 (x + (v * 128)), .int .i64 0]) ∧ w = w' := by
  have h1 : bits .andNot .u32 x 128 = x := bits_andNot_low x 128 128 7 (by decide) x0 x1 (by omega) (by omega) (by omega) (by omega)
  have h2 : bits .or .u32 x (v * 128) = x + (v * 128) := bits_or_add x (v * 128) 128 7 (by decide) x0 x1 (by omega) (by omega) (by omega) (by omega)
  have h3 : v / 2 = 0 := by omega
  go_enter Tryz.func255, Tryz.ntmps255
  go_wp2
  go_ret2
  exact ⟨rfl, rfl⟩

theorem put_8_24 (x v : Int) (w : World) (x0 : 0 ≤ x) (x1 : x < 256) (v0 : 0 ≤ v) (v1 : v < 16777216) :
    Calls Tryz.prog 255 #[.int .u32 x, .int .i64 8, .int .i64 24, .int .u32 v] w fun e w' => e = .returned (.tuple #[.int .u32 (x + (v * 256)), .int .i64 0]) ∧ w = w' := by
  have h1 : bits .andNot .u32 x 4294967040 = x := bits_andNot_low x 4294967040 256 8 (by decide) x0 x1 (by omega) (by omega) (by omega) (by omega)
  have h2 : bits .or .u32 x (v * 256) = x + (v * 256) := bits_or_add x (v * 256) 256 8 (by decide) x0 x1 (by omega) (by omega) (by omega) (by omega)
  have h3 : v / 16777216 = 0 := by omega
  go_enter Tryz.func255, Tryz.ntmps255
  go_wp2
  go_ret2
  exact ⟨rfl, rfl⟩

theorem Join_c (a b ca cb : Nat) (v : Nat → Int) (w : World) (hv : ∀ i, i < 8 → w.cell? ⟨a, i, none⟩ = some (.int .u32 (v i))) (hw : ∀ i, i < 8 → w.cell? ⟨b, i, none⟩ = some (.int .i64 (tW i)))
    (h0 : ∀ i, 0 ≤ v i) (b0 : v 0 < 4) (b1 : v 1 < 2) (b2 : v 2 < 2) (b3 : v 3 < 2) (b4 : v 4 < 2) (b5 : v 5 < 2) (b6 : v 6 < 2) (b7 : v 7 < 16777216) :
    Calls Tryz.prog 247 #[.slice (some ⟨a, 0, none⟩) 8 ca, .slice (some ⟨b, 0, none⟩) 8 cb] w fun e w' => e = .returned (.tuple #[.int .u32 (tP v 8), .int .i64 0]) ∧ w = w' := by
  have c0 : w.cell? ⟨b, 0, none⟩ = some (.int .i64 2) := hw 0 (by omega)
  have d0 : w.cell? ⟨a, 0, none⟩ = some (.int .u32 (v 0)) := hv 0 (by omega)
  have n0 := h0 0
  have c1 : w.cell? ⟨b, 1, none⟩ = some (.int .i64 1) := hw 1 (by omega)
  have d1 : w.cell? ⟨a, 1, none⟩ = some (.int .u32 (v 1)) := hv 1 (by omega)
  have n1 := h0 1
  have c2 : w.cell? ⟨b, 2, none⟩ = some (.int .i64 1) := hw 2 (by omega)
  have d2 : w.cell? ⟨a, 2, none⟩ = some (.int .u32 (v 2)) := hv 2 (by omega)
  have n2 := h0 2
  have c3 : w.cell? ⟨b, 3, none⟩ = some (.int .i64 1) := hw 3 (by omega)
  have d3 : w.cell? ⟨a, 3, none⟩ = some (.int .u32 (v 3)) := hv 3 (by omega)
  have n3 := h0 3
  have c4 : w.cell? ⟨b, 4, none⟩ = some (.int .i64 1) := hw 4 (by omega)
  have d4 : w.cell? ⟨a, 4, none⟩ = some (.int .u32 (v 4)) := hv 4 (by omega)
  have n4 := h0 4
  have c5 : w.cell? ⟨b, 5, none⟩ = some (.int .i64 1) := hw 5 (by omega)
  have d5 : w.cell? ⟨a, 5, none⟩ = some (.int .u32 (v 5)) := hv 5 (by omega)
  have n5 := h0 5
  have c6 : w.cell? ⟨b, 6, none⟩ = some (.int .i64 1) := hw 6 (by omega)
  have d6 : w.cell? ⟨a, 6, none⟩ = some (.int .u32 (v 6)) := hv 6 (by omega)
  have n6 := h0 6
  have c7 : w.cell? ⟨b, 7, none⟩ = some (.int .i64 24) := hw 7 (by omega)
  have d7 : w.cell? ⟨a, 7, none⟩ = some (.int .u32 (v 7)) := hv 7 (by omega)
  have n7 := h0 7
  have HW := Hd.mk hw
  have p0 : tP v 0 = 0 := rfl
  have p1 : tP v 1 = tP v 0 + v 0 := rfl
  have p2 : tP v 2 = tP v 1 + v 1 * 4 := rfl
  have p3 : tP v 3 = tP v 2 + v 2 * 8 := rfl
  have p4 : tP v 4 = tP v 3 + v 3 * 16 := rfl
  have p5 : tP v 5 = tP v 4 + v 4 * 32 := rfl
  have p6 : tP v 6 = tP v 5 + v 5 * 64 := rfl
  have p7 : tP v 7 = tP v 6 + v 6 * 128 := rfl
  have p8 : tP v 8 = tP v 7 + v 7 * 256 := rfl
  have q0 : 0 ≤ tP v 0 ∧ tP v 0 < 1 := by omega
  have q1 : 0 ≤ tP v 1 ∧ tP v 1 < 4 := by omega
  have q2 : 0 ≤ tP v 2 ∧ tP v 2 < 8 := by omega
  have q3 : 0 ≤ tP v 3 ∧ tP v 3 < 16 := by omega
  have q4 : 0 ≤ tP v 4 ∧ tP v 4 < 32 := by omega
  have q5 : 0 ≤ tP v 5 ∧ tP v 5 < 64 := by omega
  have q6 : 0 ≤ tP v 6 ∧ tP v 6 < 128 := by omega
  have q7 : 0 ≤ tP v 7 ∧ tP v 7 < 256 := by omega
  have q8 : 0 ≤ tP v 8 ∧ tP v 8 < 4294967296 := by omega
  have HP := Hd.mk (And.intro p0 (And.intro p1 (And.intro p2 (And.intro p3 (And.intro p4 (And.intro p5 (And.intro p6 (And.intro p7 p8))))))))
  clear hv hw h0 p0 p1 p2 p3 p4 p5 p6 p7 p8
  go_enter Tryz.func247, Tryz.ntmps247
  go_wp2_with fail
  refine (total_c _ _ _ HW.out).mono ?_
  rintro _ _ ⟨rfl, rfl⟩
  go_wp2_with fail
  go_loop [6, 7, 24] (fun x s i => ∃ j : Nat, j ≤ 8 ∧ i = .int .i64 j ∧ s = .int .i64 (tS j) ∧ x = .int .u32 (tP v j)) (fun _ _ i => 8 - (intOf i).toNat)
  case atStart => exact ⟨0, by omega, rfl, rfl, rfl⟩
  case round =>
    obtain ⟨j, hj, rfl, rfl, rfl⟩ := hrel
    rcases (by omega : j = 0 ∨ j = 1 ∨ j = 2 ∨ j = 3 ∨ j = 4 ∨ j = 5 ∨ j = 6 ∨ j = 7 ∨ j = 8) with rfl | rfl | rfl | rfl | rfl | rfl | rfl | rfl | rfl
    · have hs : tS 0 = 0 := rfl
      obtain ⟨y0, y1⟩ := q0
      go_wp2_with fail
      refine (put_0_2 _ _ _ y0 y1 n0 b0).mono ?_
      rintro _ _ ⟨rfl, rfl⟩
      go_wp2_with fail
      go_round
      case rel => exact ⟨1, by omega, rfl, rfl, rfl⟩
      case measure => simp [intOf]
    · have hs : tS 1 = 2 := rfl
      obtain ⟨y0, y1⟩ := q1
      go_wp2_with fail
      refine (put_2_1 _ _ _ y0 y1 n1 b1).mono ?_
      rintro _ _ ⟨rfl, rfl⟩
      go_wp2_with fail
      go_round
      case rel => exact ⟨2, by omega, rfl, rfl, rfl⟩
      case measure => simp [intOf]
    · have hs : tS 2 = 3 := rfl
      obtain ⟨y0, y1⟩ := q2
      go_wp2_with fail
      refine (put_3_1 _ _ _ y0 y1 n2 b2).mono ?_
      rintro _ _ ⟨rfl, rfl⟩
      go_wp2_with fail
      go_round
      case rel => exact ⟨3, by omega, rfl, rfl, rfl⟩
      case measure => simp [intOf]
    · have hs : tS 3 = 4 := rfl
      obtain ⟨y0, y1⟩ := q3
      go_wp2_with fail
      refine (put_4_1 _ _ _ y0 y1 n3 b3).mono ?_
      rintro _ _ ⟨rfl, rfl⟩
      go_wp2_with fail
      go_round
      case rel => exact ⟨4, by omega, rfl, rfl, rfl⟩
      case measure => simp [intOf]
    · have hs : tS 4 = 5 := rfl
      obtain ⟨y0, y1⟩ := q4
      go_wp2_with fail
      refine (put_5_1 _ _ _ y0 y1 n4 b4).mono ?_
      rintro _ _ ⟨rfl, rfl⟩
      go_wp2_with fail
      go_round
      case rel => exact ⟨5, by omega, rfl, rfl, rfl⟩
      case measure => simp [intOf]
    · have hs : tS 5 = 6 := rfl
      obtain ⟨y0, y1⟩ := q5
      go_wp2_with fail
      refine (put_6_1 _ _ _ y0 y1 n5 b5).mono ?_
      rintro _ _ ⟨rfl, rfl⟩
      go_wp2_with fail
      go_round
      case rel => exact ⟨6, by omega, rfl, rfl, rfl⟩
      case measure => simp [intOf]
    · have hs : tS 6 = 7 := rfl
      obtain ⟨y0, y1⟩ := q6
      go_wp2_with fail
      refine (put_7_1 _ _ _ y0 y1 n6 b6).mono ?_
      rintro _ _ ⟨rfl, rfl⟩
      go_wp2_with fail
      go_round
      case rel => exact ⟨7, by omega, rfl, rfl, rfl⟩
      case measure => simp [intOf]
    · have hs : tS 7 = 8 := rfl
      obtain ⟨y0, y1⟩ := q7
      go_wp2_with fail
      refine (put_8_24 _ _ _ y0 y1 n7 b7).mono ?_
      rintro _ _ ⟨rfl, rfl⟩
      go_wp2_with fail
      go_round
      case rel => exact ⟨8, by omega, rfl, rfl, rfl⟩
      case measure => simp [intOf]
    · go_wp2_with fail
      go_ret2
      exact ⟨rfl, rfl⟩

end Go.Proofs.YtadhdjldcpkfiaaGreatDoor
