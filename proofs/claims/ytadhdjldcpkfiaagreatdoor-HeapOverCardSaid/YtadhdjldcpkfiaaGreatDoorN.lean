/- A store and a ground are made. -/
/- The reference's world is made: only that it is made, and turns nothing. -/
import Derived.Test.YtadhdjldcpkfiaaGreatDoorR
import Derived.Test.YtadhdjldcpkfiaaGreatDoorS
import Derived.Laws.MakeOwn
namespace Go.Proofs.YtadhdjldcpkfiaaGreatDoor
set_option linter.unusedVariables false
set_option linter.unusedSimpArgs false
open Go.RowKit
set_option maxRecDepth 100000
set_option maxHeartbeats 1600000

theorem madeCells_one (z : Value) (n : Nat) : madeCells #[z] n = (List.replicate n z).toArray := by
  apply Array.ext
  · simp [madeCells]
  · intro i h1 h2
    simp [madeCells, Nat.mod_one]

theorem stNew_c (n : Int) (n0 : 0 ≤ n) (n1 : n ≤ 8388608) (w : World) :
    Calls Tryz.prog 213 #[.int .i64 n] w (fun e w' => ∃ s a : Nat, Made w (.tuple #[.pointer (some ⟨s, 0, none⟩), .int .i64 0]) e w' ∧ w.heap.size ≤ s ∧ w.heap.size ≤ a ∧ s ≠ a ∧
      Blk w' s 194 #[.slice (some ⟨a, 0, none⟩) n.toNat n.toNat, .int .u64 0] ∧ Blk w' a 51 (List.replicate n.toNat (.int .u32 0)).toArray) := by
  have c1 : decide (n < 0) = false := decide_eq_false (by omega)
  have c2 : decide (8388608 < n) = false := decide_eq_false (by omega)
  have HM : ∀ w : World, (Instr.makeSlice 69 (.int .i64 n) (.int .i64 n)).run Tryz.prog w = .ok (.slice (some ⟨w.heap.size, 0, none⟩) n.toNat n.toNat) (w.alloc (.cells (List.replicate n.toNat (.int .u32 0)).toArray 51)) := by
    intro w
    obtain ⟨i, hi, hx⟩ := Option.map_eq_some_iff.1 (show (Tryz.prog.info? 51).map (fun i => (i.zero, i.size, i.bytes)) = some (some (.int .u32 0), 1, 4) by kernel_rfl)
    simp only [Prod.mk.injEq] at hx
    obtain ⟨hz, hs, hb⟩ := hx
    have := run_make (P := Tryz.prog) w 69 51 i (.int .u32 0) Tryz.underlying69 hi hz .i64 .i64 n n n0 (by omega) (by rw [hb]; omega) (by omega)
    rw [this, hs, Nat.mul_one]
    show Result.ok _ (w.alloc (.cells (madeCells #[.int .u32 0] _) _)) = _
    rw [madeCells_one]
  clear n0 n1
  go_enter Tryz.func213, Tryz.ntmps213
  go_wp2_with fail
  go_ret2
  refine ⟨w.heap.size + 1, w.heap.size, ⟨rfl, ((Stays.refl _ _).alloc _).alloc _⟩, by omega, Nat.le_refl _, by omega, ?_, ?_⟩
  · have := Blk.new (w.alloc (.cells (Array.replicate n.toNat (Value.int .u32 0)) 51)) 194 #[.slice (some ⟨w.heap.size, 0, none⟩) n.toNat n.toNat, .int .u64 0]
    simpa using this
  · have := (Blk.new w 51 (Array.replicate n.toNat (Value.int .u32 0))).alloc (.cells #[.slice (some ⟨w.heap.size, 0, none⟩) n.toNat n.toNat, .int .u64 0] 194)
    simpa using this
end Go.Proofs.YtadhdjldcpkfiaaGreatDoor
namespace Go.Proofs.YtadhdjldcpkfiaaGreatDoor
set_option linter.unusedVariables false
set_option linter.unusedSimpArgs false
open Go.RowKit
set_option maxRecDepth 100000
set_option maxHeartbeats 1600000

theorem rOpen_c (n : Int) (n0 : 0 ≤ n) (n1 : n ≤ 1048576) (w : World) :
    Calls Tryz.prog 249 #[.int .i64 n] w (fun e w' => ∃ ad m c, Made w (.slice ad m c) e w') := by
  obtain ⟨N, rfl⟩ := Int.eq_ofNat_of_zero_le n0
  obtain ⟨i0, hi, hx⟩ := Option.map_eq_some_iff.1 (show (Tryz.prog.info? 3).map (fun i => (i.zero, i.size, i.bytes)) = some (some (.int .i64 0), 1, 8) by kernel_rfl)
  simp only [Prod.mk.injEq] at hx
  obtain ⟨hz0, hz1, hz2⟩ := hx
  have HI := Hd.mk (And.intro hi (And.intro hz0 (And.intro hz1 hz2)))
  clear hi hz0 hz1 hz2
  go_enter Tryz.func249, Tryz.ntmps249
  go_wp2_with fail
  go_loopw [3, 4] (fun l i wr => ∃ j : Nat, j ≤ N ∧ i = .int .i64 j ∧ Hd (∃ xs, wr.ownsRow w.heap.size 3 1 l j xs) ∧ Hd (Below w.heap.size w wr)) (fun _ i _ => N - (intOf i).toNat)
  case atStart => exact ⟨0, by omega, rfl, ⟨[], World.ownsRow_nil _ _ _ _⟩, ⟨Below.refl _ _⟩⟩
  case round =>
    obtain ⟨j, hj, rfl, HX, HB⟩ := hrel
    by_cases c : j < N
    · have cb : decide ((j : Int) < (N : Int)) = true := decide_eq_true (by omega)
      obtain ⟨xs, hown⟩ := HX.out
      obtain ⟨hi, hz0, hz1, hz2⟩ := HI.out
      have hsz : w.heap.size ≤ wr.heap.size := HB.out.size
      have ew : wrap64 ((j : Int) + 1) = ((j + 1 : Nat) : Int) := by unfold wrap64; omega
      go_wp2_with (at_builtin; refine wpList_append_own _ rfl (.tmp 10) (.tmp 12) 31 rfl w.heap.size 3 i0 (.int .i64 0) 1 8 Tryz.underlying31 hi hz0 hz1 hz2 rfl (by decide) _ j _ rfl (hown.alloc _) ⟨wr.heap.size, 0, none⟩ 1 1 [.int .i64 j] rfl rfl (World.news_of_block (cs := #[.int .i64 j]) (t := 3) (fr := (0, 0)) (heap_alloc_new wr _)) (by simp [Value.oneCell']) (by unfold maxLen; omega) (by omega) (by simp; omega) ?_; intro l' w3 hown3 hgrow _)
      have HB3 := Hd.mk ((HB.out.alloc (by omega) _).grown hgrow (by simp; omega) (fun q hq => (hown.lt q hq).1))
      have HR3 : Hd (∃ xs, w3.ownsRow w.heap.size 3 1 l' (j + 1) xs) := ⟨⟨_, hown3⟩⟩
      clear hown hown3 hgrow hi hz0 hz1 hz2
      go_wp2_with fail
      go_roundw
      case rel => exact ⟨j + 1, by omega, by first | rfl | (rw [ew]) | simp, HR3, HB3⟩
      case measure => simp [intOf]; omega
    · have cb : decide ((j : Int) < (N : Int)) = false := decide_eq_false (by omega)
      go_wp2_with fail
      go_ret
      obtain ⟨xs, hown⟩ := HX.out
      rcases hown.2 with ⟨h, _⟩ | ⟨g, cap, cur, h, _⟩
      · subst h; exact ⟨_, _, _, rfl, Stays.of_below HB.out⟩
      · subst h; exact ⟨_, _, _, rfl, Stays.of_below HB.out⟩

theorem rNew11_c (n m : Int) (n0 : 0 ≤ n) (n1 : n ≤ 1048576) (w : World) :
    Calls Tryz.prog 230 #[.int .i64 n, .int .i64 m] w (fun e w' => ∃ b : Nat, Made w (.pointer (some ⟨b, 0, none⟩)) e w') := by
  have HC := Hd.mk (fun w => rOpen_c n n0 n1 w)
  clear n0 n1
  go_enter Tryz.func230, Tryz.ntmps230
  go_wp2_with fail
  refine (HC.out _).mono ?_
  rintro _ w1 ⟨ad, q, c, rfl, K1⟩
  go_wp2
  go_ret
  exact ⟨_, rfl, K1.alloc _⟩

theorem rNew12_c (n m : Int) (n0 : 0 ≤ n) (n1 : n ≤ 1048576) (w : World) :
    Calls Tryz.prog 175 #[.int .i64 n, .int .i64 m] w (fun e w' => ∃ b : Nat, Made w (.pointer (some ⟨b, 0, none⟩)) e w') := by
  have HC := Hd.mk (fun w => rNew11_c n m n0 n1 w)
  clear n0 n1
  go_enter Tryz.func175, Tryz.ntmps175
  go_wp2_with fail
  refine (HC.out _).mono ?_
  rintro _ w1 ⟨v, rfl, K1⟩
  go_wp2
  go_ret
  exact ⟨_, rfl, K1.alloc _⟩
end Go.Proofs.YtadhdjldcpkfiaaGreatDoor
