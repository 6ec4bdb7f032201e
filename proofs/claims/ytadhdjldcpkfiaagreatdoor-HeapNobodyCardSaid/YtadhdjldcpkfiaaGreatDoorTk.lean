/- Pack: a tag's word. Nothing is asked but that the tag is a head's, or a clean leaf's, and that the array 'none' holds noughts. -/
import Derived.Test.YtadhdjldcpkfiaaGreatDoorTj
namespace Go.Proofs.YtadhdjldcpkfiaaGreatDoor
set_option linter.unusedVariables false
set_option linter.unusedSimpArgs false
open Go.RowKit
set_option maxRecDepth 100000
set_option maxHeartbeats 3200000

def Tag.piece (t : Tag) : Nat → Int
  | 0 => t.kind
  | 1 => t.color
  | 2 => t.count
  | 3 => t.shade
  | 4 => t.dead
  | 5 => t.ring
  | 7 => t.owner
  | _ => 0
def Tag.row (t : Tag) (n : Nat) : List Value := (List.range n).map fun q => Value.int .u32 (t.piece q)
theorem Tag.row_snoc (t : Tag) (n : Nat) : t.row (n + 1) = t.row n ++ [Value.int .u32 (t.piece n)] := by
  simp [Tag.row, List.range_succ]
theorem infoU : (Tryz.prog.info? 51).map (fun i => (i.zero, i.size, i.bytes)) = some (some (.int .u32 0), 1, 4) := by kernel_rfl
/-- What Pack answers. -/
def tagPack (t : Tag) : Int × Int := if tagRight t = true then (tagWord t, 0) else (0, 2)
theorem right_bits {t : Tag} (h : tagRight t = true) (hu : t.Used) (ho : 0 ≤ t.owner ∧ t.owner < 16777216) : ∀ i, 0 ≤ t.piece i := by
  intro i
  have hm := right_marks h
  have b (j : Nat) (hj : j < 5) : 0 ≤ t.mk_ j := by rcases bit01_pos (hm j hj) with e | e <;> omega
  have b0 := b 0 (by omega)
  have b1 := b 1 (by omega)
  have b2 := b 2 (by omega)
  have b3 := b 3 (by omega)
  have b4 := b 4 (by omega)
  simp only [Tag.mk_] at b0 b1 b2 b3 b4
  unfold Tag.Used at hu
  unfold Tag.piece
  split <;> omega

theorem Pack_c (t : Tag) (w : World) (Z : NoneZ w) (hu : t.Used) (ho : 0 ≤ t.owner ∧ t.owner < 16777216) :
    Calls Tryz.prog 225 #[.agg #[.int .i64 t.kind, .int .i64 t.color, .int .i64 t.count, .int .i64 t.shade, .int .i64 t.dead, .int .i64 t.ring, .int .i64 t.owner]] w (Made w (.tuple #[.int .u32 (tagPack t).1, .int .i64 (tagPack t).2])) := by
  obtain ⟨i0, hi, hz0, hz1, hz2⟩ := info_parts infoU
  by_cases hr : tagRight t = true
  · have e1 : (tagPack t).1 = tagWord t := by unfold tagPack; rw [if_pos hr]
    have e2 : (tagPack t).2 = 0 := by unfold tagPack; rw [if_pos hr]
    rw [e1, e2]
    clear e1 e2
    have hm := right_marks hr
    have hb := right_bits hr hu ho
    have B0 (j : Nat) (hj : j < 5) : 0 ≤ t.mk_ j ∧ t.mk_ j ≤ 1 := by rcases bit01_pos (hm j hj) with e | e <;> omega
    obtain ⟨m0, m0'⟩ := B0 0 (by omega)
    obtain ⟨m1, m1'⟩ := B0 1 (by omega)
    obtain ⟨m2, m2'⟩ := B0 2 (by omega)
    obtain ⟨m3, m3'⟩ := B0 3 (by omega)
    obtain ⟨m4, m4'⟩ := B0 4 (by omega)
    have hk : 0 ≤ t.kind ∧ t.kind ≤ 3 := by unfold Tag.Used at hu; omega
    have HR := Right_c t (w.alloc (.cells #[.int .i64 t.kind, .int .i64 t.color, .int .i64 t.count, .int .i64 t.shade, .int .i64 t.dead, .int .i64 t.ring, .int .i64 t.owner] 149)) (Z.alloc _) hu
    rw [hr] at HR
    have HR' := Hd.mk HR
    have HB := Hd.mk hb
    have BT := Blk.new w 149 #[.int .i64 t.kind, .int .i64 t.color, .int .i64 t.count, .int .i64 t.shade, .int .i64 t.dead, .int .i64 t.ring, .int .i64 t.owner]
    have hw8 : tP t.piece 8 = tagWord t := by simp only [tP, Tag.piece, tagWord]; omega
    have HW8 := Hd.mk hw8
    clear HR hr hm hb B0 hu Z hw8
    obtain ⟨k, c, n, s, d, r, o⟩ := t
    simp only [Tag.mk_] at m0 m0' m1 m1' m2 m2' m3 m3' m4 m4' hk ho
    obtain ⟨k0, k1⟩ := hk
    obtain ⟨o0, o1⟩ := ho
    go_enter Tryz.func225, Tryz.ntmps225
    go_wp2_with fail
    refine HR'.out.mono ?_
    rintro _ w1 ⟨rfl, K1⟩
    clear HR'
    replace BT := BT.stays K1 (fun x => x)
    have t0 : w1.cell? ⟨w.heap.size, 0, none⟩ = some (.int .i64 k) := BT.cell 0
    have BT1 := BT.alloc (.cells #[.int .u32 k] 51)
    have s0 : (w1.alloc (.cells #[.int .u32 k] 51)).cell? ⟨w.heap.size, 0, none⟩ = some (.int .i64 k) := BT1.cell 0
    have s1 : (w1.alloc (.cells #[.int .u32 k] 51)).cell? ⟨w.heap.size, 1, none⟩ = some (.int .i64 c) := BT1.cell 1
    have s2 : (w1.alloc (.cells #[.int .u32 k] 51)).cell? ⟨w.heap.size, 2, none⟩ = some (.int .i64 n) := BT1.cell 2
    have s3 : (w1.alloc (.cells #[.int .u32 k] 51)).cell? ⟨w.heap.size, 3, none⟩ = some (.int .i64 s) := BT1.cell 3
    have s4 : (w1.alloc (.cells #[.int .u32 k] 51)).cell? ⟨w.heap.size, 4, none⟩ = some (.int .i64 d) := BT1.cell 4
    have s5 : (w1.alloc (.cells #[.int .u32 k] 51)).cell? ⟨w.heap.size, 5, none⟩ = some (.int .i64 r) := BT1.cell 5
    have s6 : (w1.alloc (.cells #[.int .u32 k] 51)).cell? ⟨w.heap.size, 6, none⟩ = some (.int .i64 o) := BT1.cell 6
    have hl : (w1.alloc (.cells #[.int .u32 k] 51)).ownsRow w1.heap.size 51 1 (.slice (some ⟨w1.heap.size, 0, none⟩) 1 1) 1 ((⟨k, c, n, s, d, r, o⟩ : Tag).row 1) :=
      World.ownsRow_lit w1 #[.int .u32 k] 1 (Nat.le_refl _) (by decide) rfl
    have HL := Hd.mk hl
    clear hl BT
    go_wp2_with fail
    refine (marks_x _ _ _ _ _ _ _ _).mono ?_
    rintro _ w2 ⟨rfl, K2⟩
    clear t0 s0 s1 s2 s3 s4 s5 s6
    have i1 : ∀ w, (Instr.index 209 (.agg #[.int .i64 c, .int .i64 n, .int .i64 s, .int .i64 d, .int .i64 r]) (.int .i64 0)).run Tryz.prog w = .ok (.int .i64 c) w := fun _ => by kernel_rfl
    have i2 : ∀ w, (Instr.index 209 (.agg #[.int .i64 c, .int .i64 n, .int .i64 s, .int .i64 d, .int .i64 r]) (.int .i64 1)).run Tryz.prog w = .ok (.int .i64 n) w := fun _ => by kernel_rfl
    have i3 : ∀ w, (Instr.index 209 (.agg #[.int .i64 c, .int .i64 n, .int .i64 s, .int .i64 d, .int .i64 r]) (.int .i64 2)).run Tryz.prog w = .ok (.int .i64 s) w := fun _ => by kernel_rfl
    have i4 : ∀ w, (Instr.index 209 (.agg #[.int .i64 c, .int .i64 n, .int .i64 s, .int .i64 d, .int .i64 r]) (.int .i64 3)).run Tryz.prog w = .ok (.int .i64 d) w := fun _ => by kernel_rfl
    have i5 : ∀ w, (Instr.index 209 (.agg #[.int .i64 c, .int .i64 n, .int .i64 s, .int .i64 d, .int .i64 r]) (.int .i64 4)).run Tryz.prog w = .ok (.int .i64 r) w := fun _ => by kernel_rfl
    have hl2 := HL.out.kept (row := none) ⟨K2.os, K2.tape, K2.output, K2.size, fun q hq _ => K2.block q hq (fun x => x)⟩ (Or.inr (by simp [Value.ownBlock]))
    have HL2 := Hd.mk hl2
    clear hl2 HL
    have BT2 := BT1.stays K2 (fun x => x)
    have hsz : w1.heap.size + 1 ≤ w2.heap.size := by have := K2.size; simpa using this
    have hsz0 : w.heap.size + 1 ≤ w1.heap.size := by have := K1.size; simpa using this
    go_wp2_with fail
    go_loopw [4, 16] (fun l i wr => ∃ j : Nat, j ≤ 5 ∧ i = .int .i64 j ∧ wr.ownsRow w1.heap.size 51 1 l (1 + j) ((⟨k, c, n, s, d, r, o⟩ : Tag).row (1 + j)) ∧ Below w1.heap.size w2 wr) (fun _ i _ => 5 - (intOf i).toNat)
    case atStart => exact ⟨0, by omega, rfl, HL2.out, Below.refl _ _⟩
    case round =>
      obtain ⟨j, hj, rfl, hown, hbel⟩ := hrel
      have hsz3 : w2.heap.size ≤ wr.heap.size := hbel.size
      have BTr : Blk wr w.heap.size 149 #[.int .i64 k, .int .i64 c, .int .i64 n, .int .i64 s, .int .i64 d, .int .i64 r, .int .i64 o] := (hbel.block _ (by omega)).trans BT2
      have t6 : wr.cell? ⟨w.heap.size, 6, none⟩ = some (.int .i64 o) := BTr.cell 6
      have HO := Hd.mk hown
      have HBE := Hd.mk hbel
      have hbel' : w1.heap.size ≤ wr.heap.size + 1 := by omega
      clear hown hbel HL2 BT2 BT1 BTr
      rcases (by omega : j = 0 ∨ j = 1 ∨ j = 2 ∨ j = 3 ∨ j = 4 ∨ j = 5) with rfl | rfl | rfl | rfl | rfl | rfl
      · have hown := HO.out
        go_wp2_with (at_builtin; refine wpList_append_own _ rfl (.tmp 19) (.tmp 22) 69 rfl w1.heap.size 51 i0 (.int .u32 0) 1 4 Tryz.underlying69 hi hz0 hz1 hz2 rfl (by decide) _ (1 + 0) _ rfl (hown.alloc _) ⟨wr.heap.size, 0, none⟩ 1 1 [.int .u32 c] rfl rfl (World.news_of_block (cs := #[.int .u32 c]) (t := 51) (fr := (0, 0)) (heap_alloc_new wr _)) (by simp [Value.oneCell']) (by unfold maxLen; omega) (by omega) (by simpa using hbel') ?_; intro l' w3 hown3 hgrow _)
        have hb3 : Below w1.heap.size w2 w3 := (HBE.out.alloc (by omega) _).grown hgrow (by simp; omega) (fun q hq => (hown.lt q hq).1)
        have hr3 : w3.ownsRow w1.heap.size 51 1 l' (1 + 1) ((⟨k, c, n, s, d, r, o⟩ : Tag).row (1 + 1)) := hown3
        have HR3 := Hd.mk hr3
        have HB3 := Hd.mk hb3
        clear hown hown3 hgrow hr3 hb3
        go_wp2_with fail
        go_roundw
        case rel => exact ⟨1, by omega, rfl, HR3.out, HB3.out⟩
        case measure => simp [intOf]
      · have hown := HO.out
        go_wp2_with (at_builtin; refine wpList_append_own _ rfl (.tmp 19) (.tmp 22) 69 rfl w1.heap.size 51 i0 (.int .u32 0) 1 4 Tryz.underlying69 hi hz0 hz1 hz2 rfl (by decide) _ (1 + 1) _ rfl (hown.alloc _) ⟨wr.heap.size, 0, none⟩ 1 1 [.int .u32 n] rfl rfl (World.news_of_block (cs := #[.int .u32 n]) (t := 51) (fr := (0, 0)) (heap_alloc_new wr _)) (by simp [Value.oneCell']) (by unfold maxLen; omega) (by omega) (by simpa using hbel') ?_; intro l' w3 hown3 hgrow _)
        have hb3 : Below w1.heap.size w2 w3 := (HBE.out.alloc (by omega) _).grown hgrow (by simp; omega) (fun q hq => (hown.lt q hq).1)
        have hr3 : w3.ownsRow w1.heap.size 51 1 l' (1 + 2) ((⟨k, c, n, s, d, r, o⟩ : Tag).row (1 + 2)) := hown3
        have HR3 := Hd.mk hr3
        have HB3 := Hd.mk hb3
        clear hown hown3 hgrow hr3 hb3
        go_wp2_with fail
        go_roundw
        case rel => exact ⟨2, by omega, rfl, HR3.out, HB3.out⟩
        case measure => simp [intOf]
      · have hown := HO.out
        go_wp2_with (at_builtin; refine wpList_append_own _ rfl (.tmp 19) (.tmp 22) 69 rfl w1.heap.size 51 i0 (.int .u32 0) 1 4 Tryz.underlying69 hi hz0 hz1 hz2 rfl (by decide) _ (1 + 2) _ rfl (hown.alloc _) ⟨wr.heap.size, 0, none⟩ 1 1 [.int .u32 s] rfl rfl (World.news_of_block (cs := #[.int .u32 s]) (t := 51) (fr := (0, 0)) (heap_alloc_new wr _)) (by simp [Value.oneCell']) (by unfold maxLen; omega) (by omega) (by simpa using hbel') ?_; intro l' w3 hown3 hgrow _)
        have hb3 : Below w1.heap.size w2 w3 := (HBE.out.alloc (by omega) _).grown hgrow (by simp; omega) (fun q hq => (hown.lt q hq).1)
        have hr3 : w3.ownsRow w1.heap.size 51 1 l' (1 + 3) ((⟨k, c, n, s, d, r, o⟩ : Tag).row (1 + 3)) := hown3
        have HR3 := Hd.mk hr3
        have HB3 := Hd.mk hb3
        clear hown hown3 hgrow hr3 hb3
        go_wp2_with fail
        go_roundw
        case rel => exact ⟨3, by omega, rfl, HR3.out, HB3.out⟩
        case measure => simp [intOf]
      · have hown := HO.out
        go_wp2_with (at_builtin; refine wpList_append_own _ rfl (.tmp 19) (.tmp 22) 69 rfl w1.heap.size 51 i0 (.int .u32 0) 1 4 Tryz.underlying69 hi hz0 hz1 hz2 rfl (by decide) _ (1 + 3) _ rfl (hown.alloc _) ⟨wr.heap.size, 0, none⟩ 1 1 [.int .u32 d] rfl rfl (World.news_of_block (cs := #[.int .u32 d]) (t := 51) (fr := (0, 0)) (heap_alloc_new wr _)) (by simp [Value.oneCell']) (by unfold maxLen; omega) (by omega) (by simpa using hbel') ?_; intro l' w3 hown3 hgrow _)
        have hb3 : Below w1.heap.size w2 w3 := (HBE.out.alloc (by omega) _).grown hgrow (by simp; omega) (fun q hq => (hown.lt q hq).1)
        have hr3 : w3.ownsRow w1.heap.size 51 1 l' (1 + 4) ((⟨k, c, n, s, d, r, o⟩ : Tag).row (1 + 4)) := hown3
        have HR3 := Hd.mk hr3
        have HB3 := Hd.mk hb3
        clear hown hown3 hgrow hr3 hb3
        go_wp2_with fail
        go_roundw
        case rel => exact ⟨4, by omega, rfl, HR3.out, HB3.out⟩
        case measure => simp [intOf]
      · have hown := HO.out
        go_wp2_with (at_builtin; refine wpList_append_own _ rfl (.tmp 19) (.tmp 22) 69 rfl w1.heap.size 51 i0 (.int .u32 0) 1 4 Tryz.underlying69 hi hz0 hz1 hz2 rfl (by decide) _ (1 + 4) _ rfl (hown.alloc _) ⟨wr.heap.size, 0, none⟩ 1 1 [.int .u32 r] rfl rfl (World.news_of_block (cs := #[.int .u32 r]) (t := 51) (fr := (0, 0)) (heap_alloc_new wr _)) (by simp [Value.oneCell']) (by unfold maxLen; omega) (by omega) (by simpa using hbel') ?_; intro l' w3 hown3 hgrow _)
        have hb3 : Below w1.heap.size w2 w3 := (HBE.out.alloc (by omega) _).grown hgrow (by simp; omega) (fun q hq => (hown.lt q hq).1)
        have hr3 : w3.ownsRow w1.heap.size 51 1 l' (1 + 5) ((⟨k, c, n, s, d, r, o⟩ : Tag).row (1 + 5)) := hown3
        have HR3 := Hd.mk hr3
        have HB3 := Hd.mk hb3
        clear hown hown3 hgrow hr3 hb3
        go_wp2_with fail
        go_roundw
        case rel => exact ⟨5, by omega, rfl, HR3.out, HB3.out⟩
        case measure => simp [intOf]
      · have hown := HO.out
        go_wp2_with (at_builtin; refine wpList_append_own _ rfl (.tmp 25) (.tmp 29) 69 rfl w1.heap.size 51 i0 (.int .u32 0) 1 4 Tryz.underlying69 hi hz0 hz1 hz2 rfl (by decide) _ (1 + 5) _ rfl (hown.alloc _) ⟨wr.heap.size, 0, none⟩ 2 2 [.int .u32 0, .int .u32 o] rfl rfl (World.news_of_block (cs := #[.int .u32 0, .int .u32 o]) (t := 51) (fr := (0, 0)) (heap_alloc_new wr _)) (by simp [Value.oneCell']) (by unfold maxLen; omega) (by omega) (by simpa using hbel') ?_; intro l' w3 hown3 hgrow _)
        have hb3 : Below w1.heap.size w2 w3 := (HBE.out.alloc (by omega) _).grown hgrow (by simp; omega) (fun q hq => (hown.lt q hq).1)
        have hr3 : w3.ownsRow w1.heap.size 51 1 l' 8 ((⟨k, c, n, s, d, r, o⟩ : Tag).row 8) := hown3
        obtain ⟨g, cap, rfl, hg0, hg1⟩ := hr3.form (by omega)
        have HR3 := Hd.mk (hr3.alloc (.cells #[.int .i64 2, .int .i64 1, .int .i64 1, .int .i64 1, .int .i64 1, .int .i64 1, .int .i64 1, .int .i64 24] 3))
        have HB3 := Hd.mk hb3
        clear hown hown3 hgrow hr3 hb3
        go_wp2_with fail
        refine (Join_c g w3.heap.size cap 8 ((⟨k, c, n, s, d, r, o⟩ : Tag).piece) _ (fun i hi => ?_) (fun i hi => ?_) HB.out ?_ ?_ ?_ ?_ ?_ ?_ ?_ ?_).mono ?_
        · rw [HR3.out.cellAt i (by omega)]
          simp [Tag.row, hi]
        · rw [(Blk.new w3 _ _).cell i]
          rcases (by omega : i = 0 ∨ i = 1 ∨ i = 2 ∨ i = 3 ∨ i = 4 ∨ i = 5 ∨ i = 6 ∨ i = 7) with rfl | rfl | rfl | rfl | rfl | rfl | rfl | rfl <;> rfl
        all_goals first | (simp only [Tag.piece]; omega) | skip
        rintro _ _ ⟨rfl, rfl⟩
        rw [HW8.out]
        go_wp2_with fail
        go_ret2
        refine ⟨rfl, ?_⟩
        have hb := HB3.out
        refine Stays.alloc ?_ _
        refine Stays.of_below ?_
        exact (((((Below.refl w.heap.size w).alloc (Nat.le_refl _) _).trans (K1.below.mono (by simp))).alloc (by omega) _).trans (K2.below.mono (by simp; omega))).trans (hb.mono (by omega))
  · have hf : tagRight t = false := by simpa using hr
    have e1 : (tagPack t).1 = 0 := by unfold tagPack; rw [if_neg hr]
    have e2 : (tagPack t).2 = 2 := by unfold tagPack; rw [if_neg hr]
    rw [e1, e2]
    clear e1 e2
    have HR := Right_c t (w.alloc (.cells #[.int .i64 t.kind, .int .i64 t.color, .int .i64 t.count, .int .i64 t.shade, .int .i64 t.dead, .int .i64 t.ring, .int .i64 t.owner] 149)) (Z.alloc _) hu
    rw [hf] at HR
    have HR' := Hd.mk HR
    clear HR hr hf hu Z
    obtain ⟨k, c, n, s, d, r, o⟩ := t
    go_enter Tryz.func225, Tryz.ntmps225
    go_wp2_with fail
    refine HR'.out.mono ?_
    rintro _ w1 ⟨rfl, K1⟩
    clear HR'
    go_wp2_with fail
    go_ret2
    exact ⟨rfl, ((Stays.refl _ _).alloc _).trans K1⟩
end Go.Proofs.YtadhdjldcpkfiaaGreatDoor
