/- A head's tag, as tint and ring ask for it. Nothing is asked but that the ground lies there. -/
/- A block's tag, as ring asks for it. Nothing is asked but that the ground lies there. -/
import Derived.Test.YtadhdjldcpkfiaaGreatDoorTg
import Derived.Test.YtadhdjldcpkfiaaGreatDoorC3
import Derived.Test.YtadhdjldcpkfiaaGreatDoorS
namespace Go.Proofs.YtadhdjldcpkfiaaGreatDoor
set_option linter.unusedVariables false
set_option linter.unusedSimpArgs false
open Go.RowKit
set_option maxRecDepth 100000
set_option maxHeartbeats 1600000

def tag0 : Tag := ⟨0, 0, 0, 0, 0, 0, 0⟩
/-- An object's tag, and whether there is one. -/
def tiOf (r : Int) : GM (Tag × Bool) := fun S =>
  if r < 1 then (((tag0, false) : Tag × Bool), S) else
  if r > S.n then ((tag0, false), S) else
  match Word (r - 1) 0 S with
  | (v, T) => ((tagOf v, decide ((tagOf v).kind = 1) || decide ((tagOf v).kind = 2)), T)

theorem tiOf_c {A : GA} {S : GS} {w : World} (H : Held A S w) {r : Int} {t : Tag} {b : Bool} {T : GS} (e : tiOf r S = ((t, b), T)) :
    Calls Tryz.prog 169 #[.pointer (some ⟨A.g, 0, none⟩), .int .i64 r] w (Did A w (.tuple #[.agg #[.int .i64 t.kind, .int .i64 t.color, .int .i64 t.count, .int .i64 t.shade, .int .i64 t.dead, .int .i64 t.ring, .int .i64 t.owner], .bool b]) T) := by
  unfold tiOf at e
  have hn2 := H.ok.n2
  by_cases c1 : r < 1
  · rw [if_pos c1] at e
    cases e
    go_enter Tryz.func169, Tryz.ntmps169
    go_wp2_with fail
    refine bodyPost_ret (v := .tuple #[.agg #[.int .i64 0, .int .i64 0, .int .i64 0, .int .i64 0, .int .i64 0, .int .i64 0, .int .i64 0], .bool false]) (by simp [results, Tryz.results169, go_sem]) rfl ⟨rfl, H.alloc _, (Stays.refl _ _).alloc _⟩
  rw [if_neg c1] at e
  by_cases c2 : r > S.n
  · rw [if_pos c2] at e
    cases e
    go_enter Tryz.func169, Tryz.ntmps169
    go_wp2_with fail
    refine (conf_c (H.alloc _)).mono ?_
    rintro _ w1 ⟨rfl, H1, K1⟩
    have B1 := Blk.stays (Blk.new w 149 #[.int .i64 0, .int .i64 0, .int .i64 0, .int .i64 0, .int .i64 0, .int .i64 0, .int .i64 0]) K1 (GA.foot_far H.top)
    go_wp2_with (refine wpList_store_blk rfl 149 (.tmp 4) (.tmp 20) rfl w.heap.size rfl 149 _ _ rfl B1 (by kernel_rfl) rfl (by simp [Value.oneCell']) ?_; intro w2 B2 K2)
    refine bodyPost_ret (results_blk_tmp (fn := Tryz.f169) rfl _ _ _ _ _ _ rfl B2 Tryz.underlying149 rfl (by kernel_rfl)) rfl ⟨rfl, H1.own K2 H.top, ?_⟩
    exact (((Stays.refl _ _).alloc _).trans K1).own K2 (Nat.le_refl _)
  rw [if_neg c2] at e
  obtain ⟨v, S1, e1⟩ : ∃ v S1, Word (r - 1) 0 S = (v, S1) := ⟨_, _, rfl⟩
  rw [e1] at e
  cases e
  have e1' := Hd.mk e1
  obtain ⟨h0, h1⟩ := stGet_range H.ok e1
  clear e1
  have hk : 0 ≤ (tagOf v).kind ∧ (tagOf v).kind < 4 := by simp only [tagOf]; omega
  by_cases k0 : (tagOf v).kind = 1
  · have hb : (decide ((tagOf v).kind = 1) || decide ((tagOf v).kind = 2)) = true := by simp [k0]
    rw [hb]
    clear hb
    have kb : ((tagOf v).kind == 1) = true := beq_iff_eq.2 k0
    have KK := Hd.mk k0
    clear k0
    go_enter Tryz.func169, Tryz.ntmps169
    go_wp2_with fail
    refine (conf_c (H.alloc _)).mono ?_
    rintro _ w1 ⟨rfl, H1, K1⟩
    have B1 := Blk.stays (Blk.new w 149 #[.int .i64 0, .int .i64 0, .int .i64 0, .int .i64 0, .int .i64 0, .int .i64 0, .int .i64 0]) K1 (GA.foot_far H.top)
    go_wp2_with fail
    refine (Word_c H1 e1'.out).mono ?_
    rintro _ w2 ⟨rfl, H2, K2⟩
    have B2 := B1.stays K2 (GA.foot_far H.top)
    go_wp2_with fail
    refine (Unpack_c v w2 h0 h1).mono ?_
    rintro _ w3 ⟨rfl, K3⟩
    unfold Tag.val
    generalize tagOf v = tg at *
    have H3 := H2.stays K3 (fun _ _ x => x)
    have B3 := (B2.stays K3 (fun x => x)).alloc (.cells #[.int .i64 tg.kind, .int .i64 tg.color, .int .i64 tg.count, .int .i64 tg.shade, .int .i64 tg.dead, .int .i64 tg.ring, .int .i64 tg.owner] 149)
    have a1 : w.heap.size + 1 ≤ w1.heap.size := by simpa using K1.size
    have a2 := K2.size
    have a3 := K3.size
    have hne : w.heap.size < w3.heap.size := by omega
    have D3 := Blk.new w3 149 #[.int .i64 tg.kind, .int .i64 tg.color, .int .i64 tg.count, .int .i64 tg.shade, .int .i64 tg.dead, .int .i64 tg.ring, .int .i64 tg.owner]
    have H4 := H3.alloc (Obj.cells #[.int .i64 tg.kind, .int .i64 tg.color, .int .i64 tg.count, .int .i64 tg.shade, .int .i64 tg.dead, .int .i64 tg.ring, .int .i64 tg.owner] 149)
    have K4 := K3.alloc (Obj.cells #[.int .i64 tg.kind, .int .i64 tg.color, .int .i64 tg.count, .int .i64 tg.shade, .int .i64 tg.dead, .int .i64 tg.ring, .int .i64 tg.owner] 149)
    go_wp2_with fail
    generalize hw4 : w3.alloc (Obj.cells #[.int .i64 tg.kind, .int .i64 tg.color, .int .i64 tg.count, .int .i64 tg.shade, .int .i64 tg.dead, .int .i64 tg.ring, .int .i64 tg.owner] 149) = w4 at *
    clear hw4 B1 B2 H3 K3
    have hlt : ¬ w.heap.size = w3.heap.size := by omega
    have hlt' : ¬ w3.heap.size = w.heap.size := by omega
    have b0 : w4.cell? ⟨w.heap.size, 0, none⟩ = some (.int .i64 0) := B3.cell 0
    have f0 : w4.frozen? ⟨w.heap.size, 0, none⟩ = false := B3.frozen 0
    have d0 : w4.cell? ⟨w3.heap.size, 0, none⟩ = some (.int .i64 tg.kind) := D3.cell 0
    have b1 : w4.cell? ⟨w.heap.size, 1, none⟩ = some (.int .i64 0) := B3.cell 1
    have f1 : w4.frozen? ⟨w.heap.size, 1, none⟩ = false := B3.frozen 1
    have d1 : w4.cell? ⟨w3.heap.size, 1, none⟩ = some (.int .i64 tg.color) := D3.cell 1
    have b2 : w4.cell? ⟨w.heap.size, 2, none⟩ = some (.int .i64 0) := B3.cell 2
    have f2 : w4.frozen? ⟨w.heap.size, 2, none⟩ = false := B3.frozen 2
    have d2 : w4.cell? ⟨w3.heap.size, 2, none⟩ = some (.int .i64 tg.count) := D3.cell 2
    have b3 : w4.cell? ⟨w.heap.size, 3, none⟩ = some (.int .i64 0) := B3.cell 3
    have f3 : w4.frozen? ⟨w.heap.size, 3, none⟩ = false := B3.frozen 3
    have d3 : w4.cell? ⟨w3.heap.size, 3, none⟩ = some (.int .i64 tg.shade) := D3.cell 3
    have b4 : w4.cell? ⟨w.heap.size, 4, none⟩ = some (.int .i64 0) := B3.cell 4
    have f4 : w4.frozen? ⟨w.heap.size, 4, none⟩ = false := B3.frozen 4
    have d4 : w4.cell? ⟨w3.heap.size, 4, none⟩ = some (.int .i64 tg.dead) := D3.cell 4
    have b5 : w4.cell? ⟨w.heap.size, 5, none⟩ = some (.int .i64 0) := B3.cell 5
    have f5 : w4.frozen? ⟨w.heap.size, 5, none⟩ = false := B3.frozen 5
    have d5 : w4.cell? ⟨w3.heap.size, 5, none⟩ = some (.int .i64 tg.ring) := D3.cell 5
    have b6 : w4.cell? ⟨w.heap.size, 6, none⟩ = some (.int .i64 0) := B3.cell 6
    have f6 : w4.frozen? ⟨w.heap.size, 6, none⟩ = false := B3.frozen 6
    have d6 : w4.cell? ⟨w3.heap.size, 6, none⟩ = some (.int .i64 tg.owner) := D3.cell 6
    go_region
    go_wp2_with fail
    have BF : Blk _ w.heap.size 149 #[.int .i64 tg.kind, .int .i64 tg.color, .int .i64 tg.count, .int .i64 tg.shade, .int .i64 tg.dead, .int .i64 tg.ring, .int .i64 tg.owner] := (((((((B3.set_ 0 (.int .i64 tg.kind)).set_ 1 (.int .i64 tg.color)).set_ 2 (.int .i64 tg.count)).set_ 3 (.int .i64 tg.shade)).set_ 4 (.int .i64 tg.dead)).set_ 5 (.int .i64 tg.ring)).set_ 6 (.int .i64 tg.owner)).drew
    refine bodyPost_ret (v := .tuple #[.agg #[.int .i64 tg.kind, .int .i64 tg.color, .int .i64 tg.count, .int .i64 tg.shade, .int .i64 tg.dead, .int .i64 tg.ring, .int .i64 tg.owner], .bool true]) ?_ rfl ⟨rfl, ?_, ?_⟩
    · have hq := results_blk_tmp (P := Tryz.prog) (fn := Tryz.f169) (p := 4) (u := 5) (ty := 149) rfl
      refine hq _ _ _ _ _ _ ?_ BF Tryz.underlying149 rfl ?_
      · rfl
      · kernel_rfl
    · repeat (first | with_reducible exact H4 | with_reducible apply Held.drew | (with_reducible refine Held.far ?_ (by exact H.top) _))
    · repeat (first | with_reducible apply Stays.drew | (with_reducible refine Stays.setCell ?_ (Or.inr (Nat.le_refl _)) _))
      exact ((((Stays.refl _ _).alloc _).trans K1).trans K2).trans (K4.mono (fun _ x => x.elim))
  by_cases k1 : (tagOf v).kind = 2
  · have hb : (decide ((tagOf v).kind = 1) || decide ((tagOf v).kind = 2)) = true := by simp [k1]
    rw [hb]
    clear hb
    have kb0 : ((tagOf v).kind == 1) = false := beq_eq_false_iff_ne.2 k0
    have kb : ((tagOf v).kind == 2) = true := beq_iff_eq.2 k1
    have KK := Hd.mk k1
    clear k0 k1
    go_enter Tryz.func169, Tryz.ntmps169
    go_wp2_with fail
    refine (conf_c (H.alloc _)).mono ?_
    rintro _ w1 ⟨rfl, H1, K1⟩
    have B1 := Blk.stays (Blk.new w 149 #[.int .i64 0, .int .i64 0, .int .i64 0, .int .i64 0, .int .i64 0, .int .i64 0, .int .i64 0]) K1 (GA.foot_far H.top)
    go_wp2_with fail
    refine (Word_c H1 e1'.out).mono ?_
    rintro _ w2 ⟨rfl, H2, K2⟩
    have B2 := B1.stays K2 (GA.foot_far H.top)
    go_wp2_with fail
    refine (Unpack_c v w2 h0 h1).mono ?_
    rintro _ w3 ⟨rfl, K3⟩
    unfold Tag.val
    generalize tagOf v = tg at *
    have H3 := H2.stays K3 (fun _ _ x => x)
    have B3 := (B2.stays K3 (fun x => x)).alloc (.cells #[.int .i64 tg.kind, .int .i64 tg.color, .int .i64 tg.count, .int .i64 tg.shade, .int .i64 tg.dead, .int .i64 tg.ring, .int .i64 tg.owner] 149)
    have a1 : w.heap.size + 1 ≤ w1.heap.size := by simpa using K1.size
    have a2 := K2.size
    have a3 := K3.size
    have hne : w.heap.size < w3.heap.size := by omega
    have D3 := Blk.new w3 149 #[.int .i64 tg.kind, .int .i64 tg.color, .int .i64 tg.count, .int .i64 tg.shade, .int .i64 tg.dead, .int .i64 tg.ring, .int .i64 tg.owner]
    have H4 := H3.alloc (Obj.cells #[.int .i64 tg.kind, .int .i64 tg.color, .int .i64 tg.count, .int .i64 tg.shade, .int .i64 tg.dead, .int .i64 tg.ring, .int .i64 tg.owner] 149)
    have K4 := K3.alloc (Obj.cells #[.int .i64 tg.kind, .int .i64 tg.color, .int .i64 tg.count, .int .i64 tg.shade, .int .i64 tg.dead, .int .i64 tg.ring, .int .i64 tg.owner] 149)
    go_wp2_with fail
    generalize hw4 : w3.alloc (Obj.cells #[.int .i64 tg.kind, .int .i64 tg.color, .int .i64 tg.count, .int .i64 tg.shade, .int .i64 tg.dead, .int .i64 tg.ring, .int .i64 tg.owner] 149) = w4 at *
    clear hw4 B1 B2 H3 K3
    have hlt : ¬ w.heap.size = w3.heap.size := by omega
    have hlt' : ¬ w3.heap.size = w.heap.size := by omega
    have b0 : w4.cell? ⟨w.heap.size, 0, none⟩ = some (.int .i64 0) := B3.cell 0
    have f0 : w4.frozen? ⟨w.heap.size, 0, none⟩ = false := B3.frozen 0
    have d0 : w4.cell? ⟨w3.heap.size, 0, none⟩ = some (.int .i64 tg.kind) := D3.cell 0
    have b1 : w4.cell? ⟨w.heap.size, 1, none⟩ = some (.int .i64 0) := B3.cell 1
    have f1 : w4.frozen? ⟨w.heap.size, 1, none⟩ = false := B3.frozen 1
    have d1 : w4.cell? ⟨w3.heap.size, 1, none⟩ = some (.int .i64 tg.color) := D3.cell 1
    have b2 : w4.cell? ⟨w.heap.size, 2, none⟩ = some (.int .i64 0) := B3.cell 2
    have f2 : w4.frozen? ⟨w.heap.size, 2, none⟩ = false := B3.frozen 2
    have d2 : w4.cell? ⟨w3.heap.size, 2, none⟩ = some (.int .i64 tg.count) := D3.cell 2
    have b3 : w4.cell? ⟨w.heap.size, 3, none⟩ = some (.int .i64 0) := B3.cell 3
    have f3 : w4.frozen? ⟨w.heap.size, 3, none⟩ = false := B3.frozen 3
    have d3 : w4.cell? ⟨w3.heap.size, 3, none⟩ = some (.int .i64 tg.shade) := D3.cell 3
    have b4 : w4.cell? ⟨w.heap.size, 4, none⟩ = some (.int .i64 0) := B3.cell 4
    have f4 : w4.frozen? ⟨w.heap.size, 4, none⟩ = false := B3.frozen 4
    have d4 : w4.cell? ⟨w3.heap.size, 4, none⟩ = some (.int .i64 tg.dead) := D3.cell 4
    have b5 : w4.cell? ⟨w.heap.size, 5, none⟩ = some (.int .i64 0) := B3.cell 5
    have f5 : w4.frozen? ⟨w.heap.size, 5, none⟩ = false := B3.frozen 5
    have d5 : w4.cell? ⟨w3.heap.size, 5, none⟩ = some (.int .i64 tg.ring) := D3.cell 5
    have b6 : w4.cell? ⟨w.heap.size, 6, none⟩ = some (.int .i64 0) := B3.cell 6
    have f6 : w4.frozen? ⟨w.heap.size, 6, none⟩ = false := B3.frozen 6
    have d6 : w4.cell? ⟨w3.heap.size, 6, none⟩ = some (.int .i64 tg.owner) := D3.cell 6
    go_region
    go_wp2_with fail
    have BF : Blk _ w.heap.size 149 #[.int .i64 tg.kind, .int .i64 tg.color, .int .i64 tg.count, .int .i64 tg.shade, .int .i64 tg.dead, .int .i64 tg.ring, .int .i64 tg.owner] := (((((((B3.set_ 0 (.int .i64 tg.kind)).set_ 1 (.int .i64 tg.color)).set_ 2 (.int .i64 tg.count)).set_ 3 (.int .i64 tg.shade)).set_ 4 (.int .i64 tg.dead)).set_ 5 (.int .i64 tg.ring)).set_ 6 (.int .i64 tg.owner)).drew
    refine bodyPost_ret (v := .tuple #[.agg #[.int .i64 tg.kind, .int .i64 tg.color, .int .i64 tg.count, .int .i64 tg.shade, .int .i64 tg.dead, .int .i64 tg.ring, .int .i64 tg.owner], .bool true]) ?_ rfl ⟨rfl, ?_, ?_⟩
    · have hq := results_blk_tmp (P := Tryz.prog) (fn := Tryz.f169) (p := 4) (u := 5) (ty := 149) rfl
      refine hq _ _ _ _ _ _ ?_ BF Tryz.underlying149 rfl ?_
      · rfl
      · kernel_rfl
    · repeat (first | with_reducible exact H4 | with_reducible apply Held.drew | (with_reducible refine Held.far ?_ (by exact H.top) _))
    · repeat (first | with_reducible apply Stays.drew | (with_reducible refine Stays.setCell ?_ (Or.inr (Nat.le_refl _)) _))
      exact ((((Stays.refl _ _).alloc _).trans K1).trans K2).trans (K4.mono (fun _ x => x.elim))
  · have hb : (decide ((tagOf v).kind = 1) || decide ((tagOf v).kind = 2)) = false := by simp [k0, k1]
    rw [hb]
    clear hb
    have kb0 : ((tagOf v).kind == 1) = false := beq_eq_false_iff_ne.2 k0
    have kb : ((tagOf v).kind == 2) = false := beq_eq_false_iff_ne.2 k1
    clear k0 k1
    go_enter Tryz.func169, Tryz.ntmps169
    go_wp2_with fail
    refine (conf_c (H.alloc _)).mono ?_
    rintro _ w1 ⟨rfl, H1, K1⟩
    have B1 := Blk.stays (Blk.new w 149 #[.int .i64 0, .int .i64 0, .int .i64 0, .int .i64 0, .int .i64 0, .int .i64 0, .int .i64 0]) K1 (GA.foot_far H.top)
    go_wp2_with fail
    refine (Word_c H1 e1'.out).mono ?_
    rintro _ w2 ⟨rfl, H2, K2⟩
    have B2 := B1.stays K2 (GA.foot_far H.top)
    go_wp2_with fail
    refine (Unpack_c v w2 h0 h1).mono ?_
    rintro _ w3 ⟨rfl, K3⟩
    unfold Tag.val
    generalize tagOf v = tg at *
    have H3 := H2.stays K3 (fun _ _ x => x)
    have B3 := (B2.stays K3 (fun x => x)).alloc (.cells #[.int .i64 tg.kind, .int .i64 tg.color, .int .i64 tg.count, .int .i64 tg.shade, .int .i64 tg.dead, .int .i64 tg.ring, .int .i64 tg.owner] 149)
    have a1 : w.heap.size + 1 ≤ w1.heap.size := by simpa using K1.size
    have a2 := K2.size
    have a3 := K3.size
    have hne : w.heap.size < w3.heap.size := by omega
    have D3 := Blk.new w3 149 #[.int .i64 tg.kind, .int .i64 tg.color, .int .i64 tg.count, .int .i64 tg.shade, .int .i64 tg.dead, .int .i64 tg.ring, .int .i64 tg.owner]
    have H4 := H3.alloc (Obj.cells #[.int .i64 tg.kind, .int .i64 tg.color, .int .i64 tg.count, .int .i64 tg.shade, .int .i64 tg.dead, .int .i64 tg.ring, .int .i64 tg.owner] 149)
    have K4 := K3.alloc (Obj.cells #[.int .i64 tg.kind, .int .i64 tg.color, .int .i64 tg.count, .int .i64 tg.shade, .int .i64 tg.dead, .int .i64 tg.ring, .int .i64 tg.owner] 149)
    go_wp2_with fail
    generalize hw4 : w3.alloc (Obj.cells #[.int .i64 tg.kind, .int .i64 tg.color, .int .i64 tg.count, .int .i64 tg.shade, .int .i64 tg.dead, .int .i64 tg.ring, .int .i64 tg.owner] 149) = w4 at *
    clear hw4 B1 B2 H3 K3
    have hlt : ¬ w.heap.size = w3.heap.size := by omega
    have hlt' : ¬ w3.heap.size = w.heap.size := by omega
    have b0 : w4.cell? ⟨w.heap.size, 0, none⟩ = some (.int .i64 0) := B3.cell 0
    have f0 : w4.frozen? ⟨w.heap.size, 0, none⟩ = false := B3.frozen 0
    have d0 : w4.cell? ⟨w3.heap.size, 0, none⟩ = some (.int .i64 tg.kind) := D3.cell 0
    have b1 : w4.cell? ⟨w.heap.size, 1, none⟩ = some (.int .i64 0) := B3.cell 1
    have f1 : w4.frozen? ⟨w.heap.size, 1, none⟩ = false := B3.frozen 1
    have d1 : w4.cell? ⟨w3.heap.size, 1, none⟩ = some (.int .i64 tg.color) := D3.cell 1
    have b2 : w4.cell? ⟨w.heap.size, 2, none⟩ = some (.int .i64 0) := B3.cell 2
    have f2 : w4.frozen? ⟨w.heap.size, 2, none⟩ = false := B3.frozen 2
    have d2 : w4.cell? ⟨w3.heap.size, 2, none⟩ = some (.int .i64 tg.count) := D3.cell 2
    have b3 : w4.cell? ⟨w.heap.size, 3, none⟩ = some (.int .i64 0) := B3.cell 3
    have f3 : w4.frozen? ⟨w.heap.size, 3, none⟩ = false := B3.frozen 3
    have d3 : w4.cell? ⟨w3.heap.size, 3, none⟩ = some (.int .i64 tg.shade) := D3.cell 3
    have b4 : w4.cell? ⟨w.heap.size, 4, none⟩ = some (.int .i64 0) := B3.cell 4
    have f4 : w4.frozen? ⟨w.heap.size, 4, none⟩ = false := B3.frozen 4
    have d4 : w4.cell? ⟨w3.heap.size, 4, none⟩ = some (.int .i64 tg.dead) := D3.cell 4
    have b5 : w4.cell? ⟨w.heap.size, 5, none⟩ = some (.int .i64 0) := B3.cell 5
    have f5 : w4.frozen? ⟨w.heap.size, 5, none⟩ = false := B3.frozen 5
    have d5 : w4.cell? ⟨w3.heap.size, 5, none⟩ = some (.int .i64 tg.ring) := D3.cell 5
    have b6 : w4.cell? ⟨w.heap.size, 6, none⟩ = some (.int .i64 0) := B3.cell 6
    have f6 : w4.frozen? ⟨w.heap.size, 6, none⟩ = false := B3.frozen 6
    have d6 : w4.cell? ⟨w3.heap.size, 6, none⟩ = some (.int .i64 tg.owner) := D3.cell 6
    go_region
    go_wp2_with fail
    have BF : Blk _ w.heap.size 149 #[.int .i64 tg.kind, .int .i64 tg.color, .int .i64 tg.count, .int .i64 tg.shade, .int .i64 tg.dead, .int .i64 tg.ring, .int .i64 tg.owner] := (((((((B3.set_ 0 (.int .i64 tg.kind)).set_ 1 (.int .i64 tg.color)).set_ 2 (.int .i64 tg.count)).set_ 3 (.int .i64 tg.shade)).set_ 4 (.int .i64 tg.dead)).set_ 5 (.int .i64 tg.ring)).set_ 6 (.int .i64 tg.owner)).drew
    refine bodyPost_ret (v := .tuple #[.agg #[.int .i64 tg.kind, .int .i64 tg.color, .int .i64 tg.count, .int .i64 tg.shade, .int .i64 tg.dead, .int .i64 tg.ring, .int .i64 tg.owner], .bool false]) ?_ rfl ⟨rfl, ?_, ?_⟩
    · have hq := results_blk_tmp (P := Tryz.prog) (fn := Tryz.f169) (p := 4) (u := 5) (ty := 149) rfl
      refine hq _ _ _ _ _ _ ?_ BF Tryz.underlying149 rfl ?_
      · rfl
      · kernel_rfl
    · repeat (first | with_reducible exact H4 | with_reducible apply Held.drew | (with_reducible refine Held.far ?_ (by exact H.top) _))
    · repeat (first | with_reducible apply Stays.drew | (with_reducible refine Stays.setCell ?_ (Or.inr (Nat.le_refl _)) _))
      exact ((((Stays.refl _ _).alloc _).trans K1).trans K2).trans (K4.mono (fun _ x => x.elim))
end Go.Proofs.YtadhdjldcpkfiaaGreatDoor
namespace Go.Proofs.YtadhdjldcpkfiaaGreatDoor
set_option linter.unusedVariables false
set_option linter.unusedSimpArgs false
open Go.RowKit
set_option maxRecDepth 100000
set_option maxHeartbeats 1600000

/-- A block's tag, and whether it is a head with that mark. -/
def rgMarked (b m : Int) : GM (Tag × Bool) := fun S =>
  if b < 0 then (((tag0, false) : Tag × Bool), S) else
  if b ≥ S.n then ((tag0, false), S) else
  match Word b 0 S with
  | (v, T) => ((tagOf v, (decide ((tagOf v).kind = 1) || decide ((tagOf v).kind = 2)) && decide ((tagOf v).ring = m)), T)

theorem rgMarked_c {A : GA} {S : GS} {w : World} (H : Held A S w) {r m : Int} {t : Tag} {b : Bool} {T : GS} (e : rgMarked r m S = ((t, b), T)) :
    Calls Tryz.prog 184 #[.pointer (some ⟨A.g, 0, none⟩), .int .i64 r, .int .i64 m] w (Did A w (.tuple #[.agg #[.int .i64 t.kind, .int .i64 t.color, .int .i64 t.count, .int .i64 t.shade, .int .i64 t.dead, .int .i64 t.ring, .int .i64 t.owner], .bool b]) T) := by
  unfold rgMarked at e
  have hn2 := H.ok.n2
  by_cases c1 : r < 0
  · rw [if_pos c1] at e
    cases e
    go_enter Tryz.func184, Tryz.ntmps184
    go_wp2_with fail
    refine bodyPost_ret (v := .tuple #[.agg #[.int .i64 0, .int .i64 0, .int .i64 0, .int .i64 0, .int .i64 0, .int .i64 0, .int .i64 0], .bool false]) (by simp [results, Tryz.results184, go_sem]) rfl ⟨rfl, H.alloc _, (Stays.refl _ _).alloc _⟩
  rw [if_neg c1] at e
  by_cases c2 : r ≥ S.n
  · rw [if_pos c2] at e
    cases e
    go_enter Tryz.func184, Tryz.ntmps184
    go_wp2_with fail
    refine (conf_c (H.alloc _)).mono ?_
    rintro _ w1 ⟨rfl, H1, K1⟩
    have B1 := Blk.stays (Blk.new w 149 #[.int .i64 0, .int .i64 0, .int .i64 0, .int .i64 0, .int .i64 0, .int .i64 0, .int .i64 0]) K1 (GA.foot_far H.top)
    go_wp2_with (refine wpList_store_blk rfl 149 (.tmp 6) (.tmp 22) rfl w.heap.size rfl 149 _ _ rfl B1 (by kernel_rfl) rfl (by simp [Value.oneCell']) ?_; intro w2 B2 K2)
    refine bodyPost_ret (results_blk_tmp (fn := Tryz.f184) (p := 6) (u := 7) rfl _ _ _ _ _ _ rfl B2 Tryz.underlying149 rfl (by kernel_rfl)) rfl ⟨rfl, H1.own K2 H.top, ?_⟩
    exact (((Stays.refl _ _).alloc _).trans K1).own K2 (Nat.le_refl _)
  rw [if_neg c2] at e
  obtain ⟨v, S1, e1⟩ : ∃ v S1, Word r 0 S = (v, S1) := ⟨_, _, rfl⟩
  rw [e1] at e
  cases e
  have e1' := Hd.mk e1
  obtain ⟨h0, h1⟩ := stGet_range H.ok e1
  clear e1
  by_cases k0 : (tagOf v).kind = 1
  · by_cases r0 : (tagOf v).ring = m
    · have hb : ((decide ((tagOf v).kind = 1) || decide ((tagOf v).kind = 2)) && decide ((tagOf v).ring = m)) = true := by simp [k0, r0]
      rw [hb]
      clear hb
      have kb : ((tagOf v).kind == 1) = true := beq_iff_eq.2 k0
      have rb : ((tagOf v).ring == m) = true := beq_iff_eq.2 r0
      clear k0 r0
      go_enter Tryz.func184, Tryz.ntmps184
      go_wp2_with fail
      refine (conf_c (H.alloc _)).mono ?_
      rintro _ w1 ⟨rfl, H1, K1⟩
      have B1 := Blk.stays (Blk.new w 149 #[.int .i64 0, .int .i64 0, .int .i64 0, .int .i64 0, .int .i64 0, .int .i64 0, .int .i64 0]) K1 (GA.foot_far H.top)
      go_wp2_with fail
      refine (Word_c H1 e1'.out).mono ?_
      rintro _ w2 ⟨rfl, H2, K2⟩
      have B2 := B1.stays K2 (GA.foot_far H.top)
      go_wp2_with fail
      refine (Unpack_c v w2 h0 h1).mono ?_
      rintro _ w3 ⟨rfl, K3⟩
      unfold Tag.val
      generalize tagOf v = tg at *
      have H3 := H2.stays K3 (fun _ _ x => x)
      have B3 := (B2.stays K3 (fun x => x)).alloc (.cells #[.int .i64 tg.kind, .int .i64 tg.color, .int .i64 tg.count, .int .i64 tg.shade, .int .i64 tg.dead, .int .i64 tg.ring, .int .i64 tg.owner] 149)
      have a1 : w.heap.size + 1 ≤ w1.heap.size := by simpa using K1.size
      have a2 := K2.size
      have a3 := K3.size
      have hne : w.heap.size < w3.heap.size := by omega
      have D3 := Blk.new w3 149 #[.int .i64 tg.kind, .int .i64 tg.color, .int .i64 tg.count, .int .i64 tg.shade, .int .i64 tg.dead, .int .i64 tg.ring, .int .i64 tg.owner]
      have H4 := H3.alloc (Obj.cells #[.int .i64 tg.kind, .int .i64 tg.color, .int .i64 tg.count, .int .i64 tg.shade, .int .i64 tg.dead, .int .i64 tg.ring, .int .i64 tg.owner] 149)
      have K4 := K3.alloc (Obj.cells #[.int .i64 tg.kind, .int .i64 tg.color, .int .i64 tg.count, .int .i64 tg.shade, .int .i64 tg.dead, .int .i64 tg.ring, .int .i64 tg.owner] 149)
      go_wp2_with fail
      generalize hw4 : w3.alloc (Obj.cells #[.int .i64 tg.kind, .int .i64 tg.color, .int .i64 tg.count, .int .i64 tg.shade, .int .i64 tg.dead, .int .i64 tg.ring, .int .i64 tg.owner] 149) = w4 at *
      clear hw4 B1 B2 H3 K3
      have hlt : ¬ w.heap.size = w3.heap.size := by omega
      have hlt' : ¬ w3.heap.size = w.heap.size := by omega
      have b0 : w4.cell? ⟨w.heap.size, 0, none⟩ = some (.int .i64 0) := B3.cell 0
      have f0 : w4.frozen? ⟨w.heap.size, 0, none⟩ = false := B3.frozen 0
      have d0 : w4.cell? ⟨w3.heap.size, 0, none⟩ = some (.int .i64 tg.kind) := D3.cell 0
      have b1 : w4.cell? ⟨w.heap.size, 1, none⟩ = some (.int .i64 0) := B3.cell 1
      have f1 : w4.frozen? ⟨w.heap.size, 1, none⟩ = false := B3.frozen 1
      have d1 : w4.cell? ⟨w3.heap.size, 1, none⟩ = some (.int .i64 tg.color) := D3.cell 1
      have b2 : w4.cell? ⟨w.heap.size, 2, none⟩ = some (.int .i64 0) := B3.cell 2
      have f2 : w4.frozen? ⟨w.heap.size, 2, none⟩ = false := B3.frozen 2
      have d2 : w4.cell? ⟨w3.heap.size, 2, none⟩ = some (.int .i64 tg.count) := D3.cell 2
      have b3 : w4.cell? ⟨w.heap.size, 3, none⟩ = some (.int .i64 0) := B3.cell 3
      have f3 : w4.frozen? ⟨w.heap.size, 3, none⟩ = false := B3.frozen 3
      have d3 : w4.cell? ⟨w3.heap.size, 3, none⟩ = some (.int .i64 tg.shade) := D3.cell 3
      have b4 : w4.cell? ⟨w.heap.size, 4, none⟩ = some (.int .i64 0) := B3.cell 4
      have f4 : w4.frozen? ⟨w.heap.size, 4, none⟩ = false := B3.frozen 4
      have d4 : w4.cell? ⟨w3.heap.size, 4, none⟩ = some (.int .i64 tg.dead) := D3.cell 4
      have b5 : w4.cell? ⟨w.heap.size, 5, none⟩ = some (.int .i64 0) := B3.cell 5
      have f5 : w4.frozen? ⟨w.heap.size, 5, none⟩ = false := B3.frozen 5
      have d5 : w4.cell? ⟨w3.heap.size, 5, none⟩ = some (.int .i64 tg.ring) := D3.cell 5
      have b6 : w4.cell? ⟨w.heap.size, 6, none⟩ = some (.int .i64 0) := B3.cell 6
      have f6 : w4.frozen? ⟨w.heap.size, 6, none⟩ = false := B3.frozen 6
      have d6 : w4.cell? ⟨w3.heap.size, 6, none⟩ = some (.int .i64 tg.owner) := D3.cell 6
      go_region
      go_wp2_with fail
      have BF : Blk _ w.heap.size 149 #[.int .i64 tg.kind, .int .i64 tg.color, .int .i64 tg.count, .int .i64 tg.shade, .int .i64 tg.dead, .int .i64 tg.ring, .int .i64 tg.owner] := (((((((B3.set_ 0 (.int .i64 tg.kind)).set_ 1 (.int .i64 tg.color)).set_ 2 (.int .i64 tg.count)).set_ 3 (.int .i64 tg.shade)).set_ 4 (.int .i64 tg.dead)).set_ 5 (.int .i64 tg.ring)).set_ 6 (.int .i64 tg.owner)).drew
      refine bodyPost_ret (v := .tuple #[.agg #[.int .i64 tg.kind, .int .i64 tg.color, .int .i64 tg.count, .int .i64 tg.shade, .int .i64 tg.dead, .int .i64 tg.ring, .int .i64 tg.owner], .bool true]) ?_ rfl ⟨rfl, ?_, ?_⟩
      · have hq := results_blk_tmp (P := Tryz.prog) (fn := Tryz.f184) (p := 6) (u := 7) (ty := 149) rfl
        refine hq _ _ _ _ _ _ ?_ BF Tryz.underlying149 rfl ?_
        · rfl
        · kernel_rfl
      · repeat (first | with_reducible exact H4 | with_reducible apply Held.drew | (with_reducible refine Held.far ?_ (by exact H.top) _))
      · repeat (first | with_reducible apply Stays.drew | (with_reducible refine Stays.setCell ?_ (Or.inr (Nat.le_refl _)) _))
        exact ((((Stays.refl _ _).alloc _).trans K1).trans K2).trans (K4.mono (fun _ x => x.elim))
    · have hb : ((decide ((tagOf v).kind = 1) || decide ((tagOf v).kind = 2)) && decide ((tagOf v).ring = m)) = false := by simp [k0, r0]
      rw [hb]
      clear hb
      have kb : ((tagOf v).kind == 1) = true := beq_iff_eq.2 k0
      have rb : ((tagOf v).ring == m) = false := beq_eq_false_iff_ne.2 r0
      clear k0 r0
      go_enter Tryz.func184, Tryz.ntmps184
      go_wp2_with fail
      refine (conf_c (H.alloc _)).mono ?_
      rintro _ w1 ⟨rfl, H1, K1⟩
      have B1 := Blk.stays (Blk.new w 149 #[.int .i64 0, .int .i64 0, .int .i64 0, .int .i64 0, .int .i64 0, .int .i64 0, .int .i64 0]) K1 (GA.foot_far H.top)
      go_wp2_with fail
      refine (Word_c H1 e1'.out).mono ?_
      rintro _ w2 ⟨rfl, H2, K2⟩
      have B2 := B1.stays K2 (GA.foot_far H.top)
      go_wp2_with fail
      refine (Unpack_c v w2 h0 h1).mono ?_
      rintro _ w3 ⟨rfl, K3⟩
      unfold Tag.val
      generalize tagOf v = tg at *
      have H3 := H2.stays K3 (fun _ _ x => x)
      have B3 := (B2.stays K3 (fun x => x)).alloc (.cells #[.int .i64 tg.kind, .int .i64 tg.color, .int .i64 tg.count, .int .i64 tg.shade, .int .i64 tg.dead, .int .i64 tg.ring, .int .i64 tg.owner] 149)
      have a1 : w.heap.size + 1 ≤ w1.heap.size := by simpa using K1.size
      have a2 := K2.size
      have a3 := K3.size
      have hne : w.heap.size < w3.heap.size := by omega
      have D3 := Blk.new w3 149 #[.int .i64 tg.kind, .int .i64 tg.color, .int .i64 tg.count, .int .i64 tg.shade, .int .i64 tg.dead, .int .i64 tg.ring, .int .i64 tg.owner]
      have H4 := H3.alloc (Obj.cells #[.int .i64 tg.kind, .int .i64 tg.color, .int .i64 tg.count, .int .i64 tg.shade, .int .i64 tg.dead, .int .i64 tg.ring, .int .i64 tg.owner] 149)
      have K4 := K3.alloc (Obj.cells #[.int .i64 tg.kind, .int .i64 tg.color, .int .i64 tg.count, .int .i64 tg.shade, .int .i64 tg.dead, .int .i64 tg.ring, .int .i64 tg.owner] 149)
      go_wp2_with fail
      generalize hw4 : w3.alloc (Obj.cells #[.int .i64 tg.kind, .int .i64 tg.color, .int .i64 tg.count, .int .i64 tg.shade, .int .i64 tg.dead, .int .i64 tg.ring, .int .i64 tg.owner] 149) = w4 at *
      clear hw4 B1 B2 H3 K3
      have hlt : ¬ w.heap.size = w3.heap.size := by omega
      have hlt' : ¬ w3.heap.size = w.heap.size := by omega
      have b0 : w4.cell? ⟨w.heap.size, 0, none⟩ = some (.int .i64 0) := B3.cell 0
      have f0 : w4.frozen? ⟨w.heap.size, 0, none⟩ = false := B3.frozen 0
      have d0 : w4.cell? ⟨w3.heap.size, 0, none⟩ = some (.int .i64 tg.kind) := D3.cell 0
      have b1 : w4.cell? ⟨w.heap.size, 1, none⟩ = some (.int .i64 0) := B3.cell 1
      have f1 : w4.frozen? ⟨w.heap.size, 1, none⟩ = false := B3.frozen 1
      have d1 : w4.cell? ⟨w3.heap.size, 1, none⟩ = some (.int .i64 tg.color) := D3.cell 1
      have b2 : w4.cell? ⟨w.heap.size, 2, none⟩ = some (.int .i64 0) := B3.cell 2
      have f2 : w4.frozen? ⟨w.heap.size, 2, none⟩ = false := B3.frozen 2
      have d2 : w4.cell? ⟨w3.heap.size, 2, none⟩ = some (.int .i64 tg.count) := D3.cell 2
      have b3 : w4.cell? ⟨w.heap.size, 3, none⟩ = some (.int .i64 0) := B3.cell 3
      have f3 : w4.frozen? ⟨w.heap.size, 3, none⟩ = false := B3.frozen 3
      have d3 : w4.cell? ⟨w3.heap.size, 3, none⟩ = some (.int .i64 tg.shade) := D3.cell 3
      have b4 : w4.cell? ⟨w.heap.size, 4, none⟩ = some (.int .i64 0) := B3.cell 4
      have f4 : w4.frozen? ⟨w.heap.size, 4, none⟩ = false := B3.frozen 4
      have d4 : w4.cell? ⟨w3.heap.size, 4, none⟩ = some (.int .i64 tg.dead) := D3.cell 4
      have b5 : w4.cell? ⟨w.heap.size, 5, none⟩ = some (.int .i64 0) := B3.cell 5
      have f5 : w4.frozen? ⟨w.heap.size, 5, none⟩ = false := B3.frozen 5
      have d5 : w4.cell? ⟨w3.heap.size, 5, none⟩ = some (.int .i64 tg.ring) := D3.cell 5
      have b6 : w4.cell? ⟨w.heap.size, 6, none⟩ = some (.int .i64 0) := B3.cell 6
      have f6 : w4.frozen? ⟨w.heap.size, 6, none⟩ = false := B3.frozen 6
      have d6 : w4.cell? ⟨w3.heap.size, 6, none⟩ = some (.int .i64 tg.owner) := D3.cell 6
      go_region
      go_wp2_with fail
      have BF : Blk _ w.heap.size 149 #[.int .i64 tg.kind, .int .i64 tg.color, .int .i64 tg.count, .int .i64 tg.shade, .int .i64 tg.dead, .int .i64 tg.ring, .int .i64 tg.owner] := (((((((B3.set_ 0 (.int .i64 tg.kind)).set_ 1 (.int .i64 tg.color)).set_ 2 (.int .i64 tg.count)).set_ 3 (.int .i64 tg.shade)).set_ 4 (.int .i64 tg.dead)).set_ 5 (.int .i64 tg.ring)).set_ 6 (.int .i64 tg.owner)).drew
      refine bodyPost_ret (v := .tuple #[.agg #[.int .i64 tg.kind, .int .i64 tg.color, .int .i64 tg.count, .int .i64 tg.shade, .int .i64 tg.dead, .int .i64 tg.ring, .int .i64 tg.owner], .bool false]) ?_ rfl ⟨rfl, ?_, ?_⟩
      · have hq := results_blk_tmp (P := Tryz.prog) (fn := Tryz.f184) (p := 6) (u := 7) (ty := 149) rfl
        refine hq _ _ _ _ _ _ ?_ BF Tryz.underlying149 rfl ?_
        · rfl
        · kernel_rfl
      · repeat (first | with_reducible exact H4 | with_reducible apply Held.drew | (with_reducible refine Held.far ?_ (by exact H.top) _))
      · repeat (first | with_reducible apply Stays.drew | (with_reducible refine Stays.setCell ?_ (Or.inr (Nat.le_refl _)) _))
        exact ((((Stays.refl _ _).alloc _).trans K1).trans K2).trans (K4.mono (fun _ x => x.elim))
  by_cases k1 : (tagOf v).kind = 2
  · by_cases r0 : (tagOf v).ring = m
    · have hb : ((decide ((tagOf v).kind = 1) || decide ((tagOf v).kind = 2)) && decide ((tagOf v).ring = m)) = true := by simp [k1, r0]
      rw [hb]
      clear hb
      have kb0 : ((tagOf v).kind == 1) = false := beq_eq_false_iff_ne.2 k0
      have kb : ((tagOf v).kind == 2) = true := beq_iff_eq.2 k1
      have rb : ((tagOf v).ring == m) = true := beq_iff_eq.2 r0
      clear k0 k1 r0
      go_enter Tryz.func184, Tryz.ntmps184
      go_wp2_with fail
      refine (conf_c (H.alloc _)).mono ?_
      rintro _ w1 ⟨rfl, H1, K1⟩
      have B1 := Blk.stays (Blk.new w 149 #[.int .i64 0, .int .i64 0, .int .i64 0, .int .i64 0, .int .i64 0, .int .i64 0, .int .i64 0]) K1 (GA.foot_far H.top)
      go_wp2_with fail
      refine (Word_c H1 e1'.out).mono ?_
      rintro _ w2 ⟨rfl, H2, K2⟩
      have B2 := B1.stays K2 (GA.foot_far H.top)
      go_wp2_with fail
      refine (Unpack_c v w2 h0 h1).mono ?_
      rintro _ w3 ⟨rfl, K3⟩
      unfold Tag.val
      generalize tagOf v = tg at *
      have H3 := H2.stays K3 (fun _ _ x => x)
      have B3 := (B2.stays K3 (fun x => x)).alloc (.cells #[.int .i64 tg.kind, .int .i64 tg.color, .int .i64 tg.count, .int .i64 tg.shade, .int .i64 tg.dead, .int .i64 tg.ring, .int .i64 tg.owner] 149)
      have a1 : w.heap.size + 1 ≤ w1.heap.size := by simpa using K1.size
      have a2 := K2.size
      have a3 := K3.size
      have hne : w.heap.size < w3.heap.size := by omega
      have D3 := Blk.new w3 149 #[.int .i64 tg.kind, .int .i64 tg.color, .int .i64 tg.count, .int .i64 tg.shade, .int .i64 tg.dead, .int .i64 tg.ring, .int .i64 tg.owner]
      have H4 := H3.alloc (Obj.cells #[.int .i64 tg.kind, .int .i64 tg.color, .int .i64 tg.count, .int .i64 tg.shade, .int .i64 tg.dead, .int .i64 tg.ring, .int .i64 tg.owner] 149)
      have K4 := K3.alloc (Obj.cells #[.int .i64 tg.kind, .int .i64 tg.color, .int .i64 tg.count, .int .i64 tg.shade, .int .i64 tg.dead, .int .i64 tg.ring, .int .i64 tg.owner] 149)
      go_wp2_with fail
      generalize hw4 : w3.alloc (Obj.cells #[.int .i64 tg.kind, .int .i64 tg.color, .int .i64 tg.count, .int .i64 tg.shade, .int .i64 tg.dead, .int .i64 tg.ring, .int .i64 tg.owner] 149) = w4 at *
      clear hw4 B1 B2 H3 K3
      have hlt : ¬ w.heap.size = w3.heap.size := by omega
      have hlt' : ¬ w3.heap.size = w.heap.size := by omega
      have b0 : w4.cell? ⟨w.heap.size, 0, none⟩ = some (.int .i64 0) := B3.cell 0
      have f0 : w4.frozen? ⟨w.heap.size, 0, none⟩ = false := B3.frozen 0
      have d0 : w4.cell? ⟨w3.heap.size, 0, none⟩ = some (.int .i64 tg.kind) := D3.cell 0
      have b1 : w4.cell? ⟨w.heap.size, 1, none⟩ = some (.int .i64 0) := B3.cell 1
      have f1 : w4.frozen? ⟨w.heap.size, 1, none⟩ = false := B3.frozen 1
      have d1 : w4.cell? ⟨w3.heap.size, 1, none⟩ = some (.int .i64 tg.color) := D3.cell 1
      have b2 : w4.cell? ⟨w.heap.size, 2, none⟩ = some (.int .i64 0) := B3.cell 2
      have f2 : w4.frozen? ⟨w.heap.size, 2, none⟩ = false := B3.frozen 2
      have d2 : w4.cell? ⟨w3.heap.size, 2, none⟩ = some (.int .i64 tg.count) := D3.cell 2
      have b3 : w4.cell? ⟨w.heap.size, 3, none⟩ = some (.int .i64 0) := B3.cell 3
      have f3 : w4.frozen? ⟨w.heap.size, 3, none⟩ = false := B3.frozen 3
      have d3 : w4.cell? ⟨w3.heap.size, 3, none⟩ = some (.int .i64 tg.shade) := D3.cell 3
      have b4 : w4.cell? ⟨w.heap.size, 4, none⟩ = some (.int .i64 0) := B3.cell 4
      have f4 : w4.frozen? ⟨w.heap.size, 4, none⟩ = false := B3.frozen 4
      have d4 : w4.cell? ⟨w3.heap.size, 4, none⟩ = some (.int .i64 tg.dead) := D3.cell 4
      have b5 : w4.cell? ⟨w.heap.size, 5, none⟩ = some (.int .i64 0) := B3.cell 5
      have f5 : w4.frozen? ⟨w.heap.size, 5, none⟩ = false := B3.frozen 5
      have d5 : w4.cell? ⟨w3.heap.size, 5, none⟩ = some (.int .i64 tg.ring) := D3.cell 5
      have b6 : w4.cell? ⟨w.heap.size, 6, none⟩ = some (.int .i64 0) := B3.cell 6
      have f6 : w4.frozen? ⟨w.heap.size, 6, none⟩ = false := B3.frozen 6
      have d6 : w4.cell? ⟨w3.heap.size, 6, none⟩ = some (.int .i64 tg.owner) := D3.cell 6
      go_region
      go_wp2_with fail
      have BF : Blk _ w.heap.size 149 #[.int .i64 tg.kind, .int .i64 tg.color, .int .i64 tg.count, .int .i64 tg.shade, .int .i64 tg.dead, .int .i64 tg.ring, .int .i64 tg.owner] := (((((((B3.set_ 0 (.int .i64 tg.kind)).set_ 1 (.int .i64 tg.color)).set_ 2 (.int .i64 tg.count)).set_ 3 (.int .i64 tg.shade)).set_ 4 (.int .i64 tg.dead)).set_ 5 (.int .i64 tg.ring)).set_ 6 (.int .i64 tg.owner)).drew
      refine bodyPost_ret (v := .tuple #[.agg #[.int .i64 tg.kind, .int .i64 tg.color, .int .i64 tg.count, .int .i64 tg.shade, .int .i64 tg.dead, .int .i64 tg.ring, .int .i64 tg.owner], .bool true]) ?_ rfl ⟨rfl, ?_, ?_⟩
      · have hq := results_blk_tmp (P := Tryz.prog) (fn := Tryz.f184) (p := 6) (u := 7) (ty := 149) rfl
        refine hq _ _ _ _ _ _ ?_ BF Tryz.underlying149 rfl ?_
        · rfl
        · kernel_rfl
      · repeat (first | with_reducible exact H4 | with_reducible apply Held.drew | (with_reducible refine Held.far ?_ (by exact H.top) _))
      · repeat (first | with_reducible apply Stays.drew | (with_reducible refine Stays.setCell ?_ (Or.inr (Nat.le_refl _)) _))
        exact ((((Stays.refl _ _).alloc _).trans K1).trans K2).trans (K4.mono (fun _ x => x.elim))
    · have hb : ((decide ((tagOf v).kind = 1) || decide ((tagOf v).kind = 2)) && decide ((tagOf v).ring = m)) = false := by simp [k1, r0]
      rw [hb]
      clear hb
      have kb0 : ((tagOf v).kind == 1) = false := beq_eq_false_iff_ne.2 k0
      have kb : ((tagOf v).kind == 2) = true := beq_iff_eq.2 k1
      have rb : ((tagOf v).ring == m) = false := beq_eq_false_iff_ne.2 r0
      clear k0 k1 r0
      go_enter Tryz.func184, Tryz.ntmps184
      go_wp2_with fail
      refine (conf_c (H.alloc _)).mono ?_
      rintro _ w1 ⟨rfl, H1, K1⟩
      have B1 := Blk.stays (Blk.new w 149 #[.int .i64 0, .int .i64 0, .int .i64 0, .int .i64 0, .int .i64 0, .int .i64 0, .int .i64 0]) K1 (GA.foot_far H.top)
      go_wp2_with fail
      refine (Word_c H1 e1'.out).mono ?_
      rintro _ w2 ⟨rfl, H2, K2⟩
      have B2 := B1.stays K2 (GA.foot_far H.top)
      go_wp2_with fail
      refine (Unpack_c v w2 h0 h1).mono ?_
      rintro _ w3 ⟨rfl, K3⟩
      unfold Tag.val
      generalize tagOf v = tg at *
      have H3 := H2.stays K3 (fun _ _ x => x)
      have B3 := (B2.stays K3 (fun x => x)).alloc (.cells #[.int .i64 tg.kind, .int .i64 tg.color, .int .i64 tg.count, .int .i64 tg.shade, .int .i64 tg.dead, .int .i64 tg.ring, .int .i64 tg.owner] 149)
      have a1 : w.heap.size + 1 ≤ w1.heap.size := by simpa using K1.size
      have a2 := K2.size
      have a3 := K3.size
      have hne : w.heap.size < w3.heap.size := by omega
      have D3 := Blk.new w3 149 #[.int .i64 tg.kind, .int .i64 tg.color, .int .i64 tg.count, .int .i64 tg.shade, .int .i64 tg.dead, .int .i64 tg.ring, .int .i64 tg.owner]
      have H4 := H3.alloc (Obj.cells #[.int .i64 tg.kind, .int .i64 tg.color, .int .i64 tg.count, .int .i64 tg.shade, .int .i64 tg.dead, .int .i64 tg.ring, .int .i64 tg.owner] 149)
      have K4 := K3.alloc (Obj.cells #[.int .i64 tg.kind, .int .i64 tg.color, .int .i64 tg.count, .int .i64 tg.shade, .int .i64 tg.dead, .int .i64 tg.ring, .int .i64 tg.owner] 149)
      go_wp2_with fail
      generalize hw4 : w3.alloc (Obj.cells #[.int .i64 tg.kind, .int .i64 tg.color, .int .i64 tg.count, .int .i64 tg.shade, .int .i64 tg.dead, .int .i64 tg.ring, .int .i64 tg.owner] 149) = w4 at *
      clear hw4 B1 B2 H3 K3
      have hlt : ¬ w.heap.size = w3.heap.size := by omega
      have hlt' : ¬ w3.heap.size = w.heap.size := by omega
      have b0 : w4.cell? ⟨w.heap.size, 0, none⟩ = some (.int .i64 0) := B3.cell 0
      have f0 : w4.frozen? ⟨w.heap.size, 0, none⟩ = false := B3.frozen 0
      have d0 : w4.cell? ⟨w3.heap.size, 0, none⟩ = some (.int .i64 tg.kind) := D3.cell 0
      have b1 : w4.cell? ⟨w.heap.size, 1, none⟩ = some (.int .i64 0) := B3.cell 1
      have f1 : w4.frozen? ⟨w.heap.size, 1, none⟩ = false := B3.frozen 1
      have d1 : w4.cell? ⟨w3.heap.size, 1, none⟩ = some (.int .i64 tg.color) := D3.cell 1
      have b2 : w4.cell? ⟨w.heap.size, 2, none⟩ = some (.int .i64 0) := B3.cell 2
      have f2 : w4.frozen? ⟨w.heap.size, 2, none⟩ = false := B3.frozen 2
      have d2 : w4.cell? ⟨w3.heap.size, 2, none⟩ = some (.int .i64 tg.count) := D3.cell 2
      have b3 : w4.cell? ⟨w.heap.size, 3, none⟩ = some (.int .i64 0) := B3.cell 3
      have f3 : w4.frozen? ⟨w.heap.size, 3, none⟩ = false := B3.frozen 3
      have d3 : w4.cell? ⟨w3.heap.size, 3, none⟩ = some (.int .i64 tg.shade) := D3.cell 3
      have b4 : w4.cell? ⟨w.heap.size, 4, none⟩ = some (.int .i64 0) := B3.cell 4
      have f4 : w4.frozen? ⟨w.heap.size, 4, none⟩ = false := B3.frozen 4
      have d4 : w4.cell? ⟨w3.heap.size, 4, none⟩ = some (.int .i64 tg.dead) := D3.cell 4
      have b5 : w4.cell? ⟨w.heap.size, 5, none⟩ = some (.int .i64 0) := B3.cell 5
      have f5 : w4.frozen? ⟨w.heap.size, 5, none⟩ = false := B3.frozen 5
      have d5 : w4.cell? ⟨w3.heap.size, 5, none⟩ = some (.int .i64 tg.ring) := D3.cell 5
      have b6 : w4.cell? ⟨w.heap.size, 6, none⟩ = some (.int .i64 0) := B3.cell 6
      have f6 : w4.frozen? ⟨w.heap.size, 6, none⟩ = false := B3.frozen 6
      have d6 : w4.cell? ⟨w3.heap.size, 6, none⟩ = some (.int .i64 tg.owner) := D3.cell 6
      go_region
      go_wp2_with fail
      have BF : Blk _ w.heap.size 149 #[.int .i64 tg.kind, .int .i64 tg.color, .int .i64 tg.count, .int .i64 tg.shade, .int .i64 tg.dead, .int .i64 tg.ring, .int .i64 tg.owner] := (((((((B3.set_ 0 (.int .i64 tg.kind)).set_ 1 (.int .i64 tg.color)).set_ 2 (.int .i64 tg.count)).set_ 3 (.int .i64 tg.shade)).set_ 4 (.int .i64 tg.dead)).set_ 5 (.int .i64 tg.ring)).set_ 6 (.int .i64 tg.owner)).drew
      refine bodyPost_ret (v := .tuple #[.agg #[.int .i64 tg.kind, .int .i64 tg.color, .int .i64 tg.count, .int .i64 tg.shade, .int .i64 tg.dead, .int .i64 tg.ring, .int .i64 tg.owner], .bool false]) ?_ rfl ⟨rfl, ?_, ?_⟩
      · have hq := results_blk_tmp (P := Tryz.prog) (fn := Tryz.f184) (p := 6) (u := 7) (ty := 149) rfl
        refine hq _ _ _ _ _ _ ?_ BF Tryz.underlying149 rfl ?_
        · rfl
        · kernel_rfl
      · repeat (first | with_reducible exact H4 | with_reducible apply Held.drew | (with_reducible refine Held.far ?_ (by exact H.top) _))
      · repeat (first | with_reducible apply Stays.drew | (with_reducible refine Stays.setCell ?_ (Or.inr (Nat.le_refl _)) _))
        exact ((((Stays.refl _ _).alloc _).trans K1).trans K2).trans (K4.mono (fun _ x => x.elim))
  · have hb : ((decide ((tagOf v).kind = 1) || decide ((tagOf v).kind = 2)) && decide ((tagOf v).ring = m)) = false := by simp [k0, k1]
    rw [hb]
    clear hb
    have kb0 : ((tagOf v).kind == 1) = false := beq_eq_false_iff_ne.2 k0
    have kb : ((tagOf v).kind == 2) = false := beq_eq_false_iff_ne.2 k1
    clear k0 k1
    go_enter Tryz.func184, Tryz.ntmps184
    go_wp2_with fail
    refine (conf_c (H.alloc _)).mono ?_
    rintro _ w1 ⟨rfl, H1, K1⟩
    have B1 := Blk.stays (Blk.new w 149 #[.int .i64 0, .int .i64 0, .int .i64 0, .int .i64 0, .int .i64 0, .int .i64 0, .int .i64 0]) K1 (GA.foot_far H.top)
    go_wp2_with fail
    refine (Word_c H1 e1'.out).mono ?_
    rintro _ w2 ⟨rfl, H2, K2⟩
    have B2 := B1.stays K2 (GA.foot_far H.top)
    go_wp2_with fail
    refine (Unpack_c v w2 h0 h1).mono ?_
    rintro _ w3 ⟨rfl, K3⟩
    unfold Tag.val
    generalize tagOf v = tg at *
    have H3 := H2.stays K3 (fun _ _ x => x)
    have B3 := (B2.stays K3 (fun x => x)).alloc (.cells #[.int .i64 tg.kind, .int .i64 tg.color, .int .i64 tg.count, .int .i64 tg.shade, .int .i64 tg.dead, .int .i64 tg.ring, .int .i64 tg.owner] 149)
    have a1 : w.heap.size + 1 ≤ w1.heap.size := by simpa using K1.size
    have a2 := K2.size
    have a3 := K3.size
    have hne : w.heap.size < w3.heap.size := by omega
    have D3 := Blk.new w3 149 #[.int .i64 tg.kind, .int .i64 tg.color, .int .i64 tg.count, .int .i64 tg.shade, .int .i64 tg.dead, .int .i64 tg.ring, .int .i64 tg.owner]
    have H4 := H3.alloc (Obj.cells #[.int .i64 tg.kind, .int .i64 tg.color, .int .i64 tg.count, .int .i64 tg.shade, .int .i64 tg.dead, .int .i64 tg.ring, .int .i64 tg.owner] 149)
    have K4 := K3.alloc (Obj.cells #[.int .i64 tg.kind, .int .i64 tg.color, .int .i64 tg.count, .int .i64 tg.shade, .int .i64 tg.dead, .int .i64 tg.ring, .int .i64 tg.owner] 149)
    go_wp2_with fail
    generalize hw4 : w3.alloc (Obj.cells #[.int .i64 tg.kind, .int .i64 tg.color, .int .i64 tg.count, .int .i64 tg.shade, .int .i64 tg.dead, .int .i64 tg.ring, .int .i64 tg.owner] 149) = w4 at *
    clear hw4 B1 B2 H3 K3
    have hlt : ¬ w.heap.size = w3.heap.size := by omega
    have hlt' : ¬ w3.heap.size = w.heap.size := by omega
    have b0 : w4.cell? ⟨w.heap.size, 0, none⟩ = some (.int .i64 0) := B3.cell 0
    have f0 : w4.frozen? ⟨w.heap.size, 0, none⟩ = false := B3.frozen 0
    have d0 : w4.cell? ⟨w3.heap.size, 0, none⟩ = some (.int .i64 tg.kind) := D3.cell 0
    have b1 : w4.cell? ⟨w.heap.size, 1, none⟩ = some (.int .i64 0) := B3.cell 1
    have f1 : w4.frozen? ⟨w.heap.size, 1, none⟩ = false := B3.frozen 1
    have d1 : w4.cell? ⟨w3.heap.size, 1, none⟩ = some (.int .i64 tg.color) := D3.cell 1
    have b2 : w4.cell? ⟨w.heap.size, 2, none⟩ = some (.int .i64 0) := B3.cell 2
    have f2 : w4.frozen? ⟨w.heap.size, 2, none⟩ = false := B3.frozen 2
    have d2 : w4.cell? ⟨w3.heap.size, 2, none⟩ = some (.int .i64 tg.count) := D3.cell 2
    have b3 : w4.cell? ⟨w.heap.size, 3, none⟩ = some (.int .i64 0) := B3.cell 3
    have f3 : w4.frozen? ⟨w.heap.size, 3, none⟩ = false := B3.frozen 3
    have d3 : w4.cell? ⟨w3.heap.size, 3, none⟩ = some (.int .i64 tg.shade) := D3.cell 3
    have b4 : w4.cell? ⟨w.heap.size, 4, none⟩ = some (.int .i64 0) := B3.cell 4
    have f4 : w4.frozen? ⟨w.heap.size, 4, none⟩ = false := B3.frozen 4
    have d4 : w4.cell? ⟨w3.heap.size, 4, none⟩ = some (.int .i64 tg.dead) := D3.cell 4
    have b5 : w4.cell? ⟨w.heap.size, 5, none⟩ = some (.int .i64 0) := B3.cell 5
    have f5 : w4.frozen? ⟨w.heap.size, 5, none⟩ = false := B3.frozen 5
    have d5 : w4.cell? ⟨w3.heap.size, 5, none⟩ = some (.int .i64 tg.ring) := D3.cell 5
    have b6 : w4.cell? ⟨w.heap.size, 6, none⟩ = some (.int .i64 0) := B3.cell 6
    have f6 : w4.frozen? ⟨w.heap.size, 6, none⟩ = false := B3.frozen 6
    have d6 : w4.cell? ⟨w3.heap.size, 6, none⟩ = some (.int .i64 tg.owner) := D3.cell 6
    go_region
    go_wp2_with fail
    have BF : Blk _ w.heap.size 149 #[.int .i64 tg.kind, .int .i64 tg.color, .int .i64 tg.count, .int .i64 tg.shade, .int .i64 tg.dead, .int .i64 tg.ring, .int .i64 tg.owner] := (((((((B3.set_ 0 (.int .i64 tg.kind)).set_ 1 (.int .i64 tg.color)).set_ 2 (.int .i64 tg.count)).set_ 3 (.int .i64 tg.shade)).set_ 4 (.int .i64 tg.dead)).set_ 5 (.int .i64 tg.ring)).set_ 6 (.int .i64 tg.owner)).drew
    refine bodyPost_ret (v := .tuple #[.agg #[.int .i64 tg.kind, .int .i64 tg.color, .int .i64 tg.count, .int .i64 tg.shade, .int .i64 tg.dead, .int .i64 tg.ring, .int .i64 tg.owner], .bool false]) ?_ rfl ⟨rfl, ?_, ?_⟩
    · have hq := results_blk_tmp (P := Tryz.prog) (fn := Tryz.f184) (p := 6) (u := 7) (ty := 149) rfl
      refine hq _ _ _ _ _ _ ?_ BF Tryz.underlying149 rfl ?_
      · rfl
      · kernel_rfl
    · repeat (first | with_reducible exact H4 | with_reducible apply Held.drew | (with_reducible refine Held.far ?_ (by exact H.top) _))
    · repeat (first | with_reducible apply Stays.drew | (with_reducible refine Stays.setCell ?_ (Or.inr (Nat.le_refl _)) _))
      exact ((((Stays.refl _ _).alloc _).trans K1).trans K2).trans (K4.mono (fun _ x => x.elim))
end Go.Proofs.YtadhdjldcpkfiaaGreatDoor
