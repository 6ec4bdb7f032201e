/- A row of operations in memory; quitrentlaw21.Right. Nothing is asked. -/
/- A row of operations as an argument: what is read of it, in its cells. Nothing is asked. -/
import Derived.Test.YtadhdjldcpkfiaaGreatDoorS2
import Derived.Test.YtadhdjldcpkfiaaGreatDoorDu
import Derived.Deep.SlicePairs
import Derived.LaidMore
namespace Go.Proofs.YtadhdjldcpkfiaaGreatDoor
set_option linter.unusedVariables false
set_option linter.unusedSimpArgs false
open Go.RowKit
set_option maxRecDepth 100000
set_option maxHeartbeats 3200000

/-- A slice's operations, each in its five cells. -/
structure OpsIn (w : World) (A : Option Addr) (l : List Op5) : Prop where
  at_ : ∀ i (hi : i < l.length), ∃ b off, A = some ⟨b, off, none⟩ ∧ w.cell? ⟨b, off + i * 5, none⟩ = some (.int .i64 l[i].kind) ∧ w.cell? ⟨b, off + i * 5 + 1, none⟩ = some (.int .i64 l[i].a) ∧ w.cell? ⟨b, off + i * 5 + 2, none⟩ = some (.int .i64 l[i].b) ∧ w.cell? ⟨b, off + i * 5 + 3, none⟩ = some (.int .i64 l[i].c) ∧ w.cell? ⟨b, off + i * 5 + 4, none⟩ = some (.int .u32 l[i].v)
  rng : ∀ o ∈ l, 0 ≤ o.v ∧ o.v ≤ 4294967295

/-- May a heap of that size be looked at, and are these operations? -/
def rightC (N W R K : Int) : Bool := decide (plCheck N W R K = 0) && decide (N ≤ 200) && decide (W ≤ 24) && decide (R ≤ 20)
def rightL (l : List Op5) : Bool := decide (l.length ≤ 400) && l.all (fun o => decide (1 ≤ o.kind) && decide (o.kind ≤ 10))

theorem Right21_n0 (N W R K : Int) (A : Option Addr) (cap : Nat) (l : List Op5) (w : World)  (hp : ¬ plCheck N W R K = 0) :
    Calls Tryz.prog 66 #[.agg #[.int .i64 N, .int .i64 W, .int .i64 R, .int .i64 K], .slice A l.length cap] w (Made w (.bool false)) := by
  have P : Hd (decide (plCheck N W R K = 0) = false) := ⟨decide_eq_false hp⟩
  clear hp
  have Bc := (Blk.new w 46 #[.int .i64 N, .int .i64 W, .int .i64 R, .int .i64 K])
  have fc0 := Bc.cell 0
  have fc1 := Bc.cell 1
  have fc2 := Bc.cell 2
  have fc3 := Bc.cell 3
  go_enter Tryz.func66, Tryz.ntmps66
  go_wp2_with fail
  refine (May_c _ _ _ _ _).mono ?_
  rintro _ w1 ⟨rfl, K1⟩
  rw [P.out]
  replace Bc := Bc.stays K1 (fun x => x)
  have fc0 := Bc.cell 0
  have fc1 := Bc.cell 1
  have fc2 := Bc.cell 2
  have fc3 := Bc.cell 3
  go_wp2_with fail
  go_ret
  exact ⟨rfl, ((Stays.refl _ _).alloc _).trans K1⟩
theorem Right21_n1 (N W R K : Int) (A : Option Addr) (cap : Nat) (l : List Op5) (w : World) (hp : plCheck N W R K = 0) (hN : ¬ N ≤ 200) :
    Calls Tryz.prog 66 #[.agg #[.int .i64 N, .int .i64 W, .int .i64 R, .int .i64 K], .slice A l.length cap] w (Made w (.bool false)) := by
  have P : Hd (decide (plCheck N W R K = 0) = true) := ⟨decide_eq_true hp⟩
  have t1 : decide (200 < N) = true := decide_eq_true (by omega)
  clear hp hN
  have Bc := (Blk.new w 46 #[.int .i64 N, .int .i64 W, .int .i64 R, .int .i64 K])
  have fc0 := Bc.cell 0
  have fc1 := Bc.cell 1
  have fc2 := Bc.cell 2
  have fc3 := Bc.cell 3
  go_enter Tryz.func66, Tryz.ntmps66
  go_wp2_with fail
  refine (May_c _ _ _ _ _).mono ?_
  rintro _ w1 ⟨rfl, K1⟩
  rw [P.out]
  replace Bc := Bc.stays K1 (fun x => x)
  have fc0 := Bc.cell 0
  have fc1 := Bc.cell 1
  have fc2 := Bc.cell 2
  have fc3 := Bc.cell 3
  go_wp2_with fail
  go_ret
  exact ⟨rfl, ((Stays.refl _ _).alloc _).trans K1⟩
theorem Right21_n2 (N W R K : Int) (A : Option Addr) (cap : Nat) (l : List Op5) (w : World) (hp : plCheck N W R K = 0) (hN : N ≤ 200) (hW : ¬ W ≤ 24) :
    Calls Tryz.prog 66 #[.agg #[.int .i64 N, .int .i64 W, .int .i64 R, .int .i64 K], .slice A l.length cap] w (Made w (.bool false)) := by
  have P : Hd (decide (plCheck N W R K = 0) = true) := ⟨decide_eq_true hp⟩
  have t1 : decide (200 < N) = false := decide_eq_false (by omega)
  have t2 : decide (24 < W) = true := decide_eq_true (by omega)
  clear hp hN hW
  have Bc := (Blk.new w 46 #[.int .i64 N, .int .i64 W, .int .i64 R, .int .i64 K])
  have fc0 := Bc.cell 0
  have fc1 := Bc.cell 1
  have fc2 := Bc.cell 2
  have fc3 := Bc.cell 3
  go_enter Tryz.func66, Tryz.ntmps66
  go_wp2_with fail
  refine (May_c _ _ _ _ _).mono ?_
  rintro _ w1 ⟨rfl, K1⟩
  rw [P.out]
  replace Bc := Bc.stays K1 (fun x => x)
  have fc0 := Bc.cell 0
  have fc1 := Bc.cell 1
  have fc2 := Bc.cell 2
  have fc3 := Bc.cell 3
  go_wp2_with fail
  go_ret
  exact ⟨rfl, ((Stays.refl _ _).alloc _).trans K1⟩
theorem Right21_n3 (N W R K : Int) (A : Option Addr) (cap : Nat) (l : List Op5) (w : World) (hp : plCheck N W R K = 0) (hN : N ≤ 200) (hW : W ≤ 24) (hR : ¬ R ≤ 20) :
    Calls Tryz.prog 66 #[.agg #[.int .i64 N, .int .i64 W, .int .i64 R, .int .i64 K], .slice A l.length cap] w (Made w (.bool false)) := by
  have P : Hd (decide (plCheck N W R K = 0) = true) := ⟨decide_eq_true hp⟩
  have t1 : decide (200 < N) = false := decide_eq_false (by omega)
  have t2 : decide (24 < W) = false := decide_eq_false (by omega)
  have t3 : decide (20 < R) = true := decide_eq_true (by omega)
  clear hp hN hW hR
  have Bc := (Blk.new w 46 #[.int .i64 N, .int .i64 W, .int .i64 R, .int .i64 K])
  have fc0 := Bc.cell 0
  have fc1 := Bc.cell 1
  have fc2 := Bc.cell 2
  have fc3 := Bc.cell 3
  go_enter Tryz.func66, Tryz.ntmps66
  go_wp2_with fail
  refine (May_c _ _ _ _ _).mono ?_
  rintro _ w1 ⟨rfl, K1⟩
  rw [P.out]
  replace Bc := Bc.stays K1 (fun x => x)
  have fc0 := Bc.cell 0
  have fc1 := Bc.cell 1
  have fc2 := Bc.cell 2
  have fc3 := Bc.cell 3
  go_wp2_with fail
  go_ret
  exact ⟨rfl, ((Stays.refl _ _).alloc _).trans K1⟩
theorem Right21_n4 (N W R K : Int) (A : Option Addr) (cap : Nat) (l : List Op5) (w : World) (hp : plCheck N W R K = 0) (hN : N ≤ 200) (hW : W ≤ 24) (hR : R ≤ 20) (hl : ¬ l.length ≤ 400) :
    Calls Tryz.prog 66 #[.agg #[.int .i64 N, .int .i64 W, .int .i64 R, .int .i64 K], .slice A l.length cap] w (Made w (.bool false)) := by
  have P : Hd (decide (plCheck N W R K = 0) = true) := ⟨decide_eq_true hp⟩
  have t1 : decide (200 < N) = false := decide_eq_false (by omega)
  have t2 : decide (24 < W) = false := decide_eq_false (by omega)
  have t3 : decide (20 < R) = false := decide_eq_false (by omega)
  have t4 : decide (400 < (l.length : Int)) = true := decide_eq_true (by omega)
  clear hp hN hW hR hl
  have Bc := (Blk.new w 46 #[.int .i64 N, .int .i64 W, .int .i64 R, .int .i64 K])
  have fc0 := Bc.cell 0
  have fc1 := Bc.cell 1
  have fc2 := Bc.cell 2
  have fc3 := Bc.cell 3
  go_enter Tryz.func66, Tryz.ntmps66
  go_wp2_with fail
  refine (May_c _ _ _ _ _).mono ?_
  rintro _ w1 ⟨rfl, K1⟩
  rw [P.out]
  replace Bc := Bc.stays K1 (fun x => x)
  have fc0 := Bc.cell 0
  have fc1 := Bc.cell 1
  have fc2 := Bc.cell 2
  have fc3 := Bc.cell 3
  go_wp2_with fail
  go_ret
  exact ⟨rfl, ((Stays.refl _ _).alloc _).trans K1⟩
theorem Right21_y (N W R K : Int) (A : Option Addr) (cap : Nat) (l : List Op5) (w : World) (HL : OpsIn w A l) (hp : plCheck N W R K = 0) (hN : N ≤ 200) (hW : W ≤ 24) (hR : R ≤ 20) (hl : l.length ≤ 400) :
    Calls Tryz.prog 66 #[.agg #[.int .i64 N, .int .i64 W, .int .i64 R, .int .i64 K], .slice A l.length cap] w (Made w (.bool (l.all (fun o => decide (1 ≤ o.kind) && decide (o.kind ≤ 10))))) := by
  have P : Hd (decide (plCheck N W R K = 0) = true) := ⟨decide_eq_true hp⟩
  have t1 : decide (200 < N) = false := decide_eq_false (by omega)
  have t2 : decide (24 < W) = false := decide_eq_false (by omega)
  have t3 : decide (20 < R) = false := decide_eq_false (by omega)
  have t4 : decide (400 < (l.length : Int)) = false := decide_eq_false (by omega)
  clear hp hN hW hR
  have Bc := (Blk.new w 46 #[.int .i64 N, .int .i64 W, .int .i64 R, .int .i64 K])
  have fc0 := Bc.cell 0
  have fc1 := Bc.cell 1
  have fc2 := Bc.cell 2
  have fc3 := Bc.cell 3
  go_enter Tryz.func66, Tryz.ntmps66
  go_wp2_with fail
  refine (May_c _ _ _ _ _).mono ?_
  rintro _ w1 ⟨rfl, K1⟩
  rw [P.out]
  replace Bc := Bc.stays K1 (fun x => x)
  have fc0 := Bc.cell 0
  have fc1 := Bc.cell 1
  have fc2 := Bc.cell 2
  have fc3 := Bc.cell 3
  go_wp2_with fail
  go_loopw [32] (fun i wr => ∃ j : Nat, j ≤ l.length ∧ i = .int .i64 j ∧ Hd (∀ q (hq : q < l.length), q < j → 1 ≤ l[q].kind ∧ l[q].kind ≤ 10) ∧ Hd (Stays (fun _ => False) w wr)) (fun i _ => l.length - (intOf i).toNat)
  case atStart => exact ⟨0, by omega, rfl, ⟨fun q hq h => by omega⟩, ⟨((Stays.refl _ _).alloc _).trans K1⟩⟩
  case round =>
    obtain ⟨j, hj, rfl, HQ, KU⟩ := hrel
    by_cases c : j < l.length
    · obtain ⟨b, off, hA, x0, x1, x2, x3, x4⟩ := HL.at_ j c
      subst hA
      have lt0 := World.block_lt_of_cell? w _ x0
      have y0 := (KU.out.cell (p := ⟨b, off + j * 5, none⟩) lt0 (fun x => x)).trans x0
      have y1 := (KU.out.cell (p := ⟨b, off + j * 5 + 1, none⟩) lt0 (fun x => x)).trans x1
      have y2 := (KU.out.cell (p := ⟨b, off + j * 5 + 2, none⟩) lt0 (fun x => x)).trans x2
      have y3 := (KU.out.cell (p := ⟨b, off + j * 5 + 3, none⟩) lt0 (fun x => x)).trans x3
      have y4 := (KU.out.cell (p := ⟨b, off + j * 5 + 4, none⟩) lt0 (fun x => x)).trans x4
      have HO : ∃ o, l[j] = o := ⟨_, rfl⟩
      obtain ⟨o, ho⟩ := HO
      rw [ho] at y0 y1 y2 y3 y4
      have HO := Hd.mk ho
      have hme := Hd.mk (show l.length - ((j : Int) + 1).toNat < l.length - (j : Int).toNat by omega)
      have hj1 := Hd.mk (show j + 1 ≤ l.length by omega)
      clear x0 x1 x2 x3 x4 ho lt0
      have cb : decide ((j : Int) < (l.length : Int)) = true := decide_eq_true (by omega)
      by_cases k1 : o.kind < 1
      · have d1 : decide (o.kind < 1) = true := decide_eq_true k1
        have HF : Hd ((l.all (fun o => decide (1 ≤ o.kind) && decide (o.kind ≤ 10))) = false) := ⟨by
          rw [List.all_eq_false]
          exact ⟨o, by rw [← HO.out]; exact List.getElem_mem _, by simp; omega⟩⟩
        clear k1
        go_wp2_with fail
        go_ret
        exact ⟨by rw [HF.out]; rfl, KU.out.alloc _⟩
      · by_cases k2 : 10 < o.kind
        · have d1 : decide (o.kind < 1) = false := decide_eq_false k1
          have d2 : decide (10 < o.kind) = true := decide_eq_true k2
          have HF : Hd ((l.all (fun o => decide (1 ≤ o.kind) && decide (o.kind ≤ 10))) = false) := ⟨by
            rw [List.all_eq_false]
            exact ⟨o, by rw [← HO.out]; exact List.getElem_mem _, by simp; omega⟩⟩
          clear k1 k2
          go_wp2_with fail
          go_ret
          exact ⟨by rw [HF.out]; rfl, KU.out.alloc _⟩
        · have d1 : decide (o.kind < 1) = false := decide_eq_false k1
          have d2 : decide (10 < o.kind) = false := decide_eq_false k2
          have HN : Hd (∀ q (hq : q < l.length), q < j + 1 → 1 ≤ l[q].kind ∧ l[q].kind ≤ 10) := ⟨fun q hq h => by
            rcases (by omega : q < j ∨ q = j) with h | rfl
            · exact HQ.out q hq h
            · rw [HO.out]; omega⟩
          clear k1 k2
          go_wp2_with fail
          go_roundw
          case rel => exact ⟨j + 1, hj1.out, by first | rfl | simp, HN, ⟨KU.out.alloc _⟩⟩
          case measure =>
            first
              | exact hme.out
              | (simp only [intOf]; exact hme.out)
    · have cb : decide ((j : Int) < (l.length : Int)) = false := decide_eq_false (by omega)
      obtain rfl : j = l.length := by omega
      have HF : Hd ((l.all (fun o => decide (1 ≤ o.kind) && decide (o.kind ≤ 10))) = true) := ⟨by
        rw [List.all_eq_true]
        intro o ho
        obtain ⟨q, hq, rfl⟩ := List.mem_iff_getElem.1 ho
        have := HQ.out q hq hq
        simp
        omega⟩
      go_wp2_with fail
      go_ret
      exact ⟨by rw [HF.out]; rfl, KU.out⟩
theorem Right21_c (N W R K : Int) (A : Option Addr) (cap : Nat) (l : List Op5) (w : World) (HL : OpsIn w A l) :
    Calls Tryz.prog 66 #[.agg #[.int .i64 N, .int .i64 W, .int .i64 R, .int .i64 K], .slice A l.length cap] w (Made w (.bool (rightC N W R K && rightL l))) := by
  by_cases hp : plCheck N W R K = 0
  case neg => 
    rw [show (rightC N W R K && rightL l) = false by simp [rightC, rightL, *]]
    exact Right21_n0 N W R K A cap l w  hp
  by_cases hN : N ≤ 200
  case neg => 
    rw [show (rightC N W R K && rightL l) = false by simp [rightC, rightL, *]]
    exact Right21_n1 N W R K A cap l w hp hN
  by_cases hW : W ≤ 24
  case neg => 
    rw [show (rightC N W R K && rightL l) = false by simp [rightC, rightL, *]]
    exact Right21_n2 N W R K A cap l w hp hN hW
  by_cases hR : R ≤ 20
  case neg => 
    rw [show (rightC N W R K && rightL l) = false by simp [rightC, rightL, *]]
    exact Right21_n3 N W R K A cap l w hp hN hW hR
  by_cases hl : l.length ≤ 400
  case neg => 
    rw [show (rightC N W R K && rightL l) = false by simp [rightC, rightL, *]]
    exact Right21_n4 N W R K A cap l w hp hN hW hR hl
  rw [show (rightC N W R K && rightL l) = l.all (fun o => decide (1 ≤ o.kind) && decide (o.kind ≤ 10)) by simp [rightC, rightL, *]]
  exact Right21_y N W R K A cap l w HL hp hN hW hR hl
end Go.Proofs.YtadhdjldcpkfiaaGreatDoor
namespace Go.Proofs.YtadhdjldcpkfiaaGreatDoor
set_option linter.unusedVariables false
set_option linter.unusedSimpArgs false
open Go.RowKit Go.Deep Go.ChangeShapes Go.WideShapes
set_option maxRecDepth 100000
set_option maxHeartbeats 3200000
instance : Inhabited Op5 := ⟨⟨0, 0, 0, 0, 0⟩⟩
section
variable {H : Type} {enc : TypeId × Value → H} {P : Program} {w : World} {base : Nat} {spare : Nat → Bool} {held : Bool}
theorem open_ops {r : Reach} {b0 : Nat} {t e : TypeId} {f0 f1 f2 f3 f4 : Field} {v : Value} {d : DataW H} {p : List MemPlace} (ht : P.underlying t = some (.slice e)) (he : P.underlying e = some (.struct #[f0, f1, f2, f3, f4]))
    (ce : P.cellsOf e = 5) (o0 : f0.offset = 0) (o1 : f1.offset = 1) (o2 : f2.offset = 2) (o3 : f3.offset = 3) (o4 : f4.offset = 4)
    (c0 : P.cellsOf f0.type = 1) (c1 : P.cellsOf f1.type = 1) (c2 : P.cellsOf f2.type = 1) (c3 : P.cellsOf f3.type = 1) (c4 : P.cellsOf f4.type = 1)
    (k0 : P.underlying f0.type = some (.int .i64)) (k1 : P.underlying f1.type = some (.int .i64)) (k2 : P.underlying f2.type = some (.int .i64)) (k3 : P.underlying f3.type = some (.int .i64)) (k4 : P.underlying f4.type = some (.int .u32))
    (hv : Value.okWide P w r b0 t v) (h : DataW.Trod enc P w base spare held t v d p) :
    ∃ (A : Option Addr) (cap : Nat) (l : List Op5), v = .slice A l.length cap ∧ OpsIn w A l := by
  obtain ⟨fuel, hf⟩ := h
  obtain ⟨a, len, cap, rfl⟩ := okWide_slice ht hv
  rcases open_slice ht hf with ⟨hc, _⟩ | ⟨a', len', cap', m, n, D, Pl, hc, hb, hl, hm, hmm, hx, hall⟩
  · simp [Value.cells] at hc
    obtain ⟨rfl, rfl, rfl⟩ := hc
    exact ⟨none, 0, [], rfl, ⟨fun i hi => by simp at hi, fun o ho => by cases ho⟩⟩
  · simp [Value.cells] at hc
    obtain ⟨rfl, rfl, rfl⟩ := hc
    have hlm : len ≤ m := by rw [hmm]; split <;> omega
    have each : ∀ i, i < len → ∃ o : Op5, ∃ b off, a' = ⟨b, off, none⟩ ∧ w.cell? ⟨b, off + i * 5, none⟩ = some (.int .i64 o.kind) ∧ w.cell? ⟨b, off + i * 5 + 1, none⟩ = some (.int .i64 o.a) ∧ w.cell? ⟨b, off + i * 5 + 2, none⟩ = some (.int .i64 o.b) ∧ w.cell? ⟨b, off + i * 5 + 3, none⟩ = some (.int .i64 o.c) ∧ w.cell? ⟨b, off + i * 5 + 4, none⟩ = some (.int .u32 o.v) ∧ 0 ≤ o.v ∧ o.v ≤ 4294967295 := by
      intro i hi
      obtain ⟨cs', h1, h2⟩ := hall i (by omega)
      rw [ce] at h1
      obtain ⟨_, hlen, hcell⟩ := World.cells?_some h1
      obtain ⟨xs, k, hk, hxy, _, hxl, hf⟩ := DataW.trod_struct he h2
      match xs, hxl, cs', hlen with
      | [y0, y1, y2, y3, y4], _, [v0, v1, v2, v3, v4], _ =>
        have g0 := hf 0 f0 rfl
        have g1 := hf 1 f1 rfl
        have g2 := hf 2 f2 rfl
        have g3 := hf 3 f3 rfl
        have g4 := hf 4 f4 rfl
        simp [o0, o1, o2, o3, o4, c0, c1, c2, c3, c4] at g0 g1 g2 g3 g4
        have e0 := hcell 0 (by omega)
        have e1 := hcell 1 (by omega)
        have e2 := hcell 2 (by omega)
        have e3 := hcell 3 (by omega)
        have e4 := hcell 4 (by omega)
        rw [add_add] at e0 e1 e2 e3 e4
        obtain ⟨x0, q0, _, _⟩ := DataW.trod_int k0 g0
        obtain ⟨x1, q1, _, _⟩ := DataW.trod_int k1 g1
        obtain ⟨x2, q2, _, _⟩ := DataW.trod_int k2 g2
        obtain ⟨x3, q3, _, _⟩ := DataW.trod_int k3 g3
        obtain ⟨x4, q4, _, hw4⟩ := DataW.trod_int k4 g4
        obtain rfl := List.singleton_inj.1 q0
        obtain rfl := List.singleton_inj.1 q1
        obtain rfl := List.singleton_inj.1 q2
        obtain rfl := List.singleton_inj.1 q3
        obtain rfl := List.singleton_inj.1 q4
        obtain ⟨b, off, spot⟩ := a'
        have hspot : spot = none := by
          obtain ⟨cz, z1, _⟩ := hall 0 (by omega)
          rw [ce] at z1
          obtain ⟨_, zl, zc⟩ := World.cells?_some z1
          have z0 := zc 0 (by omega)
          rw [List.getElem?_eq_getElem (by omega)] at z0
          simpa [Addr.add] using World.cell?_spot z0
        subst hspot
        have hr : IntKind.u32.min ≤ x4 ∧ x4 ≤ IntKind.u32.max := by simpa [Lit.wf] using hw4
        have e1' : IntKind.u32.min = 0 := rfl
        have e2' : IntKind.u32.max = 4294967295 := rfl
        refine ⟨⟨x0, x1, x2, x3, x4⟩, b, off, rfl, ?_, ?_, ?_, ?_, ?_, by show 0 ≤ x4; omega, by show x4 ≤ _; omega⟩
        · simpa [Addr.add_lit] using e0
        · simpa [Addr.add_lit, Nat.add_assoc] using e1
        · simpa [Addr.add_lit, Nat.add_assoc] using e2
        · simpa [Addr.add_lit, Nat.add_assoc] using e3
        · simpa [Addr.add_lit, Nat.add_assoc] using e4
    obtain ⟨q, hq⟩ := choose_lt each
    refine ⟨some a', cap, (List.range len).map q, by simp, ⟨fun i hi => ?_, fun o ho => ?_⟩⟩
    · have hi' : i < len := by simpa using hi
      obtain ⟨b, off, ha, h0, h1, h2, h3, h4, _⟩ := hq i hi'
      refine ⟨b, off, by rw [ha], ?_⟩
      simp only [List.getElem_map, List.getElem_range]
      exact ⟨h0, h1, h2, h3, h4⟩
    · obtain ⟨i, hi, rfl⟩ := List.mem_map.1 ho
      obtain ⟨b, off, ha, _, _, _, _, _, h5⟩ := hq i (List.mem_range.1 hi)
      exact h5
end
end Go.Proofs.YtadhdjldcpkfiaaGreatDoor
