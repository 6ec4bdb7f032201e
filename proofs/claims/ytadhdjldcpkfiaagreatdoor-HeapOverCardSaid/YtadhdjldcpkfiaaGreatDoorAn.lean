/- The meter; rows of answers: op.Run, op.First, whether two rows are alike. Nothing is asked. -/
import Derived.Test.YtadhdjldcpkfiaaGreatDoorPr
import Derived.Test.YtadhdjldcpkfiaaGreatDoorPk
namespace Go.Proofs.YtadhdjldcpkfiaaGreatDoor
set_option linter.unusedVariables false
set_option linter.unusedSimpArgs false
open Go.RowKit
set_option maxRecDepth 100000
set_option maxHeartbeats 3200000

theorem load_c {A : GA} {S : GS} {w : World} (H : Held A S w) :
    Calls Tryz.prog 238 #[.pointer (some ⟨A.s, 1, none⟩)] w fun e w' => e = .returned (.int .u64 S.m) ∧ w = w' := by
  have hl := run_call_load (P := Tryz.prog) Tryz.func253 (by kernel_rfl) (by kernel_rfl) (by kernel_rfl) .u64 (by kernel_rfl) H.mcell
  go_enter Tryz.func238, Tryz.ntmps238
  go_wp2
  go_ret
  exact ⟨rfl, rfl⟩
theorem stMeter_c {A : GA} {S : GS} {w : World} (H : Held A S w) :
    Calls Tryz.prog 212 #[.pointer (some ⟨A.s, 0, none⟩)] w fun e w' => e = .returned (.int .u64 S.m) ∧ w = w' := by
  go_enter Tryz.func212, Tryz.ntmps212
  go_wp2_with fail
  refine (load_c H).mono ?_
  rintro _ _ ⟨rfl, rfl⟩
  go_wp2_with fail
  go_ret
  exact ⟨rfl, rfl⟩
theorem gMeter_c {A : GA} {S : GS} {w : World} (H : Held A S w) :
    Calls Tryz.prog 141 #[.pointer (some ⟨A.g, 0, none⟩)] w fun e w' => e = .returned (.int .u64 S.m) ∧ w = w' := by
  go_enter Tryz.func141, Tryz.ntmps141
  go_wp2_with fail
  refine (all_c H).mono ?_
  rintro _ _ ⟨rfl, rfl⟩
  go_wp2_with fail
  refine (stMeter_c H).mono ?_
  rintro _ _ ⟨rfl, rfl⟩
  go_wp2_with fail
  go_ret
  exact ⟨rfl, rfl⟩
theorem hMeter_c {A : GA} {hb : Nat} {S : GS} {w : World} (H : HeapAt A hb S w) :
    Calls Tryz.prog 59 #[.pointer (some ⟨hb, 0, none⟩)] w fun e w' => e = .returned (.int .u64 S.m) ∧ w = w' := by
  go_enter Tryz.func59, Tryz.ntmps59
  go_wp2_with fail
  refine (hGround_c H).mono ?_
  rintro _ _ ⟨rfl, rfl⟩
  go_wp2_with fail
  refine (gMeter_c H.held).mono ?_
  rintro _ _ ⟨rfl, rfl⟩
  go_wp2_with fail
  go_ret
  exact ⟨rfl, rfl⟩

/-! ### what operations answer, one by one -/
def stO (S : GS) (l : List Op5) : Nat → GS
  | 0 => S
  | j + 1 => (doO (l.getD j default) (stO S l j)).2
def anO (S : GS) (l : List Op5) (j : Nat) : Ans := (doO (l.getD j default) (stO S l j)).1
/-- The first of so many answers that tells the error. -/
def fstA (f : Nat → Ans) (e : Int) : Nat → Int
  | 0 => -1
  | j + 1 => if fstA f e j < 0 ∧ (f j).err = e then j else fstA f e j
theorem fstA_lt (f : Nat → Ans) (e : Int) : ∀ j : Nat, -1 ≤ fstA f e j ∧ fstA f e j < j
  | 0 => by simp [fstA]
  | j + 1 => by
    have := fstA_lt f e j
    unfold fstA
    split <;> omega
theorem fstA_keep (f : Nat → Ans) (e : Int) {j : Nat} (h : 0 ≤ fstA f e j) : ∀ k : Nat, fstA f e (j + k) = fstA f e j
  | 0 => rfl
  | k + 1 => by
    have ih := fstA_keep f e h k
    show (if fstA f e (j + k) < 0 ∧ (f (j + k)).err = e then ((j + k : Nat) : Int) else fstA f e (j + k)) = _
    rw [if_neg (by omega), ih]

def aCells (a : Ans) : List Value := [.int .i64 a.err, .int .i64 a.n, .int .i64 a.m, .int .u32 a.v]
def anCells (f : Nat → Ans) (n : Nat) : List Value := (List.range n).flatMap fun j => aCells (f j)
theorem anCells_succ (f : Nat → Ans) (n : Nat) : anCells f (n + 1) = anCells f n ++ aCells (f n) := by simp [anCells, List.range_succ]
theorem anCells_len (f : Nat → Ans) : ∀ n, (anCells f n).length = n * 4
  | 0 => rfl
  | n + 1 => by rw [anCells_succ, List.length_append, anCells_len f n]; simp [aCells]; omega
theorem anCells_at (f : Nat → Ans) {j k : Nat} (hk : k < 4) : ∀ n, j < n → (anCells f n)[j * 4 + k]? = (aCells (f j))[k]?
  | 0, h => by omega
  | n + 1, h => by
    rw [anCells_succ]
    have hl := anCells_len f n
    by_cases c : j < n
    · rw [List.getElem?_append_left (by omega)]
      exact anCells_at f hk n c
    · obtain rfl : j = n := by omega
      rw [List.getElem?_append_right (by omega), hl]
      congr 1
      omega
/-- A row of answers of one's own. -/
def Outs (w : World) (base : Nat) (v : Value) (n : Nat) (f : Nat → Ans) : Prop := w.ownsRow base 56 4 v n (anCells f n)
theorem Outs.nil (w : World) (base : Nat) (f : Nat → Ans) : Outs w base (.slice none 0 0) 0 f := World.ownsRow_nil _ _ _ _
theorem Outs.stays {w w' : World} {base : Nat} {v : Value} {n : Nat} {f : Nat → Ans} (h : Outs w base v n f) {F : Nat → Prop} (k : Stays F w w') (hF : ∀ b, base ≤ b → b < w.heap.size → ¬ F b) : Outs w' base v n f := by
  refine ⟨h.1, ?_⟩
  rcases h.2 with ⟨h, h0⟩ | ⟨g, cap, cur, rfl, hb, hg, hr⟩
  · exact .inl ⟨h, h0⟩
  · have hl := lt_of_get hg
    exact .inr ⟨g, cap, cur, rfl, hb, (k.block g hl (hF g hb hl)).trans hg, hr⟩
/-- What is read of a row of answers. -/
def AnsIn (w : World) (A : Option Addr) (n : Nat) (f : Nat → Ans) : Prop := ∀ j, j < n → ∃ b, A = some ⟨b, 0, none⟩ ∧
  w.cell? ⟨b, j * 4, none⟩ = some (.int .i64 (f j).err) ∧ w.cell? ⟨b, j * 4 + 1, none⟩ = some (.int .i64 (f j).n) ∧ w.cell? ⟨b, j * 4 + 2, none⟩ = some (.int .i64 (f j).m) ∧ w.cell? ⟨b, j * 4 + 3, none⟩ = some (.int .u32 (f j).v)
theorem Outs.opened {w : World} {base : Nat} {v : Value} {n : Nat} {f : Nat → Ans} (h : Outs w base v n f) : ∃ A cap, v = .slice A n cap ∧ AnsIn w A n f := by
  obtain ⟨h1, h2⟩ := h
  rcases h2 with ⟨rfl, rfl⟩ | ⟨g, cap, cur, rfl, hb, hg, hn, hc, hs, ht⟩
  · exact ⟨none, 0, rfl, fun j hj => by omega⟩
  · have hcell : ∀ j k, j < n → k < 4 → w.cell? ⟨g, j * 4 + k, none⟩ = (aCells (f j))[k]? := by
      intro j k hj hk
      rw [cell_of_row w g (j * 4 + k) cur _ (0, 0) hg, ← anCells_at f hk n hj, ← ht, List.getElem?_take, if_pos (by omega)]
      simp
    exact ⟨_, cap, rfl, fun j hj => ⟨g, rfl, hcell j 0 hj (by omega), hcell j 1 hj (by omega), hcell j 2 hj (by omega), hcell j 3 hj (by omega)⟩⟩
theorem infoAns : (Tryz.prog.info? 56).map (fun i => (i.zero, i.size, i.bytes)) = some (some (.agg #[.int .i64 0, .int .i64 0, .int .i64 0, .int .u32 0]), 4, 32) := by kernel_rfl
theorem Stays.grownBy {w w' : World} {row : Option Nat} {base : Nat} (h : w.grownBy w' row) (hb : ∀ k, row = some k → base ≤ k) : Stays (fun k => base ≤ k) w w' :=
  ⟨h.os, h.tape, h.output, h.size, fun k hk hf => h.block k hk (fun e => hf (hb k e.symm))⟩
theorem Stays.freshF {F G : Nat → Prop} {a w w' : World} (h : Stays F a w) (k : Stays G w w') (hG : ∀ b, G b → a.heap.size ≤ b) : Stays F a w' :=
  ⟨k.os.trans h.os, k.tape.trans h.tape, k.output.trans h.output, Nat.le_trans h.size k.size, fun i hi hf => (k.block i (Nat.lt_of_lt_of_le hi h.size) (fun x => by have := hG i x; omega)).trans (h.block i hi hf)⟩
/-- One answer more. -/
theorem Outs.add {w' : World} {base : Nat} {v' : Value} {n : Nat} {f : Nat → Ans} {a b c d : Int} (ha : f n = ⟨a, b, c, d⟩) (ho : w'.ownsRow base 56 4 v' (n + 1) (anCells f n ++ [.int .i64 a, .int .i64 b, .int .i64 c, .int .u32 d])) : Outs w' base v' (n + 1) f := by
  unfold Outs
  rw [anCells_succ, ha]
  exact ho
end Go.Proofs.YtadhdjldcpkfiaaGreatDoor
