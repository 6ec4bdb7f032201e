/- A script that grows in a box of its own: what write and add do. -/
import Derived.Test.YtampnfmhmonebaaQWorkShapesx0
namespace Go.Proofs.Ytampnfmhmonebaa.QWorkShapes
open Go.RowKit Go.Proofs.YtampnfmhmonebaaW.PrintWords Go.Proofs.YtampnfmhmonebaaW.PrintLast Go.Proofs.YtampnfmhmonebaaW.PrintMore
set_option linter.unusedVariables false
set_option linter.unusedSimpArgs false
set_option maxRecDepth 100000
set_option maxHeartbeats 1600000

/-- Block b holds the script xs; all of it lies from base on. -/
structure Scr (w : World) (base b : Nat) (xs : List S34) : Prop where
  out : ∃ v, w.heap[b]? = some (.cells #[v] 37 (0, 0)) ∧ Kd.R k34 34 w base (fun q => q ≠ b) v xs

theorem Scr.lt {w : World} {base b : Nat} {xs : List S34} (h : Scr w base b xs) : b < w.heap.size := by
  obtain ⟨v, hb, _⟩ := h.out
  rcases Nat.lt_or_ge b w.heap.size with h' | h'
  · exact h'
  · rw [Array.getElem?_eq_none (by omega)] at hb
    cases hb

theorem R_slice {α : Type} {d : Kd α} {e : Nat} {w : World} {base : Nat} {ok : Nat → Prop} {v : Value} {xs : List α} (h : Kd.R d e w base ok v xs) : ∃ ad n c, v = .slice ad n c := by
  obtain ⟨_, inner, ho, _⟩ := h
  rcases ho.2 with ⟨rfl, _⟩ | ⟨g, cap, cur, rfl, _⟩
  · exact ⟨_, _, _, rfl⟩
  · exact ⟨_, _, _, rfl⟩
theorem Scr.set {w : World} {base b : Nat} {xs : List S34} {u v : Value} (hb : w.heap[b]? = some (.cells #[u] 37 (0, 0))) (hR : Kd.R k34 34 w base (fun q => q ≠ b) v xs) : Scr (w.setCell ⟨b, 0, none⟩ v) base b xs := by
  refine ⟨v, ?_, Kd.R_far hR (fun _ h => h) v⟩
  simp only [World.setCell, Array.getElem?_modify, hb]
  simp
def z34v : Value := .agg #[.int .i64 0, .int .i64 0, .int .i64 0, .int .i64 0, .int .u32 0]
theorem infoOp : (Try.prog.info? 34).map (fun i => (i.zero, i.size, i.bytes)) = some (some z34v, k34.sz, 40) := by kernel_rfl
theorem write_calls {w : World} {base b : Nat} {xs : List S34} (HS : Scr w base b xs) (hbase : base ≤ b) (hl : xs.length ≤ 1000000) (slot v : Int) :
    Calls Try.prog 29 #[.pointer (some ⟨b, 0, none⟩), .int .i64 slot, .int .i64 v] w fun e w' => e = .returned (.tuple #[]) ∧ Scr w' base b (xs ++ [⟨5, slot, 0, 0, v % 4294967296⟩]) ∧ Below base w w' := by
  have hlt := HS.lt
  obtain ⟨u, hb, hR⟩ := HS.out
  have c0 : w.cell? ⟨b, 0, none⟩ = some u := by simp [World.cell?, hb]
  have HR := Aside0.mk hR
  have HBl := Aside0.mk hb
  clear HS hR hb
  have hne : ∀ k, u.ownBlock = some k → k ≠ b := HR.out.1
  go_enter Try.func29, Try.ntmps29
  go_wp2_with (at_builtin; refine Kd.R_append k34 (w0 := w) base rfl (.tmp 9) (.tmp 14) 37 34 z34v 40 rfl Try.underlying37 infoOp rfl (by decide) (by decide) u xs ⟨5, slot, 0, 0, v % 4294967296⟩ _ (fun q => q ≠ b) (fun _ => False) rfl rfl (k34_mkM w base _ _) (fun _ h => h.elim) (fun k hk => by omega) HR.out (Below.refl _ _) (by omega) (by omega) ?_; intro v1 w1 hR1 hB1 hg1 hat1; obtain ⟨ad, n1, cp, rfl⟩ := R_slice hR1; have hb1 : w1.heap[b]? = some (.cells #[u] 37 (0, 0)) := (hg1.block b hlt (fun h => hne b h.symm rfl)).trans HBl.out; have c1 : w1.cell? ⟨b, 0, none⟩ = some u := (by simp [World.cell?, hb1]); have f1 : w1.frozen? ⟨b, 0, none⟩ = false := (by simp [World.frozen?, hb1]); have HR1 := Aside0.mk hR1; have HB1 := Aside0.mk hB1; have Hb1 := Aside0.mk hb1; clear hR1 hB1 hg1 hat1 hb1)
  go_end0
  exact ⟨rfl, Scr.set Hb1.out HR1.out, HB1.out.setCell hbase _⟩
end Go.Proofs.Ytampnfmhmonebaa.QWorkShapes
