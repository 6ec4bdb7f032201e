/- Two laws for a block of one's own that is known whole: a struct is stored into it, a struct is loaded out of it. Nothing is asked. -/
import Derived.Test.YtadhdjldcpkfiaaGreatDoorH
import Derived.Laws.Rows
import Derived.Laws.Tables
namespace Go.Proofs.YtadhdjldcpkfiaaGreatDoor
set_option linter.unusedVariables false
set_option linter.unusedSimpArgs false
open Go.RowKit
section
variable {P : Program}
theorem run_storeVar_blk (w : World) (g : Nat) (t ty : TypeId) (cs cs' : Array Value) (B : Blk w g t cs) (hi : (P.info? ty).map (·.size) = some cs'.size) (hs : cs'.size = cs.size) (h1 : ∀ x ∈ cs'.toList, x.oneCell' = true) :
    (storeVar ty ⟨g, 0, none⟩ (.agg cs')).run P w = .ok () (w.setRow g cs') := by
  cases hq : P.info? ty with
  | none => simp [hq] at hi
  | some i =>
    have hsz : i.size = cs'.size := by simpa [hq] using hi
    have hst := run_storeCells_from (P := P) g t cs'.toList 0 cs w B (by simpa using hs) h1
    simp only [List.take_zero, List.nil_append, Array.toArray_toList] at hst
    simp [storeVar, Value.cells, Sem.run_bind, sizeOf, typeInfo, hq, hsz, hst]
theorem Blk.setRow {w : World} {g : Nat} {t : TypeId} {cs : Array Value} (B : Blk w g t cs) (cs' : Array Value) : Blk (w.setRow g cs') g t cs' := setRow_heap w g cs cs' t (0, 0) B
theorem Stays.setRow (w : World) (g : Nat) (cs : Array Value) : Stays (fun k => k = g) w (w.setRow g cs) :=
  ⟨rfl, rfl, rfl, by simp, fun k _ hk => setRow_other w g k cs hk⟩
theorem wp_store_blk {o : Oper} {a : Act} {w : World} {K : Act → World → Prop} {Q : Exit → Act → World → Prop} (ty : TypeId) (p v : Operand) (ho : o.op = .store ty p v)
    (g : Nat) (hp : a.eval p = .pointer (some ⟨g, 0, none⟩)) (t : TypeId) (cs cs' : Array Value) (hv : a.eval v = .agg cs') (B : Blk w g t cs)
    (hi : (P.info? ty).map (·.size) = some cs'.size) (hs : cs'.size = cs.size) (h1 : ∀ x ∈ cs'.toList, x.oneCell' = true)
    (h : ∀ w', Blk w' g t cs' → Stays (fun k => k = g) w w' → K (a.put o.dst undef) w') : o.wp P a w K Q := by
  unfold Oper.wp execOp
  simp only [ho, hp, hv, Instr.storeAt, Instr.sureAddr, Sem.run_bind, Sem.run_pure, Result.andThen_ok, run_storeVar_blk w g t ty cs cs' B hi hs h1]
  exact h _ (B.setRow cs') (Stays.setRow w g cs')
theorem wpList_store_blk {ops : Array Oper} {rest : List Oper} {o : Oper} {a : Act} {w : World} {Q : Exit → Act → World → Prop} (hgd : o.guard = none) (ty : TypeId) (p v : Operand) (ho : o.op = .store ty p v)
    (g : Nat) (hp : a.eval p = .pointer (some ⟨g, 0, none⟩)) (t : TypeId) (cs cs' : Array Value) (hv : a.eval v = .agg cs') (B : Blk w g t cs)
    (hi : (P.info? ty).map (·.size) = some cs'.size) (hs : cs'.size = cs.size) (h1 : ∀ x ∈ cs'.toList, x.oneCell' = true)
    (h : ∀ w', Blk w' g t cs' → Stays (fun k => k = g) w w' → wpList P ops Q rest (a.put o.dst undef) w') : wpList P ops Q (o :: rest) a w :=
  wpList_plain hgd fun _ hK => wp_store_blk ty p v ho g hp t cs cs' hv B hi hs h1 fun w' B' K' => hK _ _ (h w' B' K')
theorem results_blk_tmp {fn : Func} {p u : Tmp} {ty : TypeId} (h : fn.results = #[.cell p ty, .tmp u]) (tmps : Array Value) (w : World) (g : Nat) (t : TypeId) (cs : Array Value) (d : TypeDesc)
    (hp : tmps.getD p undef = .pointer (some ⟨g, 0, none⟩)) (B : Blk w g t cs)
    (hu : P.underlying ty = some d) (hd : (match d with | .struct _ | .array _ _ => true | _ => false) = true) (hi : (P.info? ty).map (·.size) = some cs.size) :
    (results fn tmps).run P w = .ok (.tuple #[.agg cs, tmps.getD u undef]) w := by
  have hp' : tmps[p]?.getD undef = .pointer (some ⟨g, 0, none⟩) := by simpa using hp
  simp [results, h, hp', asAddr, run_loadVar_row w g t ty cs (0, 0) d B hu hd hi]
end
/-- Behind a store into a block of one's own the ground is as it was. -/
theorem Held.own {A : GA} {S : GS} {w w' : World} {g : Nat} (H : Held A S w) (k : Stays (fun k => k = g) w w') (hg : A.top ≤ g) : Held A S w' :=
  H.stays k (fun _ hb x => GA.far hg hb x)
theorem Stays.own {F : Nat → Prop} {a w w' : World} {g : Nat} (k : Stays F a w) (h : Stays (fun k => k = g) w w') (hg : a.heap.size ≤ g) : Stays F a w' :=
  ⟨h.os.trans k.os, h.tape.trans k.tape, h.output.trans k.output, Nat.le_trans k.size h.size, fun i hi hf => (h.block i (Nat.lt_of_lt_of_le hi k.size) (fun e => by omega)).trans (k.block i hi hf)⟩
end Go.Proofs.YtadhdjldcpkfiaaGreatDoor
