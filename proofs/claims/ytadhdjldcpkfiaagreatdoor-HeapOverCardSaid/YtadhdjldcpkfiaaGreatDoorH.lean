/- How a ground lies in memory, and what a call that changes one ground leaves alone. Nothing is asked. -/
import Derived.Test.YtadhdjldcpkfiaaGreatDoorProg
import Derived.Test.YtadhdjldcpkfiaaGreatDoorG
import Derived.WalkKit
import Derived.WalkSpells
import Derived.WalkLawsBesides
import Derived.Deep.QuietTactic
import Derived.BigQuiet
import Derived.Deep.RegionWith
import Derived.Deep.RegionHeld3
import Derived.Deep.AppendLies
import Derived.Laws.LoneSync
namespace Go.Proofs.YtadhdjldcpkfiaaGreatDoor
set_option linter.unusedVariables false
set_option linter.unusedSimpArgs false
open Go.RowKit

/-- A fact that the walk does not see. -/
structure Hd (p : Prop) : Prop where mk :: (out : p)

/-- The blocks of a ground: its own, its store's, its words'. -/
structure GA where
  g : Nat
  s : Nat
  a : Nat

/-- What a call may turn: some blocks; all others that were there stay, and no block goes. -/
structure Stays (F : Nat → Prop) (w w' : World) : Prop where
  os : w'.os = w.os
  tape : w'.tape = w.tape
  output : w'.output = w.output
  size : w.heap.size ≤ w'.heap.size
  block : ∀ k, k < w.heap.size → ¬ F k → w'.heap[k]? = w.heap[k]?

theorem Stays.refl (F : Nat → Prop) (w : World) : Stays F w w := ⟨rfl, rfl, rfl, Nat.le_refl _, fun _ _ _ => rfl⟩
theorem Stays.trans {F : Nat → Prop} {a b c : World} (h : Stays F a b) (k : Stays F b c) : Stays F a c :=
  ⟨k.os.trans h.os, k.tape.trans h.tape, k.output.trans h.output, Nat.le_trans h.size k.size, fun i hi hf => (k.block i (Nat.lt_of_lt_of_le hi h.size) hf).trans (h.block i hi hf)⟩
theorem Stays.mono {F G : Nat → Prop} {w w' : World} (h : Stays F w w') (hG : ∀ k, F k → G k) : Stays G w w' :=
  ⟨h.os, h.tape, h.output, h.size, fun k hk hf => h.block k hk (fun x => hf (hG k x))⟩
theorem Stays.drew {F : Nat → Prop} {a w : World} (h : Stays F a w) : Stays F a w.drew := ⟨h.os, h.tape, h.output, h.size, h.block⟩
theorem Stays.drewN {F : Nat → Prop} {a w : World} (h : Stays F a w) (n : Nat) : Stays F a (w.drewN n) := ⟨h.os, h.tape, h.output, h.size, h.block⟩
theorem Stays.alloc {F : Nat → Prop} {a w : World} (h : Stays F a w) (o : Obj) : Stays F a (w.alloc o) :=
  ⟨h.os, h.tape, h.output, Nat.le_trans h.size ((Below.refl 0 w).alloc (Nat.zero_le _) o).size, fun k hk hf => (Below.heap_alloc w o k (Nat.lt_of_lt_of_le hk h.size)).trans (h.block k hk hf)⟩
theorem Stays.setCell {F : Nat → Prop} {a w : World} (h : Stays F a w) {p : Addr} (hp : F p.block ∨ a.heap.size ≤ p.block) (u : Value) : Stays F a (w.setCell p u) :=
  ⟨h.os, h.tape, h.output, by simpa [World.setCell] using h.size, fun k hk hf => by
    have : k ≠ p.block := by
      rintro rfl
      rcases hp with hp | hp
      · exact hf hp
      · omega
    exact (Below.heap_setCell w p u k this).trans (h.block k hk hf)⟩
theorem Stays.below {w w' : World} (h : Stays (fun _ => False) w w') : Below w.heap.size w w' := ⟨h.os, h.tape, h.output, h.size, fun k hk => h.block k hk (fun x => x)⟩
theorem Stays.of_below {F : Nat → Prop} {w w' : World} (h : Below w.heap.size w w') : Stays F w w' := ⟨h.os, h.tape, h.output, h.size, fun k hk _ => h.block k hk⟩
theorem Stays.cell {F : Nat → Prop} {w w' : World} (h : Stays F w w') {p : Addr} (hp : p.block < w.heap.size) (hf : ¬ F p.block) : w'.cell? p = w.cell? p :=
  World.cell?_of_block (w := w) (h.block p.block hp hf)
theorem Stays.frozen {F : Nat → Prop} {w w' : World} (h : Stays F w w') {p : Addr} (hp : p.block < w.heap.size) (hf : ¬ F p.block) : w'.frozen? p = w.frozen? p :=
  World.frozen?_of_block (w := w) (h.block p.block hp hf)

/-- The program's array 'none' holds noughts. -/
def NoneZ (w : World) : Prop := ∀ i, i < 5 → w.cell? ⟨1, i, none⟩ = some (.int .i64 0)
theorem NoneZ.lt {w : World} (h : NoneZ w) : 1 < w.heap.size := World.block_lt_of_cell? w _ (h 0 (by omega))
theorem NoneZ.stays {F : Nat → Prop} {w w' : World} (h : NoneZ w) (k : Stays F w w') (hf : ¬ F 1) : NoneZ w' := fun i hi => by
  have h' := h i hi
  have hlt := World.block_lt_of_cell? w _ h'
  rw [k.cell hlt hf]
  exact h'
theorem NoneZ.drew {w : World} (h : NoneZ w) : NoneZ w.drew := h
theorem NoneZ.alloc {w : World} (h : NoneZ w) (o : Obj) : NoneZ (w.alloc o) := h.stays ((Stays.refl (fun _ => False) w).alloc o) (fun x => x)

def GA.foot (A : GA) : Nat → Prop := fun k => k = A.s ∨ k = A.a
def GA.all (A : GA) : Nat → Prop := fun k => k = A.g ∨ k = A.s ∨ k = A.a ∨ k = 1

/-- A ground lies in memory. -/
structure Held (A : GA) (S : GS) (w : World) : Prop where
  ok : S.Ok
  gs : A.g ≠ A.s
  ga : A.g ≠ A.a
  sa : A.s ≠ A.a
  zs : A.s ≠ 1
  za : A.a ≠ 1
  z : NoneZ w
  hg : w.heap[A.g]? = some (.cells #[.pointer (some ⟨A.s, 0, none⟩), .int .i64 S.n, .int .i64 S.w, .int .i64 S.r, .int .i64 S.k] 166 (0, 0))
  hs : w.heap[A.s]? = some (.cells #[.slice (some ⟨A.a, 0, none⟩) S.ws.length S.ws.length, .int .u64 S.m] 194 (0, 0))
  ha : w.heap[A.a]? = some (.cells (S.ws.map (Value.int .u32)).toArray 51 (0, 0))

theorem lt_of_get {w : World} {b : Nat} {o : Obj} (h : w.heap[b]? = some o) : b < w.heap.size := by
  rcases Nat.lt_or_ge b w.heap.size with h' | h'
  · exact h'
  · rw [Array.getElem?_eq_none h'] at h; cases h

theorem Held.stays {A : GA} {S : GS} {w w' : World} (h : Held A S w) {F : Nat → Prop} (k : Stays F w w') (hF : ∀ b, A.all b → ¬ F b) : Held A S w' :=
  ⟨h.ok, h.gs, h.ga, h.sa, h.zs, h.za, h.z.stays k (hF _ (Or.inr (Or.inr (Or.inr rfl)))), (k.block _ (lt_of_get h.hg) (hF _ (Or.inl rfl))).trans h.hg, (k.block _ (lt_of_get h.hs) (hF _ (Or.inr (Or.inl rfl)))).trans h.hs,
   (k.block _ (lt_of_get h.ha) (hF _ (Or.inr (Or.inr (Or.inl rfl))))).trans h.ha⟩

def GA.top (A : GA) : Nat := max (max (max A.g A.s) A.a) 1 + 1
theorem Held.top {A : GA} {S : GS} {w : World} (h : Held A S w) : A.top ≤ w.heap.size := by
  have := lt_of_get h.hg
  have := lt_of_get h.hs
  have := lt_of_get h.ha
  have := h.z.lt
  unfold GA.top
  omega
theorem GA.far {A : GA} {n b : Nat} (h : A.top ≤ n) (hb : A.all b) : b ≠ n := by
  unfold GA.top at h
  rcases hb with rfl | rfl | rfl | rfl <;> omega
theorem GA.foot_far {A : GA} {n : Nat} (h : A.top ≤ n) : ¬ A.foot n := fun hf => by
  unfold GA.top at h
  rcases hf with rfl | rfl <;> omega
theorem Held.alloc {A : GA} {S : GS} {w : World} (h : Held A S w) (o : Obj) : Held A S (w.alloc o) :=
  h.stays ((Stays.refl (fun _ => False) w).alloc o) (fun _ _ x => x)
theorem Held.far {A : GA} {S : GS} {w : World} (h : Held A S w) {p : Addr} (hp : A.top ≤ p.block) (u : Value) : Held A S (w.setCell p u) :=
  h.stays ((Stays.refl (fun k => k = p.block) w).setCell (Or.inl rfl) u) (fun _ hb x => GA.far hp hb x)
theorem Held.drewN {A : GA} {S : GS} {w : World} (h : Held A S w) (n : Nat) : Held A S (w.drewN n) := ⟨h.ok, h.gs, h.ga, h.sa, h.zs, h.za, h.z, h.hg, h.hs, h.ha⟩
theorem Held.drew {A : GA} {S : GS} {w : World} (h : Held A S w) : Held A S w.drew := ⟨h.ok, h.gs, h.ga, h.sa, h.zs, h.za, h.z, h.hg, h.hs, h.ha⟩

/-- A call that computes, and makes new memory at most. -/
structure Made (w : World) (v : Value) (e : Ending) (w' : World) : Prop where
  ret : e = .returned v
  stays : Stays (fun _ => False) w w'

/-- A block of one's own, known whole. -/
def Blk (w : World) (g : Nat) (t : TypeId) (cs : Array Value) : Prop := w.heap[g]? = some (.cells cs t (0, 0))
theorem Blk.lt {w : World} {g : Nat} {t : TypeId} {cs : Array Value} (h : Blk w g t cs) : g < w.heap.size := lt_of_get h
theorem Blk.cell {w : World} {g : Nat} {t : TypeId} {cs : Array Value} (h : Blk w g t cs) (i : Nat) : w.cell? ⟨g, i, none⟩ = cs[i]? := cell_of_row w g i cs t (0, 0) h
theorem Blk.frozen {w : World} {g : Nat} {t : TypeId} {cs : Array Value} (h : Blk w g t cs) (i : Nat) : w.frozen? ⟨g, i, none⟩ = false := by
  unfold Blk at h
  simp [World.frozen?, h]
theorem Blk.new (w : World) (t : TypeId) (cs : Array Value) : Blk (w.alloc (.cells cs t)) w.heap.size t cs := heap_alloc_new w _
theorem Blk.stays {F : Nat → Prop} {w w' : World} {g : Nat} {t : TypeId} {cs : Array Value} (h : Blk w g t cs) (k : Stays F w w') (hf : ¬ F g) : Blk w' g t cs :=
  (k.block g h.lt hf).trans h
theorem Blk.alloc {w : World} {g : Nat} {t : TypeId} {cs : Array Value} (h : Blk w g t cs) (o : Obj) : Blk (w.alloc o) g t cs := (Below.heap_alloc w o g h.lt).trans h
theorem Blk.drewN {w : World} {g : Nat} {t : TypeId} {cs : Array Value} (h : Blk w g t cs) (n : Nat) : Blk (w.drewN n) g t cs := h
theorem Blk.drew {w : World} {g : Nat} {t : TypeId} {cs : Array Value} (h : Blk w g t cs) : Blk w.drew g t cs := h
theorem Blk.far {w : World} {g : Nat} {t : TypeId} {cs : Array Value} (h : Blk w g t cs) {p : Addr} (hp : g ≠ p.block) (u : Value) : Blk (w.setCell p u) g t cs := (Below.heap_setCell w p u g hp).trans h
theorem Blk.set_ {w : World} {g : Nat} {t : TypeId} {cs : Array Value} (h : Blk w g t cs) (i : Nat) (u : Value) : Blk (w.setCell ⟨g, i, none⟩ u) g t (cs.setIfInBounds i u) := by
  unfold Blk at h ⊢
  simp [World.setCell, Array.getElem?_modify, h]

/-- What each call of a ground's comes to. -/
structure Did (A : GA) (w : World) (v : Value) (S' : GS) (e : Ending) (w' : World) : Prop where
  ret : e = .returned v
  held : Held A S' w'
  stays : Stays A.foot w w'

theorem Held.gcell {A : GA} {S : GS} {w : World} (h : Held A S w) : w.cell? ⟨A.g, 0, none⟩ = some (.pointer (some ⟨A.s, 0, none⟩)) := by simp [World.cell?, h.hg]
theorem Held.ncell {A : GA} {S : GS} {w : World} (h : Held A S w) : w.cell? ⟨A.g, 1, none⟩ = some (.int .i64 S.n) := by simp [World.cell?, h.hg]
theorem Held.wcell {A : GA} {S : GS} {w : World} (h : Held A S w) : w.cell? ⟨A.g, 2, none⟩ = some (.int .i64 S.w) := by simp [World.cell?, h.hg]
theorem Held.rcell {A : GA} {S : GS} {w : World} (h : Held A S w) : w.cell? ⟨A.g, 3, none⟩ = some (.int .i64 S.r) := by simp [World.cell?, h.hg]
theorem Held.kcell {A : GA} {S : GS} {w : World} (h : Held A S w) : w.cell? ⟨A.g, 4, none⟩ = some (.int .i64 S.k) := by simp [World.cell?, h.hg]
theorem Held.scell {A : GA} {S : GS} {w : World} (h : Held A S w) : w.cell? ⟨A.s, 0, none⟩ = some (.slice (some ⟨A.a, 0, none⟩) S.ws.length S.ws.length) := by simp [World.cell?, h.hs]
theorem Held.mcell {A : GA} {S : GS} {w : World} (h : Held A S w) : w.cell? ⟨A.s, 1, none⟩ = some (.int .u64 S.m) := by simp [World.cell?, h.hs]
theorem Held.mfree {A : GA} {S : GS} {w : World} (h : Held A S w) : w.frozen? ⟨A.s, 1, none⟩ = false := by simp [World.frozen?, h.hs]
theorem Held.acell {A : GA} {S : GS} {w : World} (h : Held A S w) {i : Nat} (hi : i < S.ws.length) : w.cell? ⟨A.a, i, none⟩ = some (.int .u32 (S.ws.getD i 0)) := by
  simp [World.cell?, h.ha, hi]
theorem Held.afree {A : GA} {S : GS} {w : World} (h : Held A S w) (i : Nat) : w.frozen? ⟨A.a, i, none⟩ = false := by
  simp [World.frozen?, h.ha]

theorem Held.tick {A : GA} {S : GS} {w : World} (h : Held A S w) : Held A S.tick (w.setCell ⟨A.s, 1, none⟩ (.int .u64 (IntKind.u64.wrap (S.m + 1)))) := by
  refine ⟨h.ok.tick, h.gs, h.ga, h.sa, h.zs, h.za, h.z.stays ((Stays.refl (fun k => k = A.s) w).setCell (Or.inl rfl) _) (fun x => h.zs x.symm), ?_, ?_, ?_⟩
  · rw [Below.heap_setCell _ _ _ _ h.gs]; exact h.hg
  · simp [World.setCell, Array.getElem?_modify, h.hs, GS.tick, IntKind.wrap_u64]
  · rw [Below.heap_setCell _ _ _ _ h.sa.symm]; exact h.ha
theorem Held.put {A : GA} {S : GS} {w : World} (h : Held A S w) (i : Nat) (v : Int) (h0 : 0 ≤ v) (h1 : v ≤ 4294967295) : Held A { S with ws := S.ws.set i v } (w.setCell ⟨A.a, i, none⟩ (.int .u32 v)) := by
  refine ⟨h.ok.set i v S.m h0 h1, h.gs, h.ga, h.sa, h.zs, h.za, h.z.stays ((Stays.refl (fun k => k = A.a) w).setCell (Or.inl rfl) _) (fun x => h.za x.symm), ?_, ?_, ?_⟩
  · rw [Below.heap_setCell _ _ _ _ h.ga]; exact h.hg
  · rw [Below.heap_setCell _ _ _ _ h.sa, List.length_set]; exact h.hs
  · simp [World.setCell, Array.getElem?_modify, h.ha, List.map_set]
theorem zsa {F : Nat → Prop} {a w : World} (h : Stays F a w) (o : Obj) : Stays F a (w.alloc o) := h.alloc o
theorem zsd {F : Nat → Prop} {a w : World} (h : Stays F a w) : Stays F a w.drew := h.drew
theorem zsn {F : Nat → Prop} {a w : World} (h : Stays F a w) (n : Nat) : Stays F a (w.drewN n) := h.drewN n
theorem zha {A : GA} {S : GS} {w : World} (h : Held A S w) (o : Obj) : Held A S (w.alloc o) := h.alloc o
theorem zhd {A : GA} {S : GS} {w : World} (h : Held A S w) : Held A S w.drew := h.drew
theorem zhn {A : GA} {S : GS} {w : World} (h : Held A S w) (n : Nat) : Held A S (w.drewN n) := h.drewN n
theorem zba {w : World} {g : Nat} {t : TypeId} {cs : Array Value} (h : Blk w g t cs) (o : Obj) : Blk (w.alloc o) g t cs := h.alloc o
theorem zbd {w : World} {g : Nat} {t : TypeId} {cs : Array Value} (h : Blk w g t cs) : Blk w.drew g t cs := h.drew
theorem zbn {w : World} {g : Nat} {t : TypeId} {cs : Array Value} (h : Blk w g t cs) (n : Nat) : Blk (w.drewN n) g t cs := h.drewN n
end Go.Proofs.YtadhdjldcpkfiaaGreatDoor
