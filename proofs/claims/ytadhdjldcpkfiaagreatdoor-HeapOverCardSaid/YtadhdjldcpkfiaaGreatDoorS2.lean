/- A struct in a block of one's own is given back. A heap lies in memory. Nothing is asked. -/
import Derived.Test.YtadhdjldcpkfiaaGreatDoorS
namespace Go.Proofs.YtadhdjldcpkfiaaGreatDoor
set_option linter.unusedVariables false
set_option linter.unusedSimpArgs false
open Go.RowKit
set_option maxRecDepth 100000

theorem results_blk {P : Program} {fn : Func} {p : Tmp} {ty : TypeId} (h : fn.results = #[.cell p ty]) (tmps : Array Value) (w : World) (g : Nat) (t : TypeId) (cs : Array Value) (d : TypeDesc)
    (hp : tmps.getD p undef = .pointer (some ⟨g, 0, none⟩)) (B : Blk w g t cs)
    (hu : P.underlying ty = some d) (hd : (match d with | .struct _ | .array _ _ => true | _ => false) = true) (hi : (P.info? ty).map (·.size) = some cs.size) :
    (results fn tmps).run P w = .ok (.agg cs) w := by
  have hp' : tmps[p]?.getD undef = .pointer (some ⟨g, 0, none⟩) := by simpa using hp
  simp [results, h, hp', asAddr, run_loadVar_row w g t ty cs (0, 0) d B hu hd hi]

/-- An operation. -/
structure Op5 where
  kind : Int
  a : Int
  b : Int
  c : Int
  v : Int
deriving DecidableEq
def Op5.val (o : Op5) : Value := .agg #[.int .i64 o.kind, .int .i64 o.a, .int .i64 o.b, .int .i64 o.c, .int .u32 o.v]
/-- What it answers. -/
structure Ans where
  err : Int
  n : Int
  m : Int
  v : Int
deriving DecidableEq
def Ans.val (a : Ans) : Value := .agg #[.int .i64 a.err, .int .i64 a.n, .int .i64 a.m, .int .u32 a.v]

/-- A heap lies in memory: its own block, its ground. -/
structure HeapAt (A : GA) (hb : Nat) (S : GS) (w : World) : Prop where
  held : Held A S w
  box : Blk w hb 128 #[.pointer (some ⟨A.g, 0, none⟩)]
  far : ¬ A.foot hb
theorem HeapAt.stays {A : GA} {hb : Nat} {S : GS} {w w' : World} (h : HeapAt A hb S w) {F : Nat → Prop} (k : Stays F w w') (hF : ∀ b, A.all b → ¬ F b) (hB : ¬ F hb) : HeapAt A hb S w' :=
  ⟨h.held.stays k hF, h.box.stays k hB, h.far⟩
theorem HeapAt.next {A : GA} {hb : Nat} {S T : GS} {w w' : World} (h : HeapAt A hb S w) (H : Held A T w') (k : Stays A.foot w w') : HeapAt A hb T w' := ⟨H, h.box.stays k h.far, h.far⟩
theorem HeapAt.far_ {A : GA} {hb : Nat} {S : GS} {w : World} (h : HeapAt A hb S w) {p : Addr} (hp : A.top ≤ p.block) (hq : hb ≠ p.block) (u : Value) : HeapAt A hb S (w.setCell p u) := ⟨h.held.far hp u, h.box.far hq u, h.far⟩
theorem HeapAt.did {A : GA} {hb : Nat} {S T : GS} {w w' : World} {v : Value} {e : Ending} (h : HeapAt A hb S w) (k : Did A w v T e w') : HeapAt A hb T w' :=
  ⟨k.held, h.box.stays k.stays h.far, h.far⟩
end Go.Proofs.YtadhdjldcpkfiaaGreatDoor
