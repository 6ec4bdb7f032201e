/-
  The table of the kinds' names (op.names), as the rows of this seat list it: what a walk reads there; op.Name and op.Kind over it.
-/
import Derived.Test.YtampnfmhmonebaaDoorProg
import Derived.Below
import Derived.Deep.Draws
import Derived.Deep.AppendLies
import Derived.Maps.AppendAt
import Derived.OwnWalk
import Derived.Laws.BytesArg
import Derived.Laws.MakeOwn
import Derived.Laws.OwnMore
import Derived.Deep.OwnRows
import Derived.Tactics
import Derived.Lib.ConvBytes
import Derived.Laws.Slices
import Derived.WalkKit
import Derived.KernelRfl
import Derived.RowKit3
import Derived.Deep.LoopGhost
import Derived.Deep.QuietTactic
import Derived.BigQuiet
import Derived.WideLaws
import Derived.Deep.DeepCutAuto
import Derived.Deep.CutBlock
import Derived.Deep.RegionHeld3
import Derived.Laws.Rows
import Derived.Lib.AppendStr
import Derived.ArgAppend
import Derived.Laws.IdiomCopy
import Derived.OrdersHeld
import Derived.Laws.BitsLemmas
import Derived.RowKit
import Derived.Test.YtampnfmhmonebaaDoorWWords
import Derived.Test.YtampnfmhmonebaaDoorWLast
import Derived.Test.YtampnfmhmonebaaDoorWTab
import Derived.Test.YtampnfmhmonebaaDoorWFour
import Derived.Test.YtampnfmhmonebaaDoorWQPut
import Derived.Test.YtampnfmhmonebaaDoorWApart
import Derived.Test.YtampnfmhmonebaaDoorWArr
import Derived.Test.YtampnfmhmonebaaDoorWZeros
import Derived.Test.YtampnfmhmonebaaDoorWFoot
import Derived.Test.YtampnfmhmonebaaDoorWKept
import Derived.Test.YtampnfmhmonebaaDoorWShare
import Derived.Test.YtampnfmhmonebaaDoorWN
import Derived.Test.YtampnfmhmonebaaDoorWFootNe
import Derived.Test.YtampnfmhmonebaaDoorWAt
import Derived.Test.YtampnfmhmonebaaDoorWEqStruct
import Derived.Test.YtampnfmhmonebaaDoorWRepsOne
import Derived.Test.YtampnfmhmonebaaDoorWInv
import Derived.Test.YtampnfmhmonebaaDoorWInvWords
import Derived.Test.YtampnfmhmonebaaDoorWGuard
import Derived.Test.YtampnfmhmonebaaDoorWNEv
import Derived.Test.YtampnfmhmonebaaDoorWMore
import Derived.Test.YtampnfmhmonebaaDoorRows
import Derived.Lib.LaidTab
import Derived.LaidMore
namespace Go.Proofs.YtampnfmhmonebaaDoor
open Go.RowKit Go.Proofs.YtampnfmhmonebaaDoorW.PrintWords Go.Proofs.YtampnfmhmonebaaDoorW.PrintLast Go.Proofs.YtampnfmhmonebaaDoorW.PrintMore
set_option linter.unusedVariables false
set_option linter.unusedSimpArgs false

def namesB : List ByteArray := [⟨#[]⟩, ⟨#[97, 108, 108, 111, 99]⟩, ⟨#[108, 111, 97, 100]⟩, ⟨#[115, 116, 111, 114, 101]⟩, ⟨#[114, 101, 97, 100]⟩, ⟨#[119, 114, 105, 116, 101]⟩, ⟨#[99, 111, 112, 121]⟩, ⟨#[100, 114, 111, 112]⟩, ⟨#[115, 97, 109, 101]⟩, ⟨#[108, 101, 110]⟩, ⟨#[116, 105, 99, 107]⟩]

theorem gNames : Tryd.prog.globalNamed "quitrent/op.names" = some 0 := by kernel_rfl
theorem tNames : (Tryd.prog.globals[0]?).map (·.type) = some 39 := by kernel_rfl
theorem c39 : Tryd.prog.cellsOf 39 = 11 := by kernel_rfl
theorem c9 : Tryd.prog.cellsOf 9 = 1 := by kernel_rfl

/-- The table's cells are the eleven names. -/
def NamesIn (w : World) : Prop := ∀ i (s : ByteArray), namesB[i]? = some s → w.cell? ⟨0, i, none⟩ = some (.string s)

theorem bytes_ext {a b : ByteArray} (h : a.data.toList = b.data.toList) : a = b := by
  cases a; cases b
  simp only [Array.toList_inj] at h
  rw [h]

theorem cells_of_strings {H : Type} {enc : TypeId × Value → H} {P : Program} {w : World} {base : Nat} {sp : Nat → Bool} {held : Bool} {fuel : Nat} {t e : TypeId} {n : Nat} {cs : List Value} {ss : List ByteArray} {p : List MemPlace}
    (ht : P.underlying t = some (.array n e)) (he : P.underlying e = some .string) (hce : P.cellsOf e = 1) (hct : P.cellsOf t = n)
    (h : DataW.trod enc P w base sp held fuel t cs = some (.agg (ss.map fun s => .lit (.string s.data.toList)), p)) : cs = ss.map fun s => Value.string s := by
  cases fuel with
  | zero => simp [DataW.trod] at h
  | succ fuel =>
    simp only [DataW.trod, ht, hce, hct, Nat.mul_one] at h
    split at h
    · rename_i hl
      obtain ⟨xs, hm, hx⟩ := Option.map_eq_some_iff.1 h
      have hxs : xs.map (·.1) = ss.map fun s => (DataW.lit (.string s.data.toList) : DataW H) := by
        have := congrArg Prod.fst hx
        simpa using this
      have hxl : xs.length = n := by simpa using Lib.mapM_length hm
      have hzl : ss.length = n := by
        have := congrArg List.length hxs
        simp at this
        omega
      apply List.ext_getElem?
      intro i
      by_cases hi : i < n
      · obtain ⟨b, hb, hf⟩ := Lib.mapM_at hm i i (by simp [hi])
        obtain ⟨s, hc, rfl, _⟩ := DataW.trod_string he hf
        have h1 : cs[i]? = some (.string s) := by
          have := congrArg (·[0]?) hc
          simpa [List.getElem?_take, List.getElem?_drop] using this
        have h2 : (xs.map (·.1))[i]? = some (DataW.lit (.string s.data.toList) : DataW H) := by simp [hb]
        rw [hxs] at h2
        simp only [List.getElem?_map, Option.map_eq_some_iff, DataW.lit.injEq, Lit.string.injEq] at h2
        obtain ⟨s', hs', e'⟩ := h2
        obtain rfl := bytes_ext e'
        simp [h1, hs']
      · rw [List.getElem?_eq_none (by omega), List.getElem?_eq_none (by simp; omega)]
    · cases h

/-- From the row's condition to what the walks read. -/
theorem namesIn_of_laid {W : World} (h : laidMetH Tryd.prog [("quitrent/op.names", Rows.laid_quitrent_op_names)] W) : NamesIn W := by
  rw [MakeChecks.laidMetH_plain _ _ _ (by kernel_rfl)] at h
  obtain ⟨ps, ⟨g', t', cs, fuel, p, q, hg', ht', hvar, hd, _, _⟩, _⟩ := h
  obtain rfl := Option.some.inj (gNames.symm.trans hg')
  obtain rfl := Option.some.inj (tNames.symm.trans ht')
  have hcs := cells_of_strings (ss := namesB) Tryd.underlying39 Tryd.underlying9 c9 c39 hd
  intro i s hs
  have := World.var?_cell gNames hvar i
  rw [this, ← Array.getElem?_toList, hcs]
  simp [hs]

theorem NamesIn.below {w w' : World} (h : NamesIn w) (hb : Below w.heap.size w w') : NamesIn w' := by
  intro i s hs
  have hc := h i s hs
  have h0 : 0 < w.heap.size := by
    have := h 0 ⟨#[]⟩ rfl
    exact World.block_lt_of_cell? w _ this
  rw [← hc]
  exact hb.cell h0

theorem NamesIn.drawn {w w' : World} (h : NamesIn w) (hb : Drawn0 w w') : NamesIn w' := h.below hb.below

theorem is_calls (a0 : Int) (w : World) :
    Calls Tryd.prog 18 #[.int .i64 a0] w fun e w' => e = .returned (.bool (decide (1 ≤ a0) && decide (a0 ≤ 10))) ∧ Drawn0 w w' := by
  by_cases c2 : 1 ≤ a0
  · have c2b0 : decide (1 ≤ a0) = true := decide_eq_true c2
    clear c2
    go_enter Tryd.func18, Tryd.ntmps18
    go_wp2
    go_ret
    exact ⟨by simp [c2b0], by repeat (first | exact Drawn0.refl _ | apply Drawn0.step)⟩
  · have c2b0 : decide (1 ≤ a0) = false := decide_eq_false c2
    clear c2
    go_enter Tryd.func18, Tryd.ntmps18
    go_wp2
    go_ret
    exact ⟨by simp [c2b0], by repeat (first | exact Drawn0.refl _ | apply Drawn0.step)⟩

def nameF (a0 : Int) : Option ByteArray := if 1 ≤ a0 ∧ a0 ≤ 10 then some (namesB.getD a0.toNat ⟨#[]⟩) else some ⟨#[]⟩

theorem Drawn0.drew0 {w : World} {n : Nat} : Drawn0 w (w.drewN n) := ⟨⟨n, rfl⟩⟩

theorem nameF_calls (a0 : Int) (r : ByteArray) (w : World) (hT : NamesIn w) (h : nameF a0 = some r) :
    Calls Tryd.prog 8 #[.int .i64 a0] w fun e w' => e = .returned (.string r) ∧ Drawn0 w w' := by
  unfold nameF at h
  by_cases c : 1 ≤ a0 ∧ a0 ≤ 10
  · rw [if_pos c] at h
    obtain rfl := Option.some.inj h
    clear h
    obtain ⟨c1, c2⟩ := c
    obtain ⟨i, rfl⟩ := Int.eq_ofNat_of_zero_le (show 0 ≤ a0 by omega)
    have hi : i < 11 := by omega
    have hc : w.cell? ⟨0, i, none⟩ = some (.string (namesB.getD i ⟨#[]⟩)) := by
      refine hT i _ ?_
      rw [List.getD_eq_getElem?_getD, List.getElem?_eq_getElem (show i < namesB.length from hi)]
      rfl
    have hb : (decide (1 ≤ (i : Int)) && decide ((i : Int) ≤ 10)) = true := by simp; omega
    clear hT
    rw [Int.toNat_natCast]
    generalize namesB.getD i ⟨#[]⟩ = s at hc ⊢
    go_enter Tryd.func8, Tryd.ntmps8
    go_wp2_with fail
    refine (is_calls _ _).mono ?_
    rintro _ w1 ⟨rfl, n, rfl⟩
    rw [hb]
    clear c1 c2
    go_wp2
    go_ret
    exact ⟨rfl, by repeat (first | exact Drawn0.refl _ | exact Drawn0.drew0 | apply Drawn0.step)⟩
  · rw [if_neg c] at h
    obtain rfl := Option.some.inj h
    clear h
    have hb : (decide (1 ≤ a0) && decide (a0 ≤ 10)) = false := by
      rw [Bool.and_eq_false_iff]
      by_cases c1 : 1 ≤ a0
      · exact Or.inr (decide_eq_false fun h2 => c ⟨c1, h2⟩)
      · exact Or.inl (decide_eq_false c1)
    clear c hT
    go_enter Tryd.func8, Tryd.ntmps8
    go_wp2_with fail
    refine (is_calls _ _).mono ?_
    rintro _ w1 ⟨rfl, n, rfl⟩
    rw [hb]
    go_wp2
    go_ret
    exact ⟨rfl, by repeat (first | exact Drawn0.refl _ | exact Drawn0.drew0 | apply Drawn0.step)⟩

def kindFrom : Nat → Nat → ByteArray → Int × Bool
  | 0, _, _ => (0, false)
  | k + 1, i, s => if 1 ≤ i ∧ i ≤ 10 ∧ (namesB.getD i ⟨#[]⟩).toList = s.toList then ((i : Int), true) else kindFrom k (i + 1) s
def kindF (s : ByteArray) : Option (Int × Bool) := some (kindFrom 11 0 s)

theorem idx_names : (∀ w, (Instr.index 39 (.agg #[.string ⟨#[]⟩, .string ⟨#[97, 108, 108, 111, 99]⟩, .string ⟨#[108, 111, 97, 100]⟩, .string ⟨#[115, 116, 111, 114, 101]⟩, .string ⟨#[114, 101, 97, 100]⟩, .string ⟨#[119, 114, 105, 116, 101]⟩, .string ⟨#[99, 111, 112, 121]⟩, .string ⟨#[100, 114, 111, 112]⟩, .string ⟨#[115, 97, 109, 101]⟩, .string ⟨#[108, 101, 110]⟩, .string ⟨#[116, 105, 99, 107]⟩]) (.int .i64 0)).run Tryd.prog w = .ok (.string ⟨#[]⟩) w) ∧ (∀ w, (Instr.index 39 (.agg #[.string ⟨#[]⟩, .string ⟨#[97, 108, 108, 111, 99]⟩, .string ⟨#[108, 111, 97, 100]⟩, .string ⟨#[115, 116, 111, 114, 101]⟩, .string ⟨#[114, 101, 97, 100]⟩, .string ⟨#[119, 114, 105, 116, 101]⟩, .string ⟨#[99, 111, 112, 121]⟩, .string ⟨#[100, 114, 111, 112]⟩, .string ⟨#[115, 97, 109, 101]⟩, .string ⟨#[108, 101, 110]⟩, .string ⟨#[116, 105, 99, 107]⟩]) (.int .i64 1)).run Tryd.prog w = .ok (.string ⟨#[97, 108, 108, 111, 99]⟩) w) ∧ (∀ w, (Instr.index 39 (.agg #[.string ⟨#[]⟩, .string ⟨#[97, 108, 108, 111, 99]⟩, .string ⟨#[108, 111, 97, 100]⟩, .string ⟨#[115, 116, 111, 114, 101]⟩, .string ⟨#[114, 101, 97, 100]⟩, .string ⟨#[119, 114, 105, 116, 101]⟩, .string ⟨#[99, 111, 112, 121]⟩, .string ⟨#[100, 114, 111, 112]⟩, .string ⟨#[115, 97, 109, 101]⟩, .string ⟨#[108, 101, 110]⟩, .string ⟨#[116, 105, 99, 107]⟩]) (.int .i64 2)).run Tryd.prog w = .ok (.string ⟨#[108, 111, 97, 100]⟩) w) ∧ (∀ w, (Instr.index 39 (.agg #[.string ⟨#[]⟩, .string ⟨#[97, 108, 108, 111, 99]⟩, .string ⟨#[108, 111, 97, 100]⟩, .string ⟨#[115, 116, 111, 114, 101]⟩, .string ⟨#[114, 101, 97, 100]⟩, .string ⟨#[119, 114, 105, 116, 101]⟩, .string ⟨#[99, 111, 112, 121]⟩, .string ⟨#[100, 114, 111, 112]⟩, .string ⟨#[115, 97, 109, 101]⟩, .string ⟨#[108, 101, 110]⟩, .string ⟨#[116, 105, 99, 107]⟩]) (.int .i64 3)).run Tryd.prog w = .ok (.string ⟨#[115, 116, 111, 114, 101]⟩) w) ∧ (∀ w, (Instr.index 39 (.agg #[.string ⟨#[]⟩, .string ⟨#[97, 108, 108, 111, 99]⟩, .string ⟨#[108, 111, 97, 100]⟩, .string ⟨#[115, 116, 111, 114, 101]⟩, .string ⟨#[114, 101, 97, 100]⟩, .string ⟨#[119, 114, 105, 116, 101]⟩, .string ⟨#[99, 111, 112, 121]⟩, .string ⟨#[100, 114, 111, 112]⟩, .string ⟨#[115, 97, 109, 101]⟩, .string ⟨#[108, 101, 110]⟩, .string ⟨#[116, 105, 99, 107]⟩]) (.int .i64 4)).run Tryd.prog w = .ok (.string ⟨#[114, 101, 97, 100]⟩) w) ∧ (∀ w, (Instr.index 39 (.agg #[.string ⟨#[]⟩, .string ⟨#[97, 108, 108, 111, 99]⟩, .string ⟨#[108, 111, 97, 100]⟩, .string ⟨#[115, 116, 111, 114, 101]⟩, .string ⟨#[114, 101, 97, 100]⟩, .string ⟨#[119, 114, 105, 116, 101]⟩, .string ⟨#[99, 111, 112, 121]⟩, .string ⟨#[100, 114, 111, 112]⟩, .string ⟨#[115, 97, 109, 101]⟩, .string ⟨#[108, 101, 110]⟩, .string ⟨#[116, 105, 99, 107]⟩]) (.int .i64 5)).run Tryd.prog w = .ok (.string ⟨#[119, 114, 105, 116, 101]⟩) w) ∧ (∀ w, (Instr.index 39 (.agg #[.string ⟨#[]⟩, .string ⟨#[97, 108, 108, 111, 99]⟩, .string ⟨#[108, 111, 97, 100]⟩, .string ⟨#[115, 116, 111, 114, 101]⟩, .string ⟨#[114, 101, 97, 100]⟩, .string ⟨#[119, 114, 105, 116, 101]⟩, .string ⟨#[99, 111, 112, 121]⟩, .string ⟨#[100, 114, 111, 112]⟩, .string ⟨#[115, 97, 109, 101]⟩, .string ⟨#[108, 101, 110]⟩, .string ⟨#[116, 105, 99, 107]⟩]) (.int .i64 6)).run Tryd.prog w = .ok (.string ⟨#[99, 111, 112, 121]⟩) w) ∧ (∀ w, (Instr.index 39 (.agg #[.string ⟨#[]⟩, .string ⟨#[97, 108, 108, 111, 99]⟩, .string ⟨#[108, 111, 97, 100]⟩, .string ⟨#[115, 116, 111, 114, 101]⟩, .string ⟨#[114, 101, 97, 100]⟩, .string ⟨#[119, 114, 105, 116, 101]⟩, .string ⟨#[99, 111, 112, 121]⟩, .string ⟨#[100, 114, 111, 112]⟩, .string ⟨#[115, 97, 109, 101]⟩, .string ⟨#[108, 101, 110]⟩, .string ⟨#[116, 105, 99, 107]⟩]) (.int .i64 7)).run Tryd.prog w = .ok (.string ⟨#[100, 114, 111, 112]⟩) w) ∧ (∀ w, (Instr.index 39 (.agg #[.string ⟨#[]⟩, .string ⟨#[97, 108, 108, 111, 99]⟩, .string ⟨#[108, 111, 97, 100]⟩, .string ⟨#[115, 116, 111, 114, 101]⟩, .string ⟨#[114, 101, 97, 100]⟩, .string ⟨#[119, 114, 105, 116, 101]⟩, .string ⟨#[99, 111, 112, 121]⟩, .string ⟨#[100, 114, 111, 112]⟩, .string ⟨#[115, 97, 109, 101]⟩, .string ⟨#[108, 101, 110]⟩, .string ⟨#[116, 105, 99, 107]⟩]) (.int .i64 8)).run Tryd.prog w = .ok (.string ⟨#[115, 97, 109, 101]⟩) w) ∧ (∀ w, (Instr.index 39 (.agg #[.string ⟨#[]⟩, .string ⟨#[97, 108, 108, 111, 99]⟩, .string ⟨#[108, 111, 97, 100]⟩, .string ⟨#[115, 116, 111, 114, 101]⟩, .string ⟨#[114, 101, 97, 100]⟩, .string ⟨#[119, 114, 105, 116, 101]⟩, .string ⟨#[99, 111, 112, 121]⟩, .string ⟨#[100, 114, 111, 112]⟩, .string ⟨#[115, 97, 109, 101]⟩, .string ⟨#[108, 101, 110]⟩, .string ⟨#[116, 105, 99, 107]⟩]) (.int .i64 9)).run Tryd.prog w = .ok (.string ⟨#[108, 101, 110]⟩) w) ∧ (∀ w, (Instr.index 39 (.agg #[.string ⟨#[]⟩, .string ⟨#[97, 108, 108, 111, 99]⟩, .string ⟨#[108, 111, 97, 100]⟩, .string ⟨#[115, 116, 111, 114, 101]⟩, .string ⟨#[114, 101, 97, 100]⟩, .string ⟨#[119, 114, 105, 116, 101]⟩, .string ⟨#[99, 111, 112, 121]⟩, .string ⟨#[100, 114, 111, 112]⟩, .string ⟨#[115, 97, 109, 101]⟩, .string ⟨#[108, 101, 110]⟩, .string ⟨#[116, 105, 99, 107]⟩]) (.int .i64 10)).run Tryd.prog w = .ok (.string ⟨#[116, 105, 99, 107]⟩) w) := by
  refine ⟨?_, ?_, ?_, ?_, ?_, ?_, ?_, ?_, ?_, ?_, ?_⟩ <;> (intro w; kernel_rfl)
theorem kindF_calls (a0 : ByteArray) (r1 : Int) (r2 : Bool) (w : World) (hT : NamesIn w) (h : kindF a0 = some (r1, r2)) :
    Calls Tryd.prog 5 #[.string a0] w fun e w' => e = .returned (.tuple #[.int .i64 r1, .bool r2]) ∧ Drawn0 w w' := by
  have hk := Aside0.mk (Option.some.inj h)
  clear h
  have t0 := hT 0 _ rfl
  have t1 := hT 1 _ rfl
  have t2 := hT 2 _ rfl
  have t3 := hT 3 _ rfl
  have t4 := hT 4 _ rfl
  have t5 := hT 5 _ rfl
  have t6 := hT 6 _ rfl
  have t7 := hT 7 _ rfl
  have t8 := hT 8 _ rfl
  have t9 := hT 9 _ rfl
  have t10 := hT 10 _ rfl
  clear hT
  go_enter Tryd.func5, Tryd.ntmps5
  go_wp2_with fail
  go_loopw [7] (fun v7 wr => ∃ i : Nat, i ≤ 11 ∧ v7 = .int .i64 i ∧ Aside0 (kindFrom (11 - i) i a0 = (r1, r2)) ∧ Aside0 (Drawn0 w wr)) (fun v7 _ => 11 - (intOf v7).toNat)
  case atStart => exact ⟨0, by omega, rfl, hk, ⟨Drawn0.refl _⟩⟩
  case round =>
    clear t0 t1 t2 t3 t4 t5 t6 t7 t8 t9 t10 hk
    obtain ⟨i, hi, rfl, HK, HD⟩ := hrel
    rcases (show i = 0 ∨ i = 1 ∨ i = 2 ∨ i = 3 ∨ i = 4 ∨ i = 5 ∨ i = 6 ∨ i = 7 ∨ i = 8 ∨ i = 9 ∨ i = 10 ∨ i = 11 by omega) with rfl | rfl | rfl | rfl | rfl | rfl | rfl | rfl | rfl | rfl | rfl | rfl
    · have hx := idx_names.1
      have H := HK.out
      clear HK
      go_wp2_with fail
      refine (is_calls _ _).mono ?_
      rintro _ w1 ⟨rfl, n, rfl⟩
      go_wp2
      go_roundw
      case rel => exact ⟨1, by omega, rfl, ⟨H⟩, ⟨HD.out.step _⟩⟩
      case measure => simp [intOf]
    · have hx := idx_names.2.1
      have H := HK.out
      clear HK
      have H' : (if 1 ≤ 1 ∧ 1 ≤ 10 ∧ (⟨#[97, 108, 108, 111, 99]⟩ : ByteArray).toList = a0.toList then (((1 : Nat) : Int), true) else kindFrom (10 - 1) (1 + 1) a0) = (r1, r2) := H
      clear H
      by_cases c : (⟨#[97, 108, 108, 111, 99]⟩ : ByteArray).toList = a0.toList
      · have cb : (([97, 108, 108, 111, 99] : List UInt8) == a0.toList) = true := beq_iff_eq.mpr (by rw [← c, ByteArray.toList_eq])
        rw [if_pos ⟨by omega, by omega, c⟩] at H'
        obtain ⟨rfl, rfl⟩ := Prod.mk.inj H'
        clear c H'
        go_wp2_with fail
        refine (is_calls _ _).mono ?_
        rintro _ w1 ⟨rfl, n, rfl⟩
        go_wp2
        go_ret2
        exact ⟨rfl, HD.out.step _⟩
      · have cb : (([97, 108, 108, 111, 99] : List UInt8) == a0.toList) = false := beq_eq_false_iff_ne.mpr (fun x => c (by rw [← x, ByteArray.toList_eq]))
        rw [if_neg (fun x => c x.2.2)] at H'
        clear c
        have H := Aside0.mk H'
        clear H'
        go_wp2_with fail
        refine (is_calls _ _).mono ?_
        rintro _ w1 ⟨rfl, n, rfl⟩
        go_wp2
        go_roundw
        case rel => exact ⟨2, by omega, rfl, H, ⟨HD.out.step _⟩⟩
        case measure => simp [intOf]
    · have hx := idx_names.2.2.1
      have H := HK.out
      clear HK
      have H' : (if 1 ≤ 2 ∧ 2 ≤ 10 ∧ (⟨#[108, 111, 97, 100]⟩ : ByteArray).toList = a0.toList then (((2 : Nat) : Int), true) else kindFrom (10 - 2) (2 + 1) a0) = (r1, r2) := H
      clear H
      by_cases c : (⟨#[108, 111, 97, 100]⟩ : ByteArray).toList = a0.toList
      · have cb : (([108, 111, 97, 100] : List UInt8) == a0.toList) = true := beq_iff_eq.mpr (by rw [← c, ByteArray.toList_eq])
        rw [if_pos ⟨by omega, by omega, c⟩] at H'
        obtain ⟨rfl, rfl⟩ := Prod.mk.inj H'
        clear c H'
        go_wp2_with fail
        refine (is_calls _ _).mono ?_
        rintro _ w1 ⟨rfl, n, rfl⟩
        go_wp2
        go_ret2
        exact ⟨rfl, HD.out.step _⟩
      · have cb : (([108, 111, 97, 100] : List UInt8) == a0.toList) = false := beq_eq_false_iff_ne.mpr (fun x => c (by rw [← x, ByteArray.toList_eq]))
        rw [if_neg (fun x => c x.2.2)] at H'
        clear c
        have H := Aside0.mk H'
        clear H'
        go_wp2_with fail
        refine (is_calls _ _).mono ?_
        rintro _ w1 ⟨rfl, n, rfl⟩
        go_wp2
        go_roundw
        case rel => exact ⟨3, by omega, rfl, H, ⟨HD.out.step _⟩⟩
        case measure => simp [intOf]
    · have hx := idx_names.2.2.2.1
      have H := HK.out
      clear HK
      have H' : (if 1 ≤ 3 ∧ 3 ≤ 10 ∧ (⟨#[115, 116, 111, 114, 101]⟩ : ByteArray).toList = a0.toList then (((3 : Nat) : Int), true) else kindFrom (10 - 3) (3 + 1) a0) = (r1, r2) := H
      clear H
      by_cases c : (⟨#[115, 116, 111, 114, 101]⟩ : ByteArray).toList = a0.toList
      · have cb : (([115, 116, 111, 114, 101] : List UInt8) == a0.toList) = true := beq_iff_eq.mpr (by rw [← c, ByteArray.toList_eq])
        rw [if_pos ⟨by omega, by omega, c⟩] at H'
        obtain ⟨rfl, rfl⟩ := Prod.mk.inj H'
        clear c H'
        go_wp2_with fail
        refine (is_calls _ _).mono ?_
        rintro _ w1 ⟨rfl, n, rfl⟩
        go_wp2
        go_ret2
        exact ⟨rfl, HD.out.step _⟩
      · have cb : (([115, 116, 111, 114, 101] : List UInt8) == a0.toList) = false := beq_eq_false_iff_ne.mpr (fun x => c (by rw [← x, ByteArray.toList_eq]))
        rw [if_neg (fun x => c x.2.2)] at H'
        clear c
        have H := Aside0.mk H'
        clear H'
        go_wp2_with fail
        refine (is_calls _ _).mono ?_
        rintro _ w1 ⟨rfl, n, rfl⟩
        go_wp2
        go_roundw
        case rel => exact ⟨4, by omega, rfl, H, ⟨HD.out.step _⟩⟩
        case measure => simp [intOf]
    · have hx := idx_names.2.2.2.2.1
      have H := HK.out
      clear HK
      have H' : (if 1 ≤ 4 ∧ 4 ≤ 10 ∧ (⟨#[114, 101, 97, 100]⟩ : ByteArray).toList = a0.toList then (((4 : Nat) : Int), true) else kindFrom (10 - 4) (4 + 1) a0) = (r1, r2) := H
      clear H
      by_cases c : (⟨#[114, 101, 97, 100]⟩ : ByteArray).toList = a0.toList
      · have cb : (([114, 101, 97, 100] : List UInt8) == a0.toList) = true := beq_iff_eq.mpr (by rw [← c, ByteArray.toList_eq])
        rw [if_pos ⟨by omega, by omega, c⟩] at H'
        obtain ⟨rfl, rfl⟩ := Prod.mk.inj H'
        clear c H'
        go_wp2_with fail
        refine (is_calls _ _).mono ?_
        rintro _ w1 ⟨rfl, n, rfl⟩
        go_wp2
        go_ret2
        exact ⟨rfl, HD.out.step _⟩
      · have cb : (([114, 101, 97, 100] : List UInt8) == a0.toList) = false := beq_eq_false_iff_ne.mpr (fun x => c (by rw [← x, ByteArray.toList_eq]))
        rw [if_neg (fun x => c x.2.2)] at H'
        clear c
        have H := Aside0.mk H'
        clear H'
        go_wp2_with fail
        refine (is_calls _ _).mono ?_
        rintro _ w1 ⟨rfl, n, rfl⟩
        go_wp2
        go_roundw
        case rel => exact ⟨5, by omega, rfl, H, ⟨HD.out.step _⟩⟩
        case measure => simp [intOf]
    · have hx := idx_names.2.2.2.2.2.1
      have H := HK.out
      clear HK
      have H' : (if 1 ≤ 5 ∧ 5 ≤ 10 ∧ (⟨#[119, 114, 105, 116, 101]⟩ : ByteArray).toList = a0.toList then (((5 : Nat) : Int), true) else kindFrom (10 - 5) (5 + 1) a0) = (r1, r2) := H
      clear H
      by_cases c : (⟨#[119, 114, 105, 116, 101]⟩ : ByteArray).toList = a0.toList
      · have cb : (([119, 114, 105, 116, 101] : List UInt8) == a0.toList) = true := beq_iff_eq.mpr (by rw [← c, ByteArray.toList_eq])
        rw [if_pos ⟨by omega, by omega, c⟩] at H'
        obtain ⟨rfl, rfl⟩ := Prod.mk.inj H'
        clear c H'
        go_wp2_with fail
        refine (is_calls _ _).mono ?_
        rintro _ w1 ⟨rfl, n, rfl⟩
        go_wp2
        go_ret2
        exact ⟨rfl, HD.out.step _⟩
      · have cb : (([119, 114, 105, 116, 101] : List UInt8) == a0.toList) = false := beq_eq_false_iff_ne.mpr (fun x => c (by rw [← x, ByteArray.toList_eq]))
        rw [if_neg (fun x => c x.2.2)] at H'
        clear c
        have H := Aside0.mk H'
        clear H'
        go_wp2_with fail
        refine (is_calls _ _).mono ?_
        rintro _ w1 ⟨rfl, n, rfl⟩
        go_wp2
        go_roundw
        case rel => exact ⟨6, by omega, rfl, H, ⟨HD.out.step _⟩⟩
        case measure => simp [intOf]
    · have hx := idx_names.2.2.2.2.2.2.1
      have H := HK.out
      clear HK
      have H' : (if 1 ≤ 6 ∧ 6 ≤ 10 ∧ (⟨#[99, 111, 112, 121]⟩ : ByteArray).toList = a0.toList then (((6 : Nat) : Int), true) else kindFrom (10 - 6) (6 + 1) a0) = (r1, r2) := H
      clear H
      by_cases c : (⟨#[99, 111, 112, 121]⟩ : ByteArray).toList = a0.toList
      · have cb : (([99, 111, 112, 121] : List UInt8) == a0.toList) = true := beq_iff_eq.mpr (by rw [← c, ByteArray.toList_eq])
        rw [if_pos ⟨by omega, by omega, c⟩] at H'
        obtain ⟨rfl, rfl⟩ := Prod.mk.inj H'
        clear c H'
        go_wp2_with fail
        refine (is_calls _ _).mono ?_
        rintro _ w1 ⟨rfl, n, rfl⟩
        go_wp2
        go_ret2
        exact ⟨rfl, HD.out.step _⟩
      · have cb : (([99, 111, 112, 121] : List UInt8) == a0.toList) = false := beq_eq_false_iff_ne.mpr (fun x => c (by rw [← x, ByteArray.toList_eq]))
        rw [if_neg (fun x => c x.2.2)] at H'
        clear c
        have H := Aside0.mk H'
        clear H'
        go_wp2_with fail
        refine (is_calls _ _).mono ?_
        rintro _ w1 ⟨rfl, n, rfl⟩
        go_wp2
        go_roundw
        case rel => exact ⟨7, by omega, rfl, H, ⟨HD.out.step _⟩⟩
        case measure => simp [intOf]
    · have hx := idx_names.2.2.2.2.2.2.2.1
      have H := HK.out
      clear HK
      have H' : (if 1 ≤ 7 ∧ 7 ≤ 10 ∧ (⟨#[100, 114, 111, 112]⟩ : ByteArray).toList = a0.toList then (((7 : Nat) : Int), true) else kindFrom (10 - 7) (7 + 1) a0) = (r1, r2) := H
      clear H
      by_cases c : (⟨#[100, 114, 111, 112]⟩ : ByteArray).toList = a0.toList
      · have cb : (([100, 114, 111, 112] : List UInt8) == a0.toList) = true := beq_iff_eq.mpr (by rw [← c, ByteArray.toList_eq])
        rw [if_pos ⟨by omega, by omega, c⟩] at H'
        obtain ⟨rfl, rfl⟩ := Prod.mk.inj H'
        clear c H'
        go_wp2_with fail
        refine (is_calls _ _).mono ?_
        rintro _ w1 ⟨rfl, n, rfl⟩
        go_wp2
        go_ret2
        exact ⟨rfl, HD.out.step _⟩
      · have cb : (([100, 114, 111, 112] : List UInt8) == a0.toList) = false := beq_eq_false_iff_ne.mpr (fun x => c (by rw [← x, ByteArray.toList_eq]))
        rw [if_neg (fun x => c x.2.2)] at H'
        clear c
        have H := Aside0.mk H'
        clear H'
        go_wp2_with fail
        refine (is_calls _ _).mono ?_
        rintro _ w1 ⟨rfl, n, rfl⟩
        go_wp2
        go_roundw
        case rel => exact ⟨8, by omega, rfl, H, ⟨HD.out.step _⟩⟩
        case measure => simp [intOf]
    · have hx := idx_names.2.2.2.2.2.2.2.2.1
      have H := HK.out
      clear HK
      have H' : (if 1 ≤ 8 ∧ 8 ≤ 10 ∧ (⟨#[115, 97, 109, 101]⟩ : ByteArray).toList = a0.toList then (((8 : Nat) : Int), true) else kindFrom (10 - 8) (8 + 1) a0) = (r1, r2) := H
      clear H
      by_cases c : (⟨#[115, 97, 109, 101]⟩ : ByteArray).toList = a0.toList
      · have cb : (([115, 97, 109, 101] : List UInt8) == a0.toList) = true := beq_iff_eq.mpr (by rw [← c, ByteArray.toList_eq])
        rw [if_pos ⟨by omega, by omega, c⟩] at H'
        obtain ⟨rfl, rfl⟩ := Prod.mk.inj H'
        clear c H'
        go_wp2_with fail
        refine (is_calls _ _).mono ?_
        rintro _ w1 ⟨rfl, n, rfl⟩
        go_wp2
        go_ret2
        exact ⟨rfl, HD.out.step _⟩
      · have cb : (([115, 97, 109, 101] : List UInt8) == a0.toList) = false := beq_eq_false_iff_ne.mpr (fun x => c (by rw [← x, ByteArray.toList_eq]))
        rw [if_neg (fun x => c x.2.2)] at H'
        clear c
        have H := Aside0.mk H'
        clear H'
        go_wp2_with fail
        refine (is_calls _ _).mono ?_
        rintro _ w1 ⟨rfl, n, rfl⟩
        go_wp2
        go_roundw
        case rel => exact ⟨9, by omega, rfl, H, ⟨HD.out.step _⟩⟩
        case measure => simp [intOf]
    · have hx := idx_names.2.2.2.2.2.2.2.2.2.1
      have H := HK.out
      clear HK
      have H' : (if 1 ≤ 9 ∧ 9 ≤ 10 ∧ (⟨#[108, 101, 110]⟩ : ByteArray).toList = a0.toList then (((9 : Nat) : Int), true) else kindFrom (10 - 9) (9 + 1) a0) = (r1, r2) := H
      clear H
      by_cases c : (⟨#[108, 101, 110]⟩ : ByteArray).toList = a0.toList
      · have cb : (([108, 101, 110] : List UInt8) == a0.toList) = true := beq_iff_eq.mpr (by rw [← c, ByteArray.toList_eq])
        rw [if_pos ⟨by omega, by omega, c⟩] at H'
        obtain ⟨rfl, rfl⟩ := Prod.mk.inj H'
        clear c H'
        go_wp2_with fail
        refine (is_calls _ _).mono ?_
        rintro _ w1 ⟨rfl, n, rfl⟩
        go_wp2
        go_ret2
        exact ⟨rfl, HD.out.step _⟩
      · have cb : (([108, 101, 110] : List UInt8) == a0.toList) = false := beq_eq_false_iff_ne.mpr (fun x => c (by rw [← x, ByteArray.toList_eq]))
        rw [if_neg (fun x => c x.2.2)] at H'
        clear c
        have H := Aside0.mk H'
        clear H'
        go_wp2_with fail
        refine (is_calls _ _).mono ?_
        rintro _ w1 ⟨rfl, n, rfl⟩
        go_wp2
        go_roundw
        case rel => exact ⟨10, by omega, rfl, H, ⟨HD.out.step _⟩⟩
        case measure => simp [intOf]
    · have hx := idx_names.2.2.2.2.2.2.2.2.2.2
      have H := HK.out
      clear HK
      have H' : (if 1 ≤ 10 ∧ 10 ≤ 10 ∧ (⟨#[116, 105, 99, 107]⟩ : ByteArray).toList = a0.toList then (((10 : Nat) : Int), true) else kindFrom (10 - 10) (10 + 1) a0) = (r1, r2) := H
      clear H
      by_cases c : (⟨#[116, 105, 99, 107]⟩ : ByteArray).toList = a0.toList
      · have cb : (([116, 105, 99, 107] : List UInt8) == a0.toList) = true := beq_iff_eq.mpr (by rw [← c, ByteArray.toList_eq])
        rw [if_pos ⟨by omega, by omega, c⟩] at H'
        obtain ⟨rfl, rfl⟩ := Prod.mk.inj H'
        clear c H'
        go_wp2_with fail
        refine (is_calls _ _).mono ?_
        rintro _ w1 ⟨rfl, n, rfl⟩
        go_wp2
        go_ret2
        exact ⟨rfl, HD.out.step _⟩
      · have cb : (([116, 105, 99, 107] : List UInt8) == a0.toList) = false := beq_eq_false_iff_ne.mpr (fun x => c (by rw [← x, ByteArray.toList_eq]))
        rw [if_neg (fun x => c x.2.2)] at H'
        clear c
        have H := Aside0.mk H'
        clear H'
        go_wp2_with fail
        refine (is_calls _ _).mono ?_
        rintro _ w1 ⟨rfl, n, rfl⟩
        go_wp2
        go_roundw
        case rel => exact ⟨11, by omega, rfl, H, ⟨HD.out.step _⟩⟩
        case measure => simp [intOf]
    · have H := HK.out
      clear HK
      obtain ⟨rfl, rfl⟩ := Prod.mk.inj (show ((0 : Int), false) = (r1, r2) from H)
      clear H
      go_wp2
      go_ret2
      exact ⟨rfl, HD.out⟩

end Go.Proofs.YtampnfmhmonebaaDoor
