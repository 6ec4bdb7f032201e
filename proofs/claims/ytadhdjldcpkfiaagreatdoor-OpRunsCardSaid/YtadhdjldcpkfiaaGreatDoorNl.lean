/- The table of the kinds' names as a row lists it: its third place. -/
import Derived.Test.YtadhdjldcpkfiaaGreatDoorB22
import Derived.Test.YtadhdjldcpkfiaaGreatDoorRows
import Derived.Lib.LaidTab
import Derived.LaidMore
import Derived.MakeChecks
namespace Go.Proofs.YtadhdjldcpkfiaaGreatDoor
set_option linter.unusedVariables false
set_option linter.unusedSimpArgs false
set_option maxRecDepth 100000
theorem gNames : Tryz.prog.globalNamed "quitrent/op.names" = some 0 := by kernel_rfl
theorem tNames : (Tryz.prog.globals[0]?).map (·.type) = some 196 := by kernel_rfl
theorem cNames : Tryz.prog.cellsOf 196 = 11 := by kernel_rfl
theorem cStr : Tryz.prog.cellsOf 9 = 1 := by kernel_rfl
theorem ba_ext {a b : ByteArray} (h : a.data.toList = b.data.toList) : a = b := by
  cases a; cases b
  simp only [Array.toList_inj] at h
  rw [h]
theorem cell_of_strings {H : Type} {enc : TypeId × Value → H} {P : Program} {w : World} {base : Nat} {sp : Nat → Bool} {held : Bool} {fuel : Nat} {t e : TypeId} {n : Nat} {cs : List Value} {ss : List (List UInt8)} {p : List MemPlace}
    (ht : P.underlying t = some (.array n e)) (he : P.underlying e = some .string) (hce : P.cellsOf e = 1) (hct : P.cellsOf t = n)
    (h : DataW.trod enc P w base sp held fuel t cs = some (.agg (ss.map fun s => .lit (.string s)), p)) (i : Nat) (s : ByteArray) (hs : ss[i]? = some s.data.toList) : cs[i]? = some (.string s) := by
  cases fuel with
  | zero => simp [DataW.trod] at h
  | succ fuel =>
    simp only [DataW.trod, ht, hce, hct, Nat.mul_one] at h
    split at h
    · rename_i hl
      obtain ⟨xs, hm, hx⟩ := Option.map_eq_some_iff.1 h
      have hxs : xs.map (·.1) = ss.map fun s => (DataW.lit (.string s) : DataW H) := by
        have := congrArg Prod.fst hx
        simpa using this
      have hxl : xs.length = n := by simpa using Lib.mapM_length hm
      have hzl : ss.length = n := by
        have := congrArg List.length hxs
        simp at this
        omega
      have hi : i < n := by
        have := (List.getElem?_eq_some_iff.1 hs).1
        omega
      obtain ⟨b, hb, hf⟩ := Lib.mapM_at hm i i (by simp [hi])
      obtain ⟨s', hc, rfl, _⟩ := DataW.trod_string he hf
      have h1 : cs[i]? = some (.string s') := by
        have := congrArg (·[0]?) hc
        simpa [List.getElem?_take, List.getElem?_drop] using this
      have h2 : (xs.map (·.1))[i]? = some (DataW.lit (.string s'.data.toList) : DataW H) := by simp [hb]
      rw [hxs] at h2
      simp only [List.getElem?_map, Option.map_eq_some_iff, DataW.lit.injEq, Lit.string.injEq] at h2
      obtain ⟨s2, hs2, e'⟩ := h2
      rw [hs2] at hs
      obtain rfl := Option.some.inj hs
      rw [h1, ba_ext e'.symm]
    · cases h
theorem name3_of_laid {W : World} {r : List (String × DataW Unit)} (h : laidMet Tryz.prog (("quitrent/op.names", Rows.laid_quitrent_op_names) :: r) W) : Name3 W := by
  obtain ⟨ps, ⟨g', t', cs, fuel, p, q, hg', ht', hvar, hd, _, _⟩, _⟩ := h
  obtain rfl := Option.some.inj (gNames.symm.trans hg')
  obtain rfl := Option.some.inj (tNames.symm.trans ht')
  have h3 := cell_of_strings (ss := [[], [97, 108, 108, 111, 99], [108, 111, 97, 100], [115, 116, 111, 114, 101], [114, 101, 97, 100], [119, 114, 105, 116, 101], [99, 111, 112, 121], [100, 114, 111, 112], [115, 97, 109, 101], [108, 101, 110], [116, 105, 99, 107]]) Tryz.underlying196 Tryz.underlying9 cStr cNames hd 3 stS rfl
  have := World.var?_cell gNames hvar 3
  unfold Name3
  rw [this, ← Array.getElem?_toList, h3]
end Go.Proofs.YtadhdjldcpkfiaaGreatDoor
