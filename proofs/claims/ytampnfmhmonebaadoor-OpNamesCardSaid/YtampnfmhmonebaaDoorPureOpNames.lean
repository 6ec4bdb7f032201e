/-
  OpNames, without the machine: the two tables hold the same names, and a name stands in each but once.
-/
import Derived.Test.YtampnfmhmonebaaDoorQOpNamesx5
namespace Go.Proofs.YtampnfmhmonebaaDoor.Pure
open Go.RowKit Go.Proofs.YtampnfmhmonebaaDoor.QOpNames Go.Proofs.YtampnfmhmonebaaDoorW.PrintWords Go.Proofs.YtampnfmhmonebaaDoorW.PrintLast
set_option maxRecDepth 100000

abbrev nm (i : Nat) : ByteArray := namesB.getD i ⟨#[]⟩

theorem ref_at : ∀ i : Fin 10, quitrentref22_Name.f ((i.val : Int) + 1) = some (nm (i.val + 1)) := by decide +kernel

theorem ref_in (i : Nat) (h1 : 1 ≤ i) (h2 : i ≤ 10) : quitrentref22_Name.f (i : Int) = some (nm i) := by
  have := ref_at ⟨i - 1, by omega⟩
  have e1 : (((⟨i - 1, by omega⟩ : Fin 10).val : Int) + 1) = (i : Int) := by
    show ((i - 1 : Nat) : Int) + 1 = i
    omega
  have e2 : ((⟨i - 1, by omega⟩ : Fin 10).val + 1) = i := by
    show i - 1 + 1 = i
    omega
  rw [e1, e2] at this
  exact this

theorem ref_out (a : Int) (h : ¬ (1 ≤ a ∧ a ≤ 10)) : quitrentref22_Name.f a = some ⟨#[]⟩ := by
  unfold quitrentref22_Name.f
  by_cases c1 : a < 1
  · rw [if_pos c1]
  · rw [if_neg c1, if_pos (by omega)]

theorem names_alike (a : Int) : op_Name.f a = quitrentref22_Name.f a ∧ ∃ s, quitrentref22_Name.f a = some s := by
  by_cases h : 1 ≤ a ∧ a ≤ 10
  · obtain ⟨i, rfl⟩ := Int.eq_ofNat_of_zero_le (show 0 ≤ a by omega)
    rw [ref_in i (by omega) (by omega)]
    refine ⟨?_, _, rfl⟩
    show nameF _ = _
    unfold nameF
    rw [if_pos h, Int.toNat_natCast]
  · rw [ref_out a h]
    refine ⟨?_, _, rfl⟩
    show nameF _ = _
    unfold nameF
    rw [if_neg h]

theorem nm_inj : ∀ i j : Fin 11, (nm i.val).data.toList = (nm j.val).data.toList → i = j := by decide +kernel

theorem nm_apart {i j : Nat} (hi : i ≤ 10) (hj : j ≤ 10) (h : (nm i).toList = (nm j).toList) : i = j := by
  rw [ByteArray.toList_eq, ByteArray.toList_eq] at h
  have := nm_inj ⟨i, by omega⟩ ⟨j, by omega⟩ h
  exact congrArg Fin.val this

theorem kind_at (s : ByteArray) (m : Nat) (h1 : 1 ≤ m) (h2 : m ≤ 10) (h : (nm m).toList = s.toList) : ∀ d i, i + d = m → kindFrom (11 - i) i s = ((m : Int), true)
  | 0, i, e => by
    obtain rfl : i = m := by omega
    obtain ⟨k, hk⟩ : ∃ k, 11 - i = k + 1 := ⟨10 - i, by omega⟩
    rw [hk]
    unfold kindFrom
    rw [if_pos ⟨h1, h2, h⟩]
  | d + 1, i, e => by
    obtain ⟨k, hk⟩ : ∃ k, 11 - i = k + 1 := ⟨10 - i, by omega⟩
    rw [hk]
    unfold kindFrom
    rw [if_neg (fun c => by have := nm_apart (by omega) h2 (c.2.2.trans h.symm); omega)]
    have := kind_at s m h1 h2 h d (i + 1) (by omega)
    rw [show 11 - (i + 1) = k by omega] at this
    exact this

theorem kind_none (s : ByteArray) (h : ∀ m, 1 ≤ m → m ≤ 10 → (nm m).toList ≠ s.toList) : ∀ k i, kindFrom k i s = (0, false)
  | 0, _ => rfl
  | k + 1, i => by
    unfold kindFrom
    rw [if_neg (fun c => h i c.1 c.2.1 c.2.2)]
    exact kind_none s h k (i + 1)

theorem begun_ok : ∀ k : Nat, quitrentlaw22_begun.f (k + 6) = some true := by
  intro k
  have e : op_Name.f 3 = some ⟨#[115, 116, 111, 114, 101]⟩ := rfl
  unfold quitrentlaw22_begun.f
  rw [e, Option.bind_some, if_pos (by rw [ByteArray.toList_eq])]
  simp [op_Slots.f, op_Slots.j0, quitrentref01_Ints.f, quitrentref01_Ints.l0, op_Plain.f, op_is.f, op_Bare.f, op_Bare.j0, op_First.f, op_First.l0, rd, wrap64, rd_T46]

theorem last (k : Nat) (a0 : Int) (a1 : ByteArray) (x5 : Int) (x6 : Bool) : quitrentlaw22_OpNames.l0 (k + 7) a0 a1 x5 x6 x5 x6 11 = some true := by
  obtain ⟨e1, s, e2⟩ := names_alike a0
  show (if (11 : Int) ≤ 10 then _ else _) = _
  rw [if_neg (by decide), begun_ok, e1, e2]
  simp

theorem step {k : Nat} {a0 : Int} {a1 : ByteArray} {x5 : Int} {x6 : Bool} {x7 : Int} {x8 : Bool} {i : Nat} (h1 : 1 ≤ i) (h2 : i ≤ 10) :
    quitrentlaw22_OpNames.l0 (k + 1) a0 a1 x5 x6 x7 x8 i = if (nm i).toList = a1.toList then quitrentlaw22_OpNames.l0 k a0 a1 x5 x6 i true ((i + 1 : Nat) : Int) else quitrentlaw22_OpNames.l0 k a0 a1 x5 x6 x7 x8 ((i + 1 : Nat) : Int) := by
  have hw : wrap64 ((i : Int) + 1) = ((i + 1 : Nat) : Int) := by unfold wrap64; omega
  conv => lhs; unfold quitrentlaw22_OpNames.l0
  rw [if_pos (by omega), ref_in i h1 h2, Option.bind_some, hw]

theorem none_left {a0 : Int} {a1 : ByteArray} {x5 : Int} {x6 : Bool} : ∀ d i, i + d = 11 → 1 ≤ i → (∀ m, i ≤ m → m ≤ 10 → (nm m).toList ≠ a1.toList) → quitrentlaw22_OpNames.l0 (7 + d) a0 a1 x5 x6 x5 x6 i = some true
  | 0, i, e, _, _ => by
    obtain rfl : i = 11 := by omega
    exact last 0 a0 a1 x5 x6
  | d + 1, i, e, h1, h => by
    rw [← Nat.add_assoc, step h1 (by omega), if_neg (h i (Nat.le_refl _) (by omega))]
    exact none_left d (i + 1) (by omega) (by omega) (fun m hm => h m (by omega))

theorem hit {a0 : Int} {a1 : ByteArray} {m : Nat} (hm2 : m ≤ 10) (hm : (nm m).toList = a1.toList) {x7 : Int} {x8 : Bool} : ∀ d i, i + d = m → 1 ≤ i → quitrentlaw22_OpNames.l0 (18 - i) a0 a1 m true x7 x8 i = some true
  | 0, i, e, h1 => by
    obtain rfl : i = m := by omega
    obtain ⟨k, hk⟩ : ∃ k, 18 - i = k + 1 := ⟨17 - i, by omega⟩
    rw [hk, step h1 hm2, if_pos hm]
    have := none_left (a0 := a0) (a1 := a1) (x5 := i) (x6 := true) (11 - (i + 1)) (i + 1) (by omega) (by omega) (fun j h3 h4 h5 => by have := nm_apart h4 hm2 (h5.trans hm.symm); omega)
    rw [show 7 + (11 - (i + 1)) = k by omega] at this
    exact this
  | d + 1, i, e, h1 => by
    obtain ⟨k, hk⟩ : ∃ k, 18 - i = k + 1 := ⟨17 - i, by omega⟩
    rw [hk, step h1 (by omega), if_neg (fun c => by have := nm_apart (by omega) hm2 (c.trans hm.symm); omega)]
    have := hit (a0 := a0) hm2 hm (x7 := x7) (x8 := x8) d (i + 1) (by omega) (by omega)
    rw [show 18 - (i + 1) = k by omega] at this
    exact this

theorem OpNames : quitrentlaw22_OpNames.Pure := by
  intro a0 a1 _ _
  refine ⟨17, ?_⟩
  unfold quitrentlaw22_OpNames.f op_Kind.f kindF
  rw [Option.bind_some]
  by_cases h : ∃ m, 1 ≤ m ∧ m ≤ 10 ∧ (nm m).toList = a1.toList
  · obtain ⟨m, h1, h2, hm⟩ := h
    have := kind_at a1 m h1 h2 hm m 0 (by omega)
    rw [show 11 - 0 = 11 from rfl] at this
    rw [this]
    have := hit (a0 := a0) h2 hm (x7 := 0) (x8 := false) (m - 1) 1 (by omega) (by omega)
    exact this
  · have h' : ∀ m, 1 ≤ m → m ≤ 10 → (nm m).toList ≠ a1.toList := fun m h1 h2 h3 => h ⟨m, h1, h2, h3⟩
    rw [kind_none a1 h']
    have := none_left (a0 := a0) (a1 := a1) (x5 := 0) (x6 := false) 10 1 (by omega) (by omega) (fun m h1 h2 => h' m h1 h2)
    exact this

end Go.Proofs.YtampnfmhmonebaaDoor.Pure
