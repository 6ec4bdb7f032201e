/- All numbers of blocks that Grown makes. -/
import Derived.Test.YtadhdjldcpkfiaaGreatDoorEv1
import Derived.Test.YtadhdjldcpkfiaaGreatDoorEv2
import Derived.Test.YtadhdjldcpkfiaaGreatDoorEv3
import Derived.Test.YtadhdjldcpkfiaaGreatDoorEv4
namespace Go.Proofs.YtadhdjldcpkfiaaGreatDoor
set_option linter.unusedVariables false
set_option linter.unusedSimpArgs false
open Go.RowKit
set_option maxRecDepth 100000

theorem ev_nat : ∀ i : Nat, i < 60 → ex12 ((i : Int) + 4) = true
  | 0, _ => ev_4
  | 1, _ => ev_5
  | 2, _ => ev_6
  | 3, _ => ev_7
  | 4, _ => ev_8
  | 5, _ => ev_9
  | 6, _ => ev_10
  | 7, _ => ev_11
  | 8, _ => ev_12
  | 9, _ => ev_13
  | 10, _ => ev_14
  | 11, _ => ev_15
  | 12, _ => ev_16
  | 13, _ => ev_17
  | 14, _ => ev_18
  | 15, _ => ev_19
  | 16, _ => ev_20
  | 17, _ => ev_21
  | 18, _ => ev_22
  | 19, _ => ev_23
  | 20, _ => ev_24
  | 21, _ => ev_25
  | 22, _ => ev_26
  | 23, _ => ev_27
  | 24, _ => ev_28
  | 25, _ => ev_29
  | 26, _ => ev_30
  | 27, _ => ev_31
  | 28, _ => ev_32
  | 29, _ => ev_33
  | 30, _ => ev_34
  | 31, _ => ev_35
  | 32, _ => ev_36
  | 33, _ => ev_37
  | 34, _ => ev_38
  | 35, _ => ev_39
  | 36, _ => ev_40
  | 37, _ => ev_41
  | 38, _ => ev_42
  | 39, _ => ev_43
  | 40, _ => ev_44
  | 41, _ => ev_45
  | 42, _ => ev_46
  | 43, _ => ev_47
  | 44, _ => ev_48
  | 45, _ => ev_49
  | 46, _ => ev_50
  | 47, _ => ev_51
  | 48, _ => ev_52
  | 49, _ => ev_53
  | 50, _ => ev_54
  | 51, _ => ev_55
  | 52, _ => ev_56
  | 53, _ => ev_57
  | 54, _ => ev_58
  | 55, _ => ev_59
  | 56, _ => ev_60
  | 57, _ => ev_61
  | 58, _ => ev_62
  | 59, _ => ev_63
  | n + 60, h => absurd h (by omega)
theorem ev_all (m : Fin 60) : ex12 ((m.val : Int) + 4) = true := ev_nat m.val m.isLt
theorem ev_one (m : Fin 60) (q : Fin 4) : ex3 (q.val : Int) ((m.val : Int) + 4) = true := by
  have h := ev_all m
  unfold ex12 at h
  simp only [Bool.and_eq_true] at h
  obtain ⟨h0, h1, h2, h3⟩ := h
  match q with
  | ⟨0, _⟩ => exact h0
  | ⟨1, _⟩ => exact h1
  | ⟨2, _⟩ => exact h2
  | ⟨3, _⟩ => exact h3
theorem exT_holds (m : Fin 60) (q : Fin 4) : (exT (q.val : Int) (gsNew ((m.val : Int) + 4) 16 1 1)).1 = true := by
  have h := ev_one m q
  unfold ex3 at h
  simp only [Bool.and_eq_true] at h
  exact h.1
theorem exFloodP_holds (m : Fin 60) (q : Fin 4) : (exFloodP (q.val : Int) (gsNew ((m.val : Int) + 4) 16 1 1)).1 = true := by
  have h := ev_one m q
  unfold ex3 at h
  simp only [Bool.and_eq_true] at h
  exact h.2.1
theorem exReapP_holds (m : Fin 60) (q : Fin 4) : (exReapP (q.val : Int) (gsNew ((m.val : Int) + 4) 16 1 1)).1 = true := by
  have h := ev_one m q
  unfold ex3 at h
  simp only [Bool.and_eq_true] at h
  exact h.2.2
end Go.Proofs.YtadhdjldcpkfiaaGreatDoor
