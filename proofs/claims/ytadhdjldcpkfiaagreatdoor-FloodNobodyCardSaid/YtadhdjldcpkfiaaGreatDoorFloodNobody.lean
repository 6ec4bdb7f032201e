/-
  FloodNobody: for every phase and every size: of a nil ground, and in another phase, nothing is flooded. Condition: the table tag.none holds what the program's own text lays (the card ties it).
-/
import Derived.Test.YtadhdjldcpkfiaaGreatDoorRows
import Derived.Test.YtadhdjldcpkfiaaGreatDoorCards
import Derived.Test.YtadhdjldcpkfiaaGreatDoorTie
import Derived.Test.YtadhdjldcpkfiaaGreatDoorK7
import Derived.Test.YtadhdjldcpkfiaaGreatDoorFacts
import Derived.WalkKit
import Derived.ProofKit
import Derived.OpenShut
import Derived.ChangeOld
import Derived.Lib.SmallJoins
import Derived.Carry
import Derived.Below
import Derived.SizedLaws
import Derived.LaidMore
import Derived.Lib.LaidTab
import Derived.Stop.Joined
import Derived.SevenTiedAt
namespace Go.Proofs.YtadhdjldcpkfiaaGreatDoor.rowFloodNobody
open Go.Joins Go.ChangeShapes Go.WideShapes Go.ChangeAt Go.RowKit
set_option linter.unusedVariables false
theorem own : ownKnob Tryz.prog.godebug = none := by kernel_rfl
def laidL : List (String × DataW Unit) := [("quitrent/tag.none", Rows.laid_quitrent_tag_none)]
theorem door_met (os : Os) (args : Array Value) : laidMetH Tryz.prog laidL ((World.doorLaid Tryz.prog 400 os).forCall (fun _ _ => 0) ⟨#[], args, []⟩).memory :=
  laidMetH_of_parts3 (fuel := 8) (laidMet_of_run' 8 (by kernel_rfl) (by kernel_rfl)) (by kernel_rfl) (by kernel_rfl)
theorem gN : Tryz.prog.globalNamed "quitrent/tag.none" = some 1 := by kernel_rfl
theorem tN : (Tryz.prog.globals[1]?).map (·.type) = some 209 := by kernel_rfl
theorem cE : Tryz.prog.cellsOf 3 = 1 := by kernel_rfl
theorem cT : Tryz.prog.cellsOf 209 = 5 := by kernel_rfl
theorem noneZ {W : World} (h : laidMetH Tryz.prog laidL W) : NoneZ W := by
  unfold laidL at h
  rw [MakeChecks.laidMetH_plain _ _ _ (by kernel_rfl)] at h
  have hT := Lib.tabIs_of_head (k := .i64) (zs := [0, 0, 0, 0, 0]) gN tN Tryz.underlying209 Tryz.underlying3 cE cT h
  intro i hi
  have := hT.cell gN i (by simpa using hi)
  rw [this]
  match i, hi with
  | 0, _ => rfl
  | 1, _ => rfl
  | 2, _ => rfl
  | 3, _ => rfl
  | 4, _ => rfl
set_option maxRecDepth 100000 in
theorem lifted (os : Os) (started : os.Started) (H : Type) (enc : TypeId × Value → H) :
    ReturnsInHanded {} Tryz.checked os 6 .any (fun w args => (Rows.floodNobodySpec.pre enc Tryz.prog Tryz.f6 [] false w args ∧ laidMetH Tryz.prog laidL w) ∧ sizedMet enc Tryz.prog Tryz.f6 (OpenSpec.ofChange Rows.floodNobodySpec) false w args)
      (Rows.floodNobodySpec.post enc Tryz.prog Tryz.f6 false true false false) := by
  refine returnsInHanded_of_change_and (C := Tryz.checked) (X := fun w _ => laidMetH Tryz.prog laidL w) (fun _ _ _ hh h => h.of_heap hh) own started (by kernel_rfl) Tryz.func6
    (ChangeSpec.witness_shaped (enc := enc) (C := Tryz.checked) (os := os) (X := fun w _ => laidMetH Tryz.prog laidL w) false (World.doorLaid Tryz.prog 400 os) #[.int .i64 0, .int .u8 0] 8 rfl (World.shaped_of_RefB (by kernel_rfl) (by kernel_rfl)) (by kernel_rfl) (by kernel_rfl) (by kernel_rfl) (door_met os _)) ?_
  intro W base args ds gs before hval0 hW hcnd hsz0 hL _
  have hval : ∀ (j : Nat) t v, Tryz.f6.params[j]? = some t → args[j]? = some v → Value.okWide Tryz.prog W .any base t v := hval0
  have hW' := hW
  obtain ⟨p, q, hA0, hV, rfl, hfz, hnd⟩ := hW
  have hA : DataW.TrodAll enc Tryz.prog W 0 (fun _ => true) true Tryz.f6.params.toList args.toList ds p := hA0
  rw [Tryz.params6] at hA hval
  obtain ⟨v0, vs0, d0, ds0, p0, q0, hargs, rfl, rfl, h0, r0⟩ := trodAll_cons hA
  obtain ⟨v1, vs1, d1, ds1, p1, q1, rfl, rfl, rfl, h1, r1⟩ := trodAll_cons r0
  obtain ⟨rfl, rfl, rfl⟩ := trodAll_nil r1
  obtain rfl : args = #[v0, v1] := by cases args; simp_all
  obtain ⟨rfl, rfl⟩ := trodVars_none hV
  obtain ⟨a0, rfl, rfl, rfl, w0⟩ := open_int Tryz.underlying3 (hval 0 3 v0 rfl rfl) h0
  obtain ⟨a1, rfl, rfl, rfl, w1⟩ := open_int Tryz.underlying5 (hval 1 5 v1 rfl rfl) h1
  clear hA0 hval0 hsz0
  refine (lawFlood_c a0 a1 w1 W (noneZ hL)).mono fun e W' ⟨he, hs⟩ => ?_
  subst he
  exact ⟨_, rfl, _, _, _, [], _, [], hW', trodAll_mk1 (shut_bool Tryz.underlying4 _), (trodAll_cons_mk (shut_int Tryz.underlying3 w0) (trodAll_cons_mk (shut_int Tryz.underlying5 w1) (trodAll_mk0))), rfl, hs.below.frame _, fun h => by cases h⟩
theorem k1 : (Rows.floodNobodyRow.inPlace == Tryz.prog.inPlace 6) = true := by kernel_rfl
theorem k2 : (Rows.floodNobodyRow.unfollowed == Tryz.prog.unfollowed 6) = true := by kernel_rfl
theorem k3 : (Rows.floodNobodyRow.recurses == Tryz.prog.recurses 6) = true := by kernel_rfl
theorem k4 : (Rows.floodNobodyRow.named == Tryz.prog.varsNamed 6) = true := by kernel_rfl
theorem closed : joinedFacts Tryz.prog 6 Tryz.f6 Rows.floodNobodySpec Rows.floodNobodyRow = true := by
  unfold joinedFacts
  repeat' (with_reducible refine and2 ?_ ?_)
  all_goals first
    | with_reducible exact k1
    | with_reducible exact k2
    | with_reducible exact k3
    | with_reducible exact k4
    | with_reducible exact fLaid
    | with_reducible exact fMaps
    | with_reducible exact fHeard
    | with_reducible exact fEnter
    | kernel_rfl
theorem over : Rows.floodNobodyRow.holds Tryz.pinned (OpenSpec.ofChange Rows.floodNobodySpec) :=
  OpenClaim.holds_of_wide 6 Tryz.f6 rfl rfl rfl rfl rfl rfl rfl ⟨rfl, rfl, rfl, rfl, rfl⟩ rfl rfl rfl rfl rfl (by kernel_rfl) Tryz.func6 closed
    (of_decide_eq_true (by kernel_rfl)) (by unfold Func.isWrapper; first | (rw [if_pos (by decide +kernel)]; kernel_rfl) | (rw [if_neg (by decide +kernel)]; exact ⟨rfl, rfl⟩))
    (fun os started H enc _ => lifted os started H enc)
theorem m1 : Rows.floodNobodyRow.wfByText (OpenSpec.ofChange Rows.floodNobodySpec) = true := by kernel_rfl
theorem m2 : false = Rows.floodNobodyRow.goesBy Tryz.pinned.checked.prog := by kernel_rfl
theorem card_holds : Rows.FloodNobodyCardSaid :=
  Claim7.holds_tied_plain_at .later [] [.data] true (true, "4c2275c1c010577abc47fda388c66eaec63e8ed0fb824dddb20223330ec9ae2e") false
    over (fun _ h => by cases h) m1 (fun _ h => by cases h) floodNobody_row_tie rfl ⟨rfl, rfl⟩ fMain rfl
    (fun f fn hf hfn => by
      obtain rfl : f = 6 := Option.some.inj ((show Tryz.prog.funcNamed "quitrent/quitrentlaw17.FloodNobody" = some 6 by kernel_rfl).symm.trans hf) |>.symm
      obtain rfl : fn = Tryz.f6 := (Option.some.inj (Tryz.func6.symm.trans hfn)).symm
      exact ⟨fLooks, fun j t ht => by
        rw [Tryz.params6] at ht
        have hm : t ∈ [3, 5] := by simpa using Array.mem_of_getElem? ht
        have hall : ([3, 5].all fun u => !Tryz.prog.wantsStandIn u) = true := by kernel_rfl
        exact (show Tryz.prog.wantsStandIn t = false by simpa using List.all_eq_true.1 hall t hm)⟩)
    m2
#print axioms card_holds
end Go.Proofs.YtadhdjldcpkfiaaGreatDoor.rowFloodNobody
namespace Go.Proofs.YtadhdjldcpkfiaaGreatDoor
theorem floodNobody_holds : Rows.FloodNobodyCardSaid := rowFloodNobody.card_holds
end Go.Proofs.YtadhdjldcpkfiaaGreatDoor
