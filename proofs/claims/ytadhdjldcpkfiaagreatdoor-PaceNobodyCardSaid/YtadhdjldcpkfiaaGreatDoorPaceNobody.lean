/-
  PaceNobody: for every n: of a nil ground nothing is paid; and the chapter's example holds. Condition: the table tag.none holds what the program's own text lays (the card ties it).
-/
import Derived.Test.YtadhdjldcpkfiaaGreatDoorRows
import Derived.Test.YtadhdjldcpkfiaaGreatDoorCards
import Derived.Test.YtadhdjldcpkfiaaGreatDoorTie
import Derived.Test.YtadhdjldcpkfiaaGreatDoorK9
import Derived.Test.YtadhdjldcpkfiaaGreatDoorFacts
import Derived.WalkKit
import Derived.ProofKit
import Derived.OpenShut
import Derived.ChangeOld
import Derived.Lib.SmallJoins
import Derived.Carry
import Derived.Below
import Derived.SizedLaws
import Derived.LaidMore
import Derived.Lib.LaidTab
import Derived.Stop.Joined
import Derived.SevenTiedAt
namespace Go.Proofs.YtadhdjldcpkfiaaGreatDoor.rowPaceNobody
open Go.Joins Go.ChangeShapes Go.WideShapes Go.ChangeAt Go.RowKit
set_option linter.unusedVariables false
theorem own : ownKnob Tryz.prog.godebug = none := by kernel_rfl
def laidL : List (String × DataW Unit) := [("quitrent/tag.none", Rows.laid_quitrent_tag_none)]
theorem door_met (os : Os) (args : Array Value) : laidMetH Tryz.prog laidL ((World.doorLaid Tryz.prog 400 os).forCall (fun _ _ => 0) ⟨#[], args, []⟩).memory :=
  laidMetH_of_parts3 (fuel := 8) (laidMet_of_run' 8 (by kernel_rfl) (by kernel_rfl)) (by kernel_rfl) (by kernel_rfl)
theorem gN : Tryz.prog.globalNamed "quitrent/tag.none" = some 1 := by kernel_rfl
theorem tN : (Tryz.prog.globals[1]?).map (·.type) = some 209 := by kernel_rfl
theorem cE : Tryz.prog.cellsOf 3 = 1 := by kernel_rfl
theorem cT : Tryz.prog.cellsOf 209 = 5 := by kernel_rfl
theorem noneZ {W : World} (h : laidMetH Tryz.prog laidL W) : NoneZ W := by
  unfold laidL at h
  rw [MakeChecks.laidMetH_plain _ _ _ (by kernel_rfl)] at h
  have hT := Lib.tabIs_of_head (k := .i64) (zs := [0, 0, 0, 0, 0]) gN tN Tryz.underlying209 Tryz.underlying3 cE cT h
  intro i hi
  have := hT.cell gN i (by simpa using hi)
  rw [this]
  match i, hi with
  | 0, _ => rfl
  | 1, _ => rfl
  | 2, _ => rfl
  | 3, _ => rfl
  | 4, _ => rfl
set_option maxRecDepth 100000 in
theorem lifted (os : Os) (started : os.Started) (H : Type) (enc : TypeId × Value → H) :
    ReturnsInHanded {} Tryz.checked os 10 .any (fun w args => (Rows.paceNobodySpec.pre enc Tryz.prog Tryz.f10 [] false w args ∧ laidMetH Tryz.prog laidL w) ∧ sizedMet enc Tryz.prog Tryz.f10 (OpenSpec.ofChange Rows.paceNobodySpec) false w args)
      (Rows.paceNobodySpec.post enc Tryz.prog Tryz.f10 false true false false) := by
  refine returnsInHanded_of_change_and (C := Tryz.checked) (X := fun w _ => laidMetH Tryz.prog laidL w) (fun _ _ _ hh h => h.of_heap hh) own started (by kernel_rfl) Tryz.func10
    (ChangeSpec.witness_shaped (enc := enc) (C := Tryz.checked) (os := os) (X := fun w _ => laidMetH Tryz.prog laidL w) false (World.doorLaid Tryz.prog 400 os) #[.int .i64 0] 8 rfl (World.shaped_of_RefB (by kernel_rfl) (by kernel_rfl)) (by kernel_rfl) (by kernel_rfl) (by kernel_rfl) (door_met os _)) ?_
  intro W base args ds gs before hval0 hW hcnd hsz0 hL _
  have hval : ∀ (j : Nat) t v, Tryz.f10.params[j]? = some t → args[j]? = some v → Value.okWide Tryz.prog W .any base t v := hval0
  have hW' := hW
  obtain ⟨p, q, hA0, hV, rfl, hfz, hnd⟩ := hW
  have hA : DataW.TrodAll enc Tryz.prog W 0 (fun _ => true) true Tryz.f10.params.toList args.toList ds p := hA0
  rw [Tryz.params10] at hA hval
  obtain ⟨v0, vs0, d0, ds0, p0, q0, hargs, rfl, rfl, h0, r0⟩ := trodAll_cons hA
  obtain ⟨rfl, rfl, rfl⟩ := trodAll_nil r0
  obtain rfl : args = #[v0] := by cases args; simp_all
  obtain ⟨rfl, rfl⟩ := trodVars_none hV
  obtain ⟨a0, rfl, rfl, rfl, w0⟩ := open_int Tryz.underlying3 (hval 0 3 v0 rfl rfl) h0
  clear hA0 hval0 hsz0
  refine (lawPace_c a0  W (noneZ hL)).mono fun e W' ⟨he, hs⟩ => ?_
  subst he
  exact ⟨_, rfl, _, _, _, [], _, [], hW', trodAll_mk1 (shut_bool Tryz.underlying4 _), (trodAll_cons_mk (shut_int Tryz.underlying3 w0) (trodAll_mk0)), rfl, hs.below.frame _, fun h => by cases h⟩
theorem k1 : (Rows.paceNobodyRow.inPlace == Tryz.prog.inPlace 10) = true := by kernel_rfl
theorem k2 : (Rows.paceNobodyRow.unfollowed == Tryz.prog.unfollowed 10) = true := by kernel_rfl
theorem k3 : (Rows.paceNobodyRow.recurses == Tryz.prog.recurses 10) = true := by kernel_rfl
theorem k4 : (Rows.paceNobodyRow.named == Tryz.prog.varsNamed 10) = true := by kernel_rfl
theorem closed : joinedFacts Tryz.prog 10 Tryz.f10 Rows.paceNobodySpec Rows.paceNobodyRow = true := by
  unfold joinedFacts
  repeat' (with_reducible refine and2 ?_ ?_)
  all_goals first
    | with_reducible exact k1
    | with_reducible exact k2
    | with_reducible exact k3
    | with_reducible exact k4
    | with_reducible exact fLaid
    | with_reducible exact fMaps
    | with_reducible exact fHeard
    | with_reducible exact fEnter
    | kernel_rfl
theorem over : Rows.paceNobodyRow.holds Tryz.pinned (OpenSpec.ofChange Rows.paceNobodySpec) :=
  OpenClaim.holds_of_wide 10 Tryz.f10 rfl rfl rfl rfl rfl rfl rfl ⟨rfl, rfl, rfl, rfl, rfl⟩ rfl rfl rfl rfl rfl (by kernel_rfl) Tryz.func10 closed
    (of_decide_eq_true (by kernel_rfl)) (by unfold Func.isWrapper; first | (rw [if_pos (by decide +kernel)]; kernel_rfl) | (rw [if_neg (by decide +kernel)]; exact ⟨rfl, rfl⟩))
    (fun os started H enc _ => lifted os started H enc)
theorem m1 : Rows.paceNobodyRow.wfByText (OpenSpec.ofChange Rows.paceNobodySpec) = true := by kernel_rfl
theorem m2 : false = Rows.paceNobodyRow.goesBy Tryz.pinned.checked.prog := by kernel_rfl
theorem card_holds : Rows.PaceNobodyCardSaid :=
  Claim7.holds_tied_plain_at .later [] [.data] true (true, "4c2275c1c010577abc47fda388c66eaec63e8ed0fb824dddb20223330ec9ae2e") false
    over (fun _ h => by cases h) m1 (fun _ h => by cases h) paceNobody_row_tie rfl ⟨rfl, rfl⟩ fMain rfl
    (fun f fn hf hfn => by
      obtain rfl : f = 10 := Option.some.inj ((show Tryz.prog.funcNamed "quitrent/quitrentlaw20.PaceNobody" = some 10 by kernel_rfl).symm.trans hf) |>.symm
      obtain rfl : fn = Tryz.f10 := (Option.some.inj (Tryz.func10.symm.trans hfn)).symm
      exact ⟨fLooks, fun j t ht => by
        rw [Tryz.params10] at ht
        have hm : t ∈ [3] := by simpa using Array.mem_of_getElem? ht
        have hall : ([3].all fun u => !Tryz.prog.wantsStandIn u) = true := by kernel_rfl
        exact (show Tryz.prog.wantsStandIn t = false by simpa using List.all_eq_true.1 hall t hm)⟩)
    m2
#print axioms card_holds
end Go.Proofs.YtadhdjldcpkfiaaGreatDoor.rowPaceNobody
namespace Go.Proofs.YtadhdjldcpkfiaaGreatDoor
theorem paceNobody_holds : Rows.PaceNobodyCardSaid := rowPaceNobody.card_holds
end Go.Proofs.YtadhdjldcpkfiaaGreatDoor
