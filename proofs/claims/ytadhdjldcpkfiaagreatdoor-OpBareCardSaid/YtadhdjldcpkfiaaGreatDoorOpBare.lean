/-
  OpBare: for every configuration and every row of operations: what an operation's kind does not need makes no difference; what is bare is plain. Condition: the tables tag.none and op.names hold what the program's own text lays (the card ties it).
-/
import Derived.Test.YtadhdjldcpkfiaaGreatDoorRows
import Derived.Test.YtadhdjldcpkfiaaGreatDoorCards
import Derived.Test.YtadhdjldcpkfiaaGreatDoorTie
import Derived.Test.YtadhdjldcpkfiaaGreatDoorK15
import Derived.Test.YtadhdjldcpkfiaaGreatDoorFacts
import Derived.WalkKit
import Derived.ProofKit
import Derived.OpenShut
import Derived.ChangeOld
import Derived.Lib.SmallJoins
import Derived.Carry
import Derived.Below
import Derived.SizedLaws
import Derived.LaidMore
import Derived.Lib.LaidTab
import Derived.Stop.Joined
import Derived.SevenTiedAt
import Derived.Deep.Slices
import Derived.Test.YtadhdjldcpkfiaaGreatDoorOp
import Derived.Test.YtadhdjldcpkfiaaGreatDoorNl
import Derived.Stop.LaidErr
namespace Go.Proofs.YtadhdjldcpkfiaaGreatDoor.rowOpBare
open Go.Joins Go.Deep Go.ChangeShapes Go.WideShapes Go.ChangeAt Go.RowKit
set_option linter.unusedVariables false
section
variable {H : Type} {enc : TypeId × Value → H} {P : Program} {w : World} {base : Nat} {spare : Nat → Bool} {held : Bool}
theorem open_agg5 {r : Reach} {b0 : Nat} {t : TypeId} {f0 f1 f2 f3 f4 : Field} {v : Value} {d : DataW H} {p : List MemPlace} (hs : P.underlying t = some (.struct #[f0, f1, f2, f3, f4])) (hone : oneCellFields P #[f0, f1, f2, f3, f4] = true) (hC : P.cellsOf t = 5)
    (hv : Value.okWide P w r b0 t v) (h : DataW.Trod enc P w base spare held t v d p) :
    ∃ (v0 v1 v2 v3 v4 : Value) (y0 y1 y2 y3 y4 : DataW H × List MemPlace) (n : Nat), v = .agg #[v0, v1, v2, v3, v4] ∧ d = .agg [y0.1, y1.1, y2.1, y3.1, y4.1] ∧ p = y0.2 ++ (y1.2 ++ (y2.2 ++ (y3.2 ++ y4.2))) ∧
      DataW.trod enc P w base spare held n f0.type [v0] = some y0 ∧ DataW.trod enc P w base spare held n f1.type [v1] = some y1 ∧ DataW.trod enc P w base spare held n f2.type [v2] = some y2 ∧ DataW.trod enc P w base spare held n f3.type [v3] = some y3 ∧ DataW.trod enc P w base spare held n f4.type [v4] = some y4 := by
  obtain ⟨cs, rfl, hsz⟩ := okWide_struct hs hv
  obtain ⟨l⟩ := cs
  match l, hsz.trans hC with
  | [c0, c1, c2, c3, c4], _ =>
    obtain ⟨fuel, hf⟩ := h
    obtain ⟨xs, n, _, hx, _, hlen, hg⟩ := DataW.trod_struct hs hf
    obtain ⟨o0, k0⟩ := hone_of hone 0 f0 rfl
    obtain ⟨o1, k1⟩ := hone_of hone 1 f1 rfl
    obtain ⟨o2, k2⟩ := hone_of hone 2 f2 rfl
    obtain ⟨o3, k3⟩ := hone_of hone 3 f3 rfl
    obtain ⟨o4, k4⟩ := hone_of hone 4 f4 rfl
    match xs, hlen with
    | [y0, y1, y2, y3, y4], _ =>
      simp only [Prod.mk.injEq] at hx
      exact ⟨c0, c1, c2, c3, c4, y0, y1, y2, y3, y4, n, rfl, by simpa using hx.1, by simpa using hx.2, by simpa [Value.cells, o0, k0] using hg 0 f0 rfl, by simpa [Value.cells, o1, k1] using hg 1 f1 rfl, by simpa [Value.cells, o2, k2] using hg 2 f2 rfl, by simpa [Value.cells, o3, k3] using hg 3 f3 rfl, by simpa [Value.cells, o4, k4] using hg 4 f4 rfl⟩

end
theorem own : ownKnob Tryz.prog.godebug = none := by kernel_rfl
def laidL : List (String × DataW Unit) := [("quitrent/tag.none", Rows.laid_quitrent_tag_none), ("quitrent/op.names", Rows.laid_quitrent_op_names)]
theorem door_met (os : Os) (args : Array Value) : laidMetH Tryz.prog laidL ((World.doorLaid Tryz.prog 400 os).forCall (fun _ _ => 0) ⟨#[], args, []⟩).memory :=
  laidMetH_of_parts3 (fuel := 8) (laidMet_of_run' 8 (by kernel_rfl) (by kernel_rfl)) (by kernel_rfl) (by kernel_rfl)
theorem gN : Tryz.prog.globalNamed "quitrent/tag.none" = some 1 := by kernel_rfl
theorem tN : (Tryz.prog.globals[1]?).map (·.type) = some 209 := by kernel_rfl
theorem cE : Tryz.prog.cellsOf 3 = 1 := by kernel_rfl
theorem cT : Tryz.prog.cellsOf 209 = 5 := by kernel_rfl
theorem noneZ {W : World} (h : laidMetH Tryz.prog laidL W) : NoneZ W := by
  unfold laidL at h
  rw [MakeChecks.laidMetH_plain _ _ _ (by kernel_rfl)] at h
  have hT := Lib.tabIs_of_head (k := .i64) (zs := [0, 0, 0, 0, 0]) gN tN Tryz.underlying209 Tryz.underlying3 cE cT h
  intro i hi
  have := hT.cell gN i (by simpa using hi)
  rw [this]
  match i, hi with
  | 0, _ => rfl
  | 1, _ => rfl
  | 2, _ => rfl
  | 3, _ => rfl
  | 4, _ => rfl
theorem namesL {W : World} (h : laidMetH Tryz.prog laidL W) : Name3 W := by
  unfold laidL at h
  rw [MakeChecks.laidMetH_plain _ _ _ (by kernel_rfl)] at h
  exact name3_of_laid h.tail
set_option maxRecDepth 100000 in
theorem lifted (os : Os) (started : os.Started) (H : Type) (enc : TypeId × Value → H) :
    ReturnsInHanded {} Tryz.checked os 17 .any (fun w args => (Rows.opBareSpec.pre enc Tryz.prog Tryz.f17 [] false w args ∧ laidMetH Tryz.prog laidL w) ∧ sizedMet enc Tryz.prog Tryz.f17 (OpenSpec.ofChange Rows.opBareSpec) false w args)
      (Rows.opBareSpec.post enc Tryz.prog Tryz.f17 false true false false) := by
  refine returnsInHanded_of_change_and (C := Tryz.checked) (X := fun w _ => laidMetH Tryz.prog laidL w) (fun _ _ _ hh h => h.of_heap hh) own started (by kernel_rfl) Tryz.func17
    (ChangeSpec.witness_shaped (enc := enc) (C := Tryz.checked) (os := os) (X := fun w _ => laidMetH Tryz.prog laidL w) false (World.doorLaid Tryz.prog 400 os) #[.agg #[.int .i64 0, .int .i64 0, .int .i64 0, .int .i64 0], .slice none 0 0] 8 rfl (World.shaped_of_RefB (by kernel_rfl) (by kernel_rfl)) (by kernel_rfl) (by kernel_rfl) (by kernel_rfl) (door_met os _)) ?_
  intro W base args ds gs before hval0 hW hcnd hsz0 hL _
  have hval : ∀ (j : Nat) t v, Tryz.f17.params[j]? = some t → args[j]? = some v → Value.okWide Tryz.prog W .any base t v := hval0
  have hW' := hW
  obtain ⟨p, q, hA0, hV, rfl, hfz, hnd⟩ := hW
  have hA : DataW.TrodAll enc Tryz.prog W 0 (fun _ => true) true Tryz.f17.params.toList args.toList ds p := hA0
  rw [Tryz.params17] at hA hval
  obtain ⟨v0, vs0, d0, ds0, p0, q0, hargs, rfl, rfl, h0, r0⟩ := trodAll_cons hA
  obtain ⟨v1, vs1, d1, ds1, p1, q1, rfl, rfl, rfl, h1, r1⟩ := trodAll_cons r0
  obtain ⟨rfl, rfl, rfl⟩ := trodAll_nil r1
  obtain rfl : args = #[v0, v1] := by cases args; simp_all
  obtain ⟨rfl, rfl⟩ := trodVars_none hV
  obtain ⟨u0, u1, u2, u3, y0, y1, y2, y3, n, rfl, rfl, rfl, g0, g1, g2, g3⟩ := open_agg4 Tryz.underlying46 (by kernel_rfl) (by kernel_rfl) (hval 0 46 v0 rfl rfl) h0
  obtain ⟨c0, e0, rfl, -⟩ := DataW.trod_int Tryz.underlying3 g0
  obtain ⟨c1, e1, rfl, -⟩ := DataW.trod_int Tryz.underlying3 g1
  obtain ⟨c2, e2, rfl, -⟩ := DataW.trod_int Tryz.underlying3 g2
  obtain ⟨c3, e3, rfl, -⟩ := DataW.trod_int Tryz.underlying3 g3
  obtain rfl := List.singleton_inj.1 e0
  obtain rfl := List.singleton_inj.1 e1
  obtain rfl := List.singleton_inj.1 e2
  obtain rfl := List.singleton_inj.1 e3
  obtain ⟨as1, ac1, al1, rfl, hl1⟩ := open_ops Tryz.underlying67 Tryz.underlying53 (by kernel_rfl) rfl rfl rfl rfl rfl (by kernel_rfl) (by kernel_rfl) (by kernel_rfl) (by kernel_rfl) (by kernel_rfl) Tryz.underlying3 Tryz.underlying3 Tryz.underlying3 Tryz.underlying3 Tryz.underlying51 (hval 1 67 v1 rfl rfl) h1
  have lt1 : ∀ x ∈ p1, x.block < W.heap.size := by obtain ⟨n1, hn1⟩ := h1; exact DataW.trod_lt n1 67 _ _ hn1
  clear hA0 hval0 hsz0
  refine (lawOpBare_c c0 c1 c2 c3 as1 ac1 al1  W (noneZ hL) (namesL hL) hl1).mono fun e W' ⟨he, hs⟩ => ?_
  subst he
  exact ⟨_, rfl, _, _, _, [], _, [], hW', trodAll_mk1 (shut_bool Tryz.underlying4 _), (trodAll_cons_mk (Below.trod fLaid (by kernel_rfl) (of_decide_eq_true (by kernel_rfl)) h0 hs.below (by simp)) (trodAll_cons_mk (Below.trod fLaid (by kernel_rfl) (of_decide_eq_true (by kernel_rfl)) h1 hs.below lt1) (trodAll_mk0))), rfl, hs.below.frame _, fun h => by cases h⟩
theorem k1 : (Rows.opBareRow.inPlace == Tryz.prog.inPlace 17) = true := by kernel_rfl
theorem k2 : (Rows.opBareRow.unfollowed == Tryz.prog.unfollowed 17) = true := by kernel_rfl
theorem k3 : (Rows.opBareRow.recurses == Tryz.prog.recurses 17) = true := by kernel_rfl
theorem k4 : (Rows.opBareRow.named == Tryz.prog.varsNamed 17) = true := by kernel_rfl
theorem closed : joinedFacts Tryz.prog 17 Tryz.f17 Rows.opBareSpec Rows.opBareRow = true := by
  unfold joinedFacts
  repeat' (with_reducible refine and2 ?_ ?_)
  all_goals first
    | with_reducible exact k1
    | with_reducible exact k2
    | with_reducible exact k3
    | with_reducible exact k4
    | with_reducible exact fLaid
    | with_reducible exact fMaps
    | with_reducible exact fHeard
    | with_reducible exact fEnter
    | kernel_rfl
theorem over : Rows.opBareRow.holds Tryz.pinned (OpenSpec.ofChange Rows.opBareSpec) :=
  OpenClaim.holds_of_wide 17 Tryz.f17 rfl rfl rfl rfl rfl rfl rfl ⟨rfl, rfl, rfl, rfl, rfl⟩ rfl rfl rfl rfl rfl (by kernel_rfl) Tryz.func17 closed
    (of_decide_eq_true (by kernel_rfl)) (by unfold Func.isWrapper; first | (rw [if_pos (by decide +kernel)]; kernel_rfl) | (rw [if_neg (by decide +kernel)]; exact ⟨rfl, rfl⟩))
    (fun os started H enc _ => lifted os started H enc)
theorem m1 : Rows.opBareRow.wfByText (OpenSpec.ofChange Rows.opBareSpec) = true := by kernel_rfl
theorem m2 : false = Rows.opBareRow.goesBy Tryz.pinned.checked.prog := by kernel_rfl
theorem card_holds : Rows.OpBareCardSaid :=
  Claim7.holds_tied_plain_at .later [] [.data, .data] true (true, "4c2275c1c010577abc47fda388c66eaec63e8ed0fb824dddb20223330ec9ae2e") false
    over (fun _ h => by cases h) m1 (fun _ h => by cases h) opBare_row_tie rfl ⟨rfl, rfl⟩ fMain rfl
    (fun f fn hf hfn => by
      obtain rfl : f = 17 := Option.some.inj ((show Tryz.prog.funcNamed "quitrent/quitrentlaw22.OpBare" = some 17 by kernel_rfl).symm.trans hf) |>.symm
      obtain rfl : fn = Tryz.f17 := (Option.some.inj (Tryz.func17.symm.trans hfn)).symm
      exact ⟨fLooks, fun j t ht => by
        rw [Tryz.params17] at ht
        have hm : t ∈ [46, 67] := by simpa using Array.mem_of_getElem? ht
        have hall : ([46, 67].all fun u => !Tryz.prog.wantsStandIn u) = true := by kernel_rfl
        exact (show Tryz.prog.wantsStandIn t = false by simpa using List.all_eq_true.1 hall t hm)⟩)
    m2
#print axioms card_holds
end Go.Proofs.YtadhdjldcpkfiaaGreatDoor.rowOpBare
namespace Go.Proofs.YtadhdjldcpkfiaaGreatDoor
theorem opBare_holds : Rows.OpBareCardSaid := rowOpBare.card_holds
end Go.Proofs.YtadhdjldcpkfiaaGreatDoor
