/- No plain function looks at the meter: with another meter all is as it was, but for the meter. Nothing is asked. -/
import Derived.Test.YtadhdjldcpkfiaaGreatDoorDo
namespace Go.Proofs.YtadhdjldcpkfiaaGreatDoor
set_option linter.unusedVariables false
set_option linter.unusedSimpArgs false
set_option maxRecDepth 100000

def shf (d : Int) (S : GS) : GS := { S with m := (S.m + d) % 18446744073709551616 }
def Sh {α : Type} (x : GM α) : Prop := ∀ d S, x (shf d S) = ((x S).1, shf d (x S).2)
theorem Sh.pure {α : Type} (a : α) : Sh (Pure.pure a : GM α) := fun _ _ => rfl
theorem Sh.bind {α β : Type} {x : GM α} {f : α → GM β} (h : Sh x) (k : ∀ a, Sh (f a)) : Sh (x >>= f) := by
  intro d S
  show f (x (shf d S)).1 (x (shf d S)).2 = ((f (x S).1 (x S).2).1, shf d (f (x S).1 (x S).2).2)
  rw [h d S]
  exact k _ d _
theorem Sh.get {β : Type} {f : GS → GM β} (h : ∀ d c, f (shf d c) = f c) (k : ∀ c, Sh (f c)) : Sh (getS >>= f) := by
  intro d S
  show f (shf d S) (shf d S) = ((f S S).1, shf d (f S S).2)
  rw [h d S]
  exact k S d S
theorem shf_tick (d : Int) (S : GS) : (shf d S).tick = shf d S.tick := by
  unfold GS.tick shf
  dsimp only
  congr 1
  omega
theorem stGet_sh (i : Int) : Sh (stGet i) := by
  intro d S
  unfold stGet
  by_cases c : 0 ≤ i ∧ i < S.ws.length
  · rw [if_pos c, if_pos (show 0 ≤ i ∧ i < (shf d S).ws.length from c), shf_tick]
    rfl
  · rw [if_neg c, if_neg (show ¬ (0 ≤ i ∧ i < (shf d S).ws.length) from c)]
theorem stPut_sh (i v : Int) : Sh (stPut i v) := by
  intro d S
  unfold stPut
  by_cases c : 0 ≤ i ∧ i < S.ws.length
  · rw [if_pos c, if_pos (show 0 ≤ i ∧ i < (shf d S).ws.length from c)]
    show (true, _) = (true, _)
    congr 1
    unfold shf
    dsimp only
    congr 1
    omega
  · rw [if_neg c, if_neg (show ¬ (0 ≤ i ∧ i < (shf d S).ws.length) from c)]
theorem gSet_sh (a v : Int) : Sh (gSet a v) := by
  unfold gSet
  split
  · exact Sh.pure _
  split
  · exact Sh.pure _
  exact stPut_sh _ _
theorem Reg_sh (r : Int) : Sh (Reg r) := stGet_sh _
theorem SetReg_sh (r v : Int) : Sh (SetReg r v) := gSet_sh _ _
theorem Root_sh (i : Int) : Sh (Root i) := fun d S => stGet_sh _ d S
theorem SetRoot_sh (i v : Int) : Sh (SetRoot i v) := fun d S => gSet_sh _ _ d S
theorem Word_sh (b x : Int) : Sh (Word b x) := fun d S => stGet_sh _ d S
theorem SetWord_sh (b x v : Int) : Sh (SetWord b x v) := fun d S => stPut_sh _ _ d S
theorem tiOf_sh (r : Int) : Sh (tiOf r) := by
  intro d S
  unfold tiOf
  split
  · rfl
  show (if r > S.n then _ else _) = _
  split
  · rfl
  rw [Word_sh _ _ d S]
theorem rgMarked_sh (b m : Int) : Sh (rgMarked b m) := by
  intro d S
  unfold rgMarked
  split
  · rfl
  show (if b ≥ S.n then _ else _) = _
  split
  · rfl
  rw [Word_sh _ _ d S]
theorem loopN_sh {f : Int → GM Unit} (h : ∀ i, Sh (f i)) : ∀ (k : Nat) (i : Int), Sh (loopN f k i)
  | 0, _ => Sh.pure _
  | k + 1, i => Sh.bind (h i) (fun _ => loopN_sh h k (i + 1))
theorem timesL_sh {f : GM Bool} (h : Sh f) : ∀ (m : Nat) (k : Int), Sh (timesL f m k)
  | 0, _ => Sh.pure _
  | m + 1, k => Sh.bind h (fun b => by
    split
    · exact timesL_sh h m (k + 1)
    · exact Sh.pure _)
theorem wipe1_sh (b i : Int) : Sh (wipe1 b i) := Sh.bind (SetWord_sh _ _ _) (fun _ => Sh.pure _)
theorem Wipe_sh (b : Int) : Sh (Wipe b) := fun d S => loopN_sh (fun i => wipe1_sh b i) _ _ d S
theorem paTimes_sh {f : GM Bool} (h : Sh f) (reg n : Int) : Sh (paTimes f reg n) := by
  unfold paTimes
  refine Sh.bind (timesL_sh h _ _) (fun k => ?_)
  split
  · exact Sh.bind (Reg_sh _) (fun _ => Sh.bind (SetReg_sh _ _) (fun _ => Sh.pure _))
  · exact Sh.pure _
theorem tiChange_sh' (r : Int) (by_ : Tag → Int → GM Tag) (hp : Sh tiParity) (h : ∀ t n, Sh (by_ t n)) : Sh (tiChange r by_) := by
  unfold tiChange
  refine Sh.bind (tiOf_sh _) (fun x => ?_)
  split
  · refine Sh.bind hp (fun now => Sh.bind (h _ _) (fun t' => ?_))
    split
    · exact Sh.bind (SetWord_sh _ _ _) (fun _ => Sh.pure _)
    · exact Sh.pure _
  · exact Sh.pure _
theorem tiChange_sh (r : Int) (by_ : Tag → Int → GM Tag) (h : ∀ t n, Sh (by_ t n)) : Sh (tiChange r by_) := tiChange_sh' r by_ (Reg_sh _) h
theorem stPeek_shf (i d : Int) (S : GS) : stPeek i (shf d S) = stPeek i S := rfl
theorem SeeReg_shf (r d : Int) (S : GS) : SeeReg r (shf d S) = SeeReg r S := stPeek_shf _ _ _
theorem SeeWord_shf (b x d : Int) (S : GS) : SeeWord b x (shf d S) = SeeWord b x S := stPeek_shf _ _ _
theorem ms_sh (d : Int) (S : GS) : ms (shf d S) = ms S := by
  unfold ms c3 left6
  simp only [SeeReg_shf, SeeWord_shf]
  rw [show (shf d S).n = S.n from rfl]
theorem chLen_sh (p0 : Int) : Sh (chLen p0) := by
  unfold chLen
  repeat' first
    | with_reducible exact Sh.pure _
    | with_reducible exact Reg_sh _
    | with_reducible refine Sh.bind ?_ (fun _ => ?_)
theorem chFirst_sh (p0 : Int) : Sh (chFirst p0) := by
  unfold chFirst
  repeat' first
    | with_reducible exact Sh.pure _
    | with_reducible exact Reg_sh _
    | with_reducible refine Sh.bind ?_ (fun _ => ?_)
    | split
theorem chTake_sh (p0 : Int) : Sh (chTake p0) := by
  unfold chTake
  repeat' first
    | with_reducible exact Sh.pure _
    | with_reducible exact Reg_sh _
    | with_reducible exact Word_sh _ _
    | with_reducible exact SetReg_sh _ _
    | with_reducible exact SetWord_sh _ _ _
    | with_reducible refine Sh.bind ?_ (fun _ => ?_)
    | split
theorem chAddL_sh (p0 : Int) (p1 : Int) (p2 : Int) : Sh (chAddL p0 p1 p2) := by
  unfold chAddL
  repeat' first
    | with_reducible exact Sh.pure _
    | with_reducible exact Reg_sh _
    | with_reducible exact SetReg_sh _ _
    | with_reducible exact SetWord_sh _ _ _
    | with_reducible refine Sh.bind ?_ (fun _ => ?_)
    | split
theorem chPushL_sh (p0 : Int) (p1 : Int) (p2 : Int) : Sh (chPushL p0 p1 p2) := by
  unfold chPushL
  repeat' first
    | with_reducible exact Sh.pure _
    | with_reducible exact Reg_sh _
    | with_reducible exact SetReg_sh _ _
    | with_reducible exact SetWord_sh _ _ _
    | with_reducible refine Sh.bind ?_ (fun _ => ?_)
    | split
theorem chAdd_sh (p0 : Int) (p1 : Int) : Sh (chAdd p0 p1) := by
  unfold chAdd
  repeat' first
    | with_reducible exact Sh.pure _
    | with_reducible exact Reg_sh _
    | with_reducible exact SetReg_sh _ _
    | with_reducible exact chAddL_sh _ _ _
    | ((with_reducible refine Sh.get ?_ ?_); (focus exact fun _ _ => rfl); intro _)
    | with_reducible refine Sh.bind ?_ (fun _ => ?_)
    | split
theorem chPush_sh (p0 : Int) (p1 : Int) : Sh (chPush p0 p1) := by
  unfold chPush
  repeat' first
    | with_reducible exact Sh.pure _
    | with_reducible exact Reg_sh _
    | with_reducible exact SetReg_sh _ _
    | with_reducible exact chPushL_sh _ _ _
    | ((with_reducible refine Sh.get ?_ ?_); (focus exact fun _ _ => rfl); intro _)
    | with_reducible refine Sh.bind ?_ (fun _ => ?_)
    | split
theorem rgMark_sh (p0 : Int) (p1 : Tag) (p2 : Int) : Sh (rgMark p0 p1 p2) := by
  unfold rgMark
  repeat' first
    | with_reducible exact Sh.pure _
    | with_reducible exact SetWord_sh _ _ _
    | with_reducible refine Sh.bind ?_ (fun _ => ?_)
    | split
theorem rgLink_sh (p0 : Int) (p1 : Int) (p2 : Int) (p3 : Int) : Sh (rgLink p0 p1 p2 p3) := by
  unfold rgLink
  repeat' first
    | with_reducible exact Sh.pure _
    | with_reducible exact SetReg_sh _ _
    | with_reducible exact SetWord_sh _ _ _
    | with_reducible refine Sh.bind ?_ (fun _ => ?_)
    | split
theorem obMark_sh (p0 : Int) (p1 : Tag) : Sh (obMark p0 p1) := by
  unfold obMark
  repeat' first
    | with_reducible exact Sh.pure _
    | with_reducible exact SetWord_sh _ _ _
    | with_reducible refine Sh.bind ?_ (fun _ => ?_)
theorem rgAdd_sh (p0 : Int) : Sh (rgAdd p0) := by
  unfold rgAdd
  repeat' first
    | with_reducible exact Sh.pure _
    | with_reducible exact Reg_sh _
    | with_reducible exact SetReg_sh _ _
    | with_reducible exact SetWord_sh _ _ _
    | with_reducible exact rgMarked_sh _ _
    | with_reducible exact rgMark_sh _ _ _
    | with_reducible exact rgLink_sh _ _ _ _
    | with_reducible refine Sh.bind ?_ (fun _ => ?_)
    | split
theorem rgCut_sh (p0 : Int) : Sh (rgCut p0) := by
  unfold rgCut
  repeat' first
    | with_reducible exact Sh.pure _
    | with_reducible exact Reg_sh _
    | with_reducible exact Word_sh _ _
    | with_reducible exact SetReg_sh _ _
    | with_reducible exact SetWord_sh _ _ _
    | with_reducible exact rgMarked_sh _ _
    | with_reducible exact rgMark_sh _ _ _
    | with_reducible exact rgLink_sh _ _ _ _
    | with_reducible refine Sh.bind ?_ (fun _ => ?_)
    | split
theorem rgTake_sh : Sh rgTake := by
  unfold rgTake
  repeat' first
    | with_reducible exact Sh.pure _
    | with_reducible exact Reg_sh _
    | with_reducible exact rgCut_sh _
    | with_reducible refine Sh.bind ?_ (fun _ => ?_)
    | split
theorem rgLen_sh : Sh rgLen := by
  unfold rgLen
  repeat' first
    | with_reducible exact Sh.pure _
    | with_reducible exact Reg_sh _
    | with_reducible refine Sh.bind ?_ (fun _ => ?_)
theorem poLen_sh : Sh poLen := by
  unfold poLen
  repeat' first
    | with_reducible exact Sh.pure _
    | with_reducible exact chLen_sh _
    | with_reducible refine Sh.bind ?_ (fun _ => ?_)
theorem poTake_sh : Sh poTake := by
  unfold poTake
  repeat' first
    | with_reducible exact Sh.pure _
    | with_reducible exact Wipe_sh _
    | with_reducible exact chTake_sh _
    | with_reducible refine Sh.bind ?_ (fun _ => ?_)
    | split
theorem add1_sh (p0 : Int) : Sh (add1 p0) := by
  unfold add1
  repeat' first
    | with_reducible exact Sh.pure _
    | with_reducible exact chAdd_sh _ _
    | with_reducible refine Sh.bind ?_ (fun _ => ?_)
theorem poOpen_sh : Sh poOpen := by
  unfold poOpen
  repeat' first
    | with_reducible exact Sh.pure _
    | with_reducible exact chLen_sh _
    | with_reducible exact add1_sh _
    | with_reducible refine loopN_sh (fun _ => ?_) _ _
    | ((with_reducible refine Sh.get ?_ ?_); (focus exact fun _ _ => rfl); intro _)
    | with_reducible refine Sh.bind ?_ (fun _ => ?_)
    | split
theorem obIn_sh (p0 : Int) : Sh (obIn p0) := by
  unfold obIn
  repeat' first
    | with_reducible exact Sh.pure _
    | ((with_reducible refine Sh.get ?_ ?_); (focus exact fun _ _ => rfl); intro _)
    | with_reducible refine Sh.bind ?_ (fun _ => ?_)
    | split
theorem obIs_sh (p0 : Int) : Sh (obIs p0) := by
  unfold obIs
  repeat' first
    | with_reducible exact Sh.pure _
    | with_reducible exact Word_sh _ _
    | with_reducible exact obIn_sh _
    | with_reducible refine Sh.bind ?_ (fun _ => ?_)
    | split
theorem obLens_sh (p0 : Int) : Sh (obLens p0) := by
  unfold obLens
  repeat' first
    | with_reducible exact Sh.pure _
    | with_reducible exact Word_sh _ _
    | with_reducible exact obIs_sh _
    | with_reducible refine Sh.bind ?_ (fun _ => ?_)
    | split
theorem obField_sh (p0 : Int) (p1 : Int) (p2 : Bool) : Sh (obField p0 p1 p2) := by
  unfold obField
  repeat' first
    | with_reducible exact Sh.pure _
    | with_reducible exact Word_sh _ _
    | with_reducible exact obLens_sh _
    | ((with_reducible refine Sh.get ?_ ?_); (focus exact fun _ _ => rfl); intro _)
    | with_reducible refine Sh.bind ?_ (fun _ => ?_)
    | split
theorem tiParity_sh : Sh tiParity := by
  unfold tiParity
  repeat' first
    | with_reducible exact Reg_sh _
    | with_reducible refine Sh.bind ?_ (fun _ => ?_)
theorem byPaint_sh (p0 : Tag) (p1 : Int) : Sh (byPaint p0 p1) := by
  unfold byPaint
  repeat' first
    | with_reducible exact Sh.pure _
    | with_reducible refine Sh.bind ?_ (fun _ => ?_)
theorem byDone_sh (p0 : Tag) (p1 : Int) : Sh (byDone p0 p1) := by
  unfold byDone
  repeat' first
    | with_reducible exact Sh.pure _
    | with_reducible refine Sh.bind ?_ (fun _ => ?_)
theorem byKill_sh (p0 : Tag) (p1 : Int) : Sh (byKill p0 p1) := by
  unfold byKill
  repeat' first
    | with_reducible exact Sh.pure _
    | with_reducible refine Sh.bind ?_ (fun _ => ?_)
theorem byDye_sh (p0 : Int) (p1 : Tag) (p2 : Int) : Sh (byDye p0 p1 p2) := by
  unfold byDye
  repeat' first
    | with_reducible exact Sh.pure _
    | with_reducible exact SetWord_sh _ _ _
    | with_reducible refine Sh.bind ?_ (fun _ => ?_)
theorem byDeep_sh (p0 : Int) (p1 : Tag) (p2 : Int) : Sh (byDeep p0 p1 p2) := by
  unfold byDeep
  repeat' first
    | with_reducible exact Sh.pure _
    | with_reducible exact Word_sh _ _
    | with_reducible exact SetWord_sh _ _ _
    | with_reducible refine Sh.bind ?_ (fun _ => ?_)
    | split
theorem tiPaint_sh (p0 : Int) : Sh (tiPaint p0) := by
  unfold tiPaint
  repeat' first
    | with_reducible exact byPaint_sh _ _
    | with_reducible refine tiChange_sh _ _ (fun _ _ => ?_)
    | with_reducible refine Sh.bind ?_ (fun _ => ?_)
theorem tiDone_sh (p0 : Int) : Sh (tiDone p0) := by
  unfold tiDone
  repeat' first
    | with_reducible exact byDone_sh _ _
    | with_reducible refine tiChange_sh _ _ (fun _ _ => ?_)
    | with_reducible refine Sh.bind ?_ (fun _ => ?_)
theorem tiDye_sh (p0 : Int) : Sh (tiDye p0) := by
  unfold tiDye
  repeat' first
    | with_reducible exact byDye_sh _ _ _
    | with_reducible refine tiChange_sh _ _ (fun _ _ => ?_)
    | with_reducible refine Sh.bind ?_ (fun _ => ?_)
theorem tiDeep_sh (p0 : Int) : Sh (tiDeep p0) := by
  unfold tiDeep
  repeat' first
    | with_reducible exact byDeep_sh _ _ _
    | with_reducible refine tiChange_sh _ _ (fun _ _ => ?_)
    | with_reducible refine Sh.bind ?_ (fun _ => ?_)
theorem tiKillC_sh (p0 : Int) : Sh (tiKillC p0) := by
  unfold tiKillC
  repeat' first
    | with_reducible exact byKill_sh _ _
    | with_reducible refine tiChange_sh _ _ (fun _ _ => ?_)
    | with_reducible refine Sh.bind ?_ (fun _ => ?_)
theorem obPtr_sh (p0 : Int) (p1 : Int) : Sh (obPtr p0 p1) := by
  unfold obPtr
  repeat' first
    | with_reducible exact Sh.pure _
    | with_reducible exact Word_sh _ _
    | with_reducible exact obField_sh _ _ _
    | with_reducible refine Sh.bind ?_ (fun _ => ?_)
    | split
theorem obSetPtr_sh (p0 : Int) (p1 : Int) (p2 : Int) : Sh (obSetPtr p0 p1 p2) := by
  unfold obSetPtr
  repeat' first
    | with_reducible exact Sh.pure _
    | with_reducible exact SetWord_sh _ _ _
    | with_reducible exact obField_sh _ _ _
    | ((with_reducible refine Sh.get ?_ ?_); (focus exact fun _ _ => rfl); intro _)
    | with_reducible refine Sh.bind ?_ (fun _ => ?_)
    | split
theorem obData_sh (p0 : Int) (p1 : Int) : Sh (obData p0 p1) := by
  unfold obData
  repeat' first
    | with_reducible exact Sh.pure _
    | with_reducible exact Word_sh _ _
    | with_reducible exact obField_sh _ _ _
    | with_reducible refine Sh.bind ?_ (fun _ => ?_)
    | split
theorem obSetData_sh (p0 : Int) (p1 : Int) (p2 : Int) : Sh (obSetData p0 p1 p2) := by
  unfold obSetData
  repeat' first
    | with_reducible exact Sh.pure _
    | with_reducible exact SetWord_sh _ _ _
    | with_reducible exact obField_sh _ _ _
    | with_reducible refine Sh.bind ?_ (fun _ => ?_)
    | split
theorem ctOf_sh (p0 : Int) : Sh (ctOf p0) := by
  unfold ctOf
  repeat' first
    | with_reducible exact Sh.pure _
    | with_reducible exact Word_sh _ _
    | with_reducible exact obIs_sh _
    | with_reducible refine Sh.bind ?_ (fun _ => ?_)
    | split
theorem ctUpC_sh (p0 : Int) : Sh (ctUpC p0) := by
  unfold ctUpC
  repeat' first
    | with_reducible exact Sh.pure _
    | with_reducible exact Word_sh _ _
    | with_reducible exact SetWord_sh _ _ _
    | with_reducible exact obIs_sh _
    | with_reducible refine Sh.bind ?_ (fun _ => ?_)
    | split
theorem ctDownC_sh (p0 : Int) : Sh (ctDownC p0) := by
  unfold ctDownC
  repeat' first
    | with_reducible exact Sh.pure _
    | with_reducible exact Word_sh _ _
    | with_reducible exact SetWord_sh _ _ _
    | with_reducible exact obIs_sh _
    | with_reducible refine Sh.bind ?_ (fun _ => ?_)
    | split
theorem ctUp_sh (p0 : Int) : Sh (ctUp p0) := by
  unfold ctUp
  repeat' first
    | with_reducible exact Sh.pure _
    | with_reducible exact ctUpC_sh _
    | with_reducible refine Sh.bind ?_ (fun _ => ?_)
    | split
theorem ctDown_sh (p0 : Int) : Sh (ctDown p0) := by
  unfold ctDown
  repeat' first
    | with_reducible exact Sh.pure _
    | with_reducible exact ctDownC_sh _
    | with_reducible refine Sh.bind ?_ (fun _ => ?_)
    | split
theorem tiPhase_sh : Sh tiPhase := by
  unfold tiPhase
  repeat' first
    | with_reducible exact Sh.pure _
    | with_reducible exact Reg_sh _
    | with_reducible refine Sh.bind ?_ (fun _ => ?_)
theorem tiTurn_sh : Sh tiTurn := by
  unfold tiTurn
  repeat' first
    | with_reducible exact Sh.pure _
    | with_reducible exact Reg_sh _
    | with_reducible exact SetReg_sh _ _
    | with_reducible refine Sh.bind ?_ (fun _ => ?_)
theorem tiAt_sh : Sh tiAt := by
  unfold tiAt
  repeat' first
    | with_reducible exact Sh.pure _
    | with_reducible exact Reg_sh _
    | with_reducible refine Sh.bind ?_ (fun _ => ?_)
theorem tiDead_sh (p0 : Int) : Sh (tiDead p0) := by
  unfold tiDead
  repeat' first
    | with_reducible exact Sh.pure _
    | with_reducible exact tiOf_sh _
    | with_reducible refine Sh.bind ?_ (fun _ => ?_)
    | split
theorem tiBlack_sh (p0 : Int) : Sh (tiBlack p0) := by
  unfold tiBlack
  repeat' first
    | with_reducible exact Sh.pure _
    | with_reducible exact tiOf_sh _
    | with_reducible exact tiParity_sh
    | with_reducible refine Sh.bind ?_ (fun _ => ?_)
    | split
theorem tiShadow_sh (p0 : Int) : Sh (tiShadow p0) := by
  unfold tiShadow
  repeat' first
    | with_reducible exact Sh.pure _
    | with_reducible exact Word_sh _ _
    | with_reducible exact tiOf_sh _
    | with_reducible exact tiParity_sh
    | with_reducible refine Sh.bind ?_ (fun _ => ?_)
    | split
theorem tiKill_sh (p0 : Int) : Sh (tiKill p0) := by
  unfold tiKill
  repeat' first
    | with_reducible exact Sh.pure _
    | with_reducible exact tiKillC_sh _
    | with_reducible exact tiDead_sh _
    | with_reducible refine Sh.bind ?_ (fun _ => ?_)
    | split
theorem tiTouch_sh (p0 : Int) : Sh (tiTouch p0) := by
  unfold tiTouch
  repeat' first
    | with_reducible exact Sh.pure _
    | with_reducible exact tiOf_sh _
    | with_reducible exact rgAdd_sh _
    | with_reducible exact tiParity_sh
    | with_reducible exact tiPaint_sh _
    | with_reducible exact tiPhase_sh
    | with_reducible refine Sh.bind ?_ (fun _ => ?_)
    | split
theorem tiMove_sh (p0 : Int) (p1 : Int) : Sh (tiMove p0 p1) := by
  unfold tiMove
  repeat' first
    | with_reducible exact Sh.pure _
    | with_reducible exact SetReg_sh _ _
    | with_reducible refine Sh.bind ?_ (fun _ => ?_)
    | split
theorem tiCounted_sh (p0 : Int) (p1 : Int) : Sh (tiCounted p0 p1) := by
  unfold tiCounted
  repeat' first
    | with_reducible exact Sh.pure _
    | with_reducible exact tiOf_sh _
    | with_reducible exact tiParity_sh
    | with_reducible exact tiPhase_sh
    | with_reducible exact tiAt_sh
    | with_reducible refine Sh.bind ?_ (fun _ => ?_)
    | split
theorem tiLighten_sh (p0 : Int) : Sh (tiLighten p0) := by
  unfold tiLighten
  repeat' first
    | with_reducible exact Sh.pure _
    | with_reducible exact SetWord_sh _ _ _
    | with_reducible exact obIs_sh _
    | with_reducible exact tiPhase_sh
    | with_reducible exact tiBlack_sh _
    | with_reducible exact tiShadow_sh _
    | with_reducible refine Sh.bind ?_ (fun _ => ?_)
    | split
theorem poGive_sh (p0 : Int) : Sh (poGive p0) := by
  unfold poGive
  repeat' first
    | with_reducible exact Sh.pure _
    | with_reducible exact Word_sh _ _
    | with_reducible exact SetWord_sh _ _ _
    | with_reducible exact chPush_sh _ _
    | with_reducible refine Sh.bind ?_ (fun _ => ?_)
    | split
theorem obBlocks_sh (p0 : Int) : Sh (obBlocks p0) := by
  unfold obBlocks
  repeat' first
    | with_reducible exact Sh.pure _
    | with_reducible exact obLens_sh _
    | ((with_reducible refine Sh.get ?_ ?_); (focus exact fun _ _ => rfl); intro _)
    | with_reducible refine Sh.bind ?_ (fun _ => ?_)
    | split
theorem obShed_sh (p0 : Int) (p1 : Int) : Sh (obShed p0 p1) := by
  unfold obShed
  repeat' first
    | with_reducible exact Sh.pure _
    | with_reducible exact Word_sh _ _
    | with_reducible exact SetWord_sh _ _ _
    | with_reducible exact poGive_sh _
    | with_reducible exact obBlocks_sh _
    | with_reducible refine Sh.bind ?_ (fun _ => ?_)
    | split
theorem obEnd_sh (p0 : Int) : Sh (obEnd p0) := by
  unfold obEnd
  repeat' first
    | with_reducible exact Sh.pure _
    | with_reducible exact obIs_sh _
    | with_reducible exact poGive_sh _
    | with_reducible refine Sh.bind ?_ (fun _ => ?_)
    | split
theorem gvBury_sh (p0 : Int) : Sh (gvBury p0) := by
  unfold gvBury
  repeat' first
    | with_reducible exact Sh.pure _
    | with_reducible exact Reg_sh _
    | with_reducible exact SetReg_sh _ _
    | with_reducible exact SetWord_sh _ _ _
    | with_reducible exact chAdd_sh _ _
    | with_reducible exact rgCut_sh _
    | with_reducible exact obIs_sh _
    | with_reducible exact obLens_sh _
    | with_reducible exact ctOf_sh _
    | with_reducible exact tiKill_sh _
    | with_reducible exact obBlocks_sh _
    | with_reducible refine Sh.bind ?_ (fun _ => ?_)
    | split
theorem gvDrain_sh (p0 : Int) (p1 : Int) : Sh (gvDrain p0 p1) := by
  unfold gvDrain
  repeat' first
    | with_reducible exact Sh.pure _
    | with_reducible exact obPtr_sh _ _
    | with_reducible exact obSetPtr_sh _ _ _
    | with_reducible exact ctOf_sh _
    | with_reducible exact ctDown_sh _
    | with_reducible exact tiCounted_sh _ _
    | with_reducible exact tiLighten_sh _
    | with_reducible exact gvBury_sh _
    | with_reducible refine Sh.bind ?_ (fun _ => ?_)
    | split
theorem gvWork_sh : Sh gvWork := by
  unfold gvWork
  repeat' first
    | with_reducible exact Sh.pure _
    | with_reducible exact Reg_sh _
    | with_reducible exact Word_sh _ _
    | with_reducible exact SetReg_sh _ _
    | with_reducible exact SetWord_sh _ _ _
    | with_reducible exact chFirst_sh _
    | with_reducible exact chTake_sh _
    | with_reducible exact obShed_sh _ _
    | with_reducible exact obEnd_sh _
    | with_reducible exact gvDrain_sh _ _
    | ((with_reducible refine Sh.get ?_ ?_); (focus exact fun _ _ => rfl); intro _)
    | with_reducible refine Sh.bind ?_ (fun _ => ?_)
    | split
theorem gvRelF_sh : ∀ (k : Nat), Sh (gvRelF k)
  | 0 => fun _ _ => rfl
  | k + 1 => by
    intro d S
    unfold gvRelF
    rw [gvWork_sh d S]
    obtain ⟨⟨gave, ok⟩, T⟩ := gvWork S
    dsimp only
    split
    · rfl
    split
    · rfl
    exact gvRelF_sh k d T
theorem gvRelease_sh : Sh gvRelease := by
  intro d S
  unfold gvRelease
  rw [ms_sh]
  exact gvRelF_sh _ d S
theorem gvStep_sh : Sh gvStep := by
  unfold gvStep
  repeat' first
    | with_reducible exact Sh.pure _
    | with_reducible exact gvWork_sh
    | with_reducible refine Sh.bind ?_ (fun _ => ?_)
    | split
theorem gvPending_sh : Sh gvPending := by
  unfold gvPending
  repeat' first
    | with_reducible exact Sh.pure _
    | with_reducible exact Reg_sh _
    | with_reducible refine Sh.bind ?_ (fun _ => ?_)
theorem lkAlive_sh (p0 : Int) : Sh (lkAlive p0) := by
  unfold lkAlive
  repeat' first
    | with_reducible exact Sh.pure _
    | with_reducible exact obIs_sh _
    | with_reducible exact tiDead_sh _
    | with_reducible refine Sh.bind ?_ (fun _ => ?_)
    | split
theorem lkMore_sh (p0 : Int) : Sh (lkMore p0) := by
  unfold lkMore
  repeat' first
    | with_reducible exact Sh.pure _
    | with_reducible exact ctUp_sh _
    | with_reducible exact tiTouch_sh _
    | with_reducible refine Sh.bind ?_ (fun _ => ?_)
    | split
theorem lkLess_sh (p0 : Int) : Sh (lkLess p0) := by
  unfold lkLess
  repeat' first
    | with_reducible exact Sh.pure _
    | with_reducible exact SetReg_sh _ _
    | with_reducible exact ctDown_sh _
    | with_reducible exact gvBury_sh _
    | with_reducible refine Sh.bind ?_ (fun _ => ?_)
    | split
theorem lkHold_sh (p0 : Int) : Sh (lkHold p0) := by
  unfold lkHold
  repeat' first
    | with_reducible exact Sh.pure _
    | with_reducible exact lkAlive_sh _
    | with_reducible exact lkMore_sh _
    | with_reducible refine Sh.bind ?_ (fun _ => ?_)
    | split
theorem lkLet_sh (p0 : Int) : Sh (lkLet p0) := by
  unfold lkLet
  repeat' first
    | with_reducible exact Sh.pure _
    | with_reducible exact ctOf_sh _
    | with_reducible exact lkAlive_sh _
    | with_reducible exact lkLess_sh _
    | with_reducible refine Sh.bind ?_ (fun _ => ?_)
    | split
theorem lkGet_sh (p0 : Int) (p1 : Int) : Sh (lkGet p0 p1) := by
  unfold lkGet
  repeat' first
    | with_reducible exact Sh.pure _
    | with_reducible exact obPtr_sh _ _
    | with_reducible refine Sh.bind ?_ (fun _ => ?_)
    | split
theorem lkSuspect_sh : Sh lkSuspect := by
  unfold lkSuspect
  repeat' first
    | with_reducible exact Sh.pure _
    | with_reducible exact Reg_sh _
    | with_reducible refine Sh.bind ?_ (fun _ => ?_)
    | split
theorem lkPut_sh (p0 : Int) (p1 : Int) (p2 : Int) : Sh (lkPut p0 p1 p2) := by
  unfold lkPut
  repeat' first
    | with_reducible exact Sh.pure _
    | with_reducible exact obPtr_sh _ _
    | with_reducible exact obSetPtr_sh _ _ _
    | with_reducible exact ctOf_sh _
    | with_reducible exact tiTouch_sh _
    | with_reducible exact lkAlive_sh _
    | with_reducible exact lkMore_sh _
    | with_reducible exact lkLess_sh _
    | with_reducible refine Sh.bind ?_ (fun _ => ?_)
    | split
theorem tiBegin_sh (p0 : Int) : Sh (tiBegin p0) := by
  unfold tiBegin
  repeat' first
    | with_reducible exact Sh.pure _
    | with_reducible exact SetReg_sh _ _
    | with_reducible refine Sh.bind ?_ (fun _ => ?_)
    | split
theorem taPass_sh (p0 : Int) : Sh (taPass p0) := by
  unfold taPass
  repeat' first
    | with_reducible exact Sh.pure _
    | with_reducible exact tiMove_sh _ _
    | with_reducible refine Sh.bind ?_ (fun _ => ?_)
theorem taStep_sh : Sh taStep := by
  unfold taStep
  repeat' first
    | with_reducible exact Sh.pure _
    | with_reducible exact obLens_sh _
    | with_reducible exact tiDone_sh _
    | with_reducible exact tiDeep_sh _
    | with_reducible exact obPtr_sh _ _
    | with_reducible exact tiPhase_sh
    | with_reducible exact tiAt_sh
    | with_reducible exact tiMove_sh _ _
    | with_reducible exact tiCounted_sh _ _
    | with_reducible exact taPass_sh _
    | ((with_reducible refine Sh.get ?_ ?_); (focus exact fun _ _ => rfl); intro _)
    | with_reducible refine Sh.bind ?_ (fun _ => ?_)
    | split
theorem rpEmpty_sh (p0 : Int) (p1 : Int) : Sh (rpEmpty p0 p1) := by
  unfold rpEmpty
  repeat' first
    | with_reducible exact Sh.pure _
    | with_reducible exact obPtr_sh _ _
    | with_reducible exact obSetPtr_sh _ _ _
    | with_reducible exact ctDown_sh _
    | with_reducible exact gvBury_sh _
    | with_reducible refine Sh.bind ?_ (fun _ => ?_)
    | split
theorem rpStep_sh : Sh rpStep := by
  unfold rpStep
  repeat' first
    | with_reducible exact Sh.pure _
    | with_reducible exact obLens_sh _
    | with_reducible exact tiPaint_sh _
    | with_reducible exact tiPhase_sh
    | with_reducible exact tiAt_sh
    | with_reducible exact tiDead_sh _
    | with_reducible exact tiBlack_sh _
    | with_reducible exact tiMove_sh _ _
    | with_reducible exact rpEmpty_sh _ _
    | ((with_reducible refine Sh.get ?_ ?_); (focus exact fun _ _ => rfl); intro _)
    | with_reducible refine Sh.bind ?_ (fun _ => ?_)
    | split
theorem flScan_sh (p0 : Int) : Sh (flScan p0) := by
  unfold flScan
  repeat' first
    | with_reducible exact Sh.pure _
    | with_reducible exact Reg_sh _
    | with_reducible exact SetReg_sh _ _
    | with_reducible exact obPtr_sh _ _
    | with_reducible exact tiTouch_sh _
    | with_reducible refine Sh.bind ?_ (fun _ => ?_)
    | split
theorem rdRise_sh (p0 : Int) : Sh (rdRise p0) := by
  unfold rdRise
  repeat' first
    | with_reducible exact Sh.pure _
    | with_reducible exact Reg_sh _
    | with_reducible exact SetReg_sh _ _
    | with_reducible refine Sh.bind ?_ (fun _ => ?_)
theorem rdOpen_sh : Sh rdOpen := by
  unfold rdOpen
  repeat' first
    | with_reducible exact Sh.pure _
    | with_reducible exact SetReg_sh _ _
    | with_reducible exact tiTurn_sh
    | with_reducible exact lkSuspect_sh
    | with_reducible exact tiBegin_sh _
    | with_reducible refine Sh.bind ?_ (fun _ => ?_)
    | split
theorem rdPass_sh (p0 : Bool) (p1 : Int) : Sh (rdPass p0 p1) := by
  unfold rdPass
  repeat' first
    | with_reducible exact Sh.pure _
    | with_reducible exact tiBegin_sh _
    | with_reducible exact rdRise_sh _
    | with_reducible refine Sh.bind ?_ (fun _ => ?_)
    | split
theorem rdUnits_sh : Sh rdUnits := by
  unfold rdUnits
  repeat' first
    | with_reducible exact Sh.pure _
    | with_reducible exact Reg_sh _
    | with_reducible refine Sh.bind ?_ (fun _ => ?_)
theorem rdEpochs_sh : Sh rdEpochs := by
  unfold rdEpochs
  repeat' first
    | with_reducible exact Sh.pure _
    | with_reducible exact Reg_sh _
    | with_reducible refine Sh.bind ?_ (fun _ => ?_)
theorem rdQuiet_sh : Sh rdQuiet := by
  unfold rdQuiet
  repeat' first
    | with_reducible exact Sh.pure _
    | with_reducible exact tiPhase_sh
    | with_reducible exact lkSuspect_sh
    | with_reducible refine Sh.bind ?_ (fun _ => ?_)
    | split
theorem flSettle_sh (p0 : Int) : Sh (flSettle p0) := by
  unfold flSettle
  repeat' first
    | with_reducible exact Sh.pure _
    | with_reducible exact Word_sh _ _
    | with_reducible exact SetWord_sh _ _ _
    | with_reducible exact tiParity_sh
    | with_reducible exact tiShadow_sh _
    | with_reducible refine Sh.bind ?_ (fun _ => ?_)
    | split
theorem flVisit_sh (p0 : Int) : Sh (flVisit p0) := by
  unfold flVisit
  repeat' first
    | with_reducible exact Sh.pure _
    | with_reducible exact obIs_sh _
    | with_reducible exact ctOf_sh _
    | with_reducible exact tiDead_sh _
    | with_reducible exact tiBlack_sh _
    | with_reducible exact tiTouch_sh _
    | with_reducible exact tiMove_sh _ _
    | with_reducible exact flSettle_sh _
    | with_reducible refine Sh.bind ?_ (fun _ => ?_)
    | split
theorem flStep_sh : Sh flStep := by
  unfold flStep
  repeat' first
    | with_reducible exact Sh.pure _
    | with_reducible exact Reg_sh _
    | with_reducible exact SetReg_sh _ _
    | with_reducible exact rgTake_sh
    | with_reducible exact tiPhase_sh
    | with_reducible exact tiAt_sh
    | with_reducible exact flScan_sh _
    | with_reducible exact flVisit_sh _
    | ((with_reducible refine Sh.get ?_ ?_); (focus exact fun _ _ => rfl); intro _)
    | with_reducible refine Sh.bind ?_ (fun _ => ?_)
    | split
theorem rdStep_sh : Sh rdStep := by
  unfold rdStep
  repeat' first
    | with_reducible exact Sh.pure _
    | with_reducible exact tiPhase_sh
    | with_reducible exact taStep_sh
    | with_reducible exact rpStep_sh
    | with_reducible exact rdRise_sh _
    | with_reducible exact rdOpen_sh
    | with_reducible exact rdPass_sh _ _
    | with_reducible exact flStep_sh
    | with_reducible refine Sh.bind ?_ (fun _ => ?_)
    | split
theorem paPay_sh (p0 : Int) : Sh (paPay p0) := by
  unfold paPay
  repeat' first
    | with_reducible exact rdStep_sh
    | with_reducible refine paTimes_sh ?_ _ _
    | with_reducible refine Sh.bind ?_ (fun _ => ?_)
theorem paDrain_sh (p0 : Int) : Sh (paDrain p0) := by
  unfold paDrain
  repeat' first
    | with_reducible exact gvStep_sh
    | with_reducible refine paTimes_sh ?_ _ _
    | with_reducible refine Sh.bind ?_ (fun _ => ?_)
theorem paTick_sh : Sh paTick := by
  unfold paTick
  repeat' first
    | with_reducible exact Sh.pure _
    | with_reducible exact paPay_sh _
    | with_reducible exact paDrain_sh _
    | ((with_reducible refine Sh.get ?_ ?_); (focus exact fun _ _ => rfl); intro _)
    | with_reducible refine Sh.bind ?_ (fun _ => ?_)
theorem obMarkA_sh (p0 : Int) (p1 : Tag) : Sh (obMarkA p0 p1) := by
  unfold obMarkA
  repeat' first
    | with_reducible exact Sh.pure _
    | with_reducible exact SetWord_sh _ _ _
    | with_reducible refine Sh.bind ?_ (fun _ => ?_)
    | split
theorem leaf1_sh (p0 : Int) (p1 : Int) : Sh (leaf1 p0 p1) := by
  unfold leaf1
  repeat' first
    | with_reducible exact Sh.pure _
    | with_reducible exact SetWord_sh _ _ _
    | with_reducible exact poTake_sh
    | with_reducible exact obMarkA_sh _ _
    | with_reducible refine Sh.bind ?_ (fun _ => ?_)
    | split
theorem obMake_sh (p0 : Int) (p1 : Int) : Sh (obMake p0 p1) := by
  unfold obMake
  repeat' first
    | with_reducible exact Sh.pure _
    | with_reducible exact SetWord_sh _ _ _
    | with_reducible exact poLen_sh
    | with_reducible exact poTake_sh
    | with_reducible exact obMarkA_sh _ _
    | with_reducible exact leaf1_sh _ _
    | with_reducible refine loopN_sh (fun _ => ?_) _ _
    | ((with_reducible refine Sh.get ?_ ?_); (focus exact fun _ _ => rfl); intro _)
    | with_reducible refine Sh.bind ?_ (fun _ => ?_)
    | split
theorem lkBorn_sh (p0 : Int) (p1 : Int) : Sh (lkBorn p0 p1) := by
  unfold lkBorn
  repeat' first
    | with_reducible exact Sh.pure _
    | with_reducible exact tiDye_sh _
    | with_reducible exact ctUp_sh _
    | with_reducible exact obMake_sh _ _
    | with_reducible refine Sh.bind ?_ (fun _ => ?_)
    | split
theorem paFree_sh (p0 : Int) : Sh (paFree p0) := by
  unfold paFree
  repeat' first
    | with_reducible refine paTimes_sh ?_ _ _
    | with_reducible exact gvRelease_sh
    | with_reducible refine Sh.bind ?_ (fun _ => ?_)
theorem hSl1_sh (p0 : Int) : Sh (hSl1 p0) := by
  unfold hSl1
  repeat' first
    | with_reducible exact Sh.pure _
    | ((with_reducible refine Sh.get ?_ ?_); (focus exact fun _ _ => rfl); intro _)
    | with_reducible refine Sh.bind ?_ (fun _ => ?_)
    | split
theorem hSl2_sh (p0 : Int) (p1 : Int) : Sh (hSl2 p0 p1) := by
  unfold hSl2
  repeat' first
    | with_reducible exact Sh.pure _
    | ((with_reducible refine Sh.get ?_ ?_); (focus exact fun _ _ => rfl); intro _)
    | with_reducible refine Sh.bind ?_ (fun _ => ?_)
    | split
theorem hPay_sh (p0 : Int) (p1 : Int) : Sh (hPay p0 p1) := by
  unfold hPay
  repeat' first
    | with_reducible exact Sh.pure _
    | with_reducible exact paPay_sh _
    | ((with_reducible refine Sh.get ?_ ?_); (focus exact fun _ _ => rfl); intro _)
    | with_reducible refine Sh.bind ?_ (fun _ => ?_)
theorem hSet_sh (p0 : Int) (p1 : Int) : Sh (hSet p0 p1) := by
  unfold hSet
  repeat' first
    | with_reducible exact Sh.pure _
    | with_reducible exact Root_sh _
    | with_reducible exact SetRoot_sh _ _
    | with_reducible exact lkLet_sh _
    | with_reducible refine Sh.bind ?_ (fun _ => ?_)
    | split
theorem hTake_sh (p0 : Int) (p1 : Int) : Sh (hTake p0 p1) := by
  unfold hTake
  repeat' first
    | with_reducible exact Sh.pure _
    | with_reducible exact lkHold_sh _
    | with_reducible exact hSet_sh _ _
    | with_reducible refine Sh.bind ?_ (fun _ => ?_)
    | split
theorem hIn_sh (p0 : Int) : Sh (hIn p0) := by
  unfold hIn
  repeat' first
    | with_reducible exact Sh.pure _
    | with_reducible exact Root_sh _
    | with_reducible refine Sh.bind ?_ (fun _ => ?_)
    | split
theorem hAlloc_sh (p0 : Int) (p1 : Int) (p2 : Int) : Sh (hAlloc p0 p1 p2) := by
  unfold hAlloc
  repeat' first
    | with_reducible exact Sh.pure _
    | with_reducible exact poLen_sh
    | with_reducible exact gvPending_sh
    | with_reducible exact lkBorn_sh _ _
    | with_reducible exact paFree_sh _
    | with_reducible exact hSl1_sh _
    | with_reducible exact hPay_sh _ _
    | with_reducible exact hSet_sh _ _
    | ((with_reducible refine Sh.get ?_ ?_); (focus exact fun _ _ => rfl); intro _)
    | with_reducible refine Sh.bind ?_ (fun _ => ?_)
    | split
theorem hLoad_sh (p0 : Int) (p1 : Int) (p2 : Int) : Sh (hLoad p0 p1 p2) := by
  unfold hLoad
  repeat' first
    | with_reducible exact Sh.pure _
    | with_reducible exact lkGet_sh _ _
    | with_reducible exact hSl2_sh _ _
    | with_reducible exact hPay_sh _ _
    | with_reducible exact hTake_sh _ _
    | with_reducible exact hIn_sh _
    | with_reducible refine Sh.bind ?_ (fun _ => ?_)
    | split
theorem hStore_sh (p0 : Int) (p1 : Int) (p2 : Int) : Sh (hStore p0 p1 p2) := by
  unfold hStore
  repeat' first
    | with_reducible exact Sh.pure _
    | with_reducible exact Root_sh _
    | with_reducible exact lkPut_sh _ _ _
    | with_reducible exact hSl2_sh _ _
    | with_reducible exact hPay_sh _ _
    | with_reducible exact hIn_sh _
    | with_reducible refine Sh.bind ?_ (fun _ => ?_)
    | split
theorem hRead_sh (p0 : Int) (p1 : Int) : Sh (hRead p0 p1) := by
  unfold hRead
  repeat' first
    | with_reducible exact Sh.pure _
    | with_reducible exact obData_sh _ _
    | with_reducible exact hSl1_sh _
    | with_reducible exact hIn_sh _
    | with_reducible refine Sh.bind ?_ (fun _ => ?_)
    | split
theorem hWrite_sh (p0 : Int) (p1 : Int) (p2 : Int) : Sh (hWrite p0 p1 p2) := by
  unfold hWrite
  repeat' first
    | with_reducible exact Sh.pure _
    | with_reducible exact obSetData_sh _ _ _
    | with_reducible exact hSl1_sh _
    | with_reducible exact hIn_sh _
    | with_reducible refine Sh.bind ?_ (fun _ => ?_)
    | split
theorem hCopy_sh (p0 : Int) (p1 : Int) : Sh (hCopy p0 p1) := by
  unfold hCopy
  repeat' first
    | with_reducible exact Sh.pure _
    | with_reducible exact Root_sh _
    | with_reducible exact hSl2_sh _ _
    | with_reducible exact hPay_sh _ _
    | with_reducible exact hTake_sh _ _
    | with_reducible refine Sh.bind ?_ (fun _ => ?_)
    | split
theorem hDrop_sh (p0 : Int) : Sh (hDrop p0) := by
  unfold hDrop
  repeat' first
    | with_reducible exact Sh.pure _
    | with_reducible exact hSl1_sh _
    | with_reducible exact hPay_sh _ _
    | with_reducible exact hTake_sh _ _
    | with_reducible refine Sh.bind ?_ (fun _ => ?_)
    | split
theorem hSame_sh (p0 : Int) (p1 : Int) : Sh (hSame p0 p1) := by
  unfold hSame
  repeat' first
    | with_reducible exact Sh.pure _
    | with_reducible exact Root_sh _
    | with_reducible exact hSl2_sh _ _
    | with_reducible refine Sh.bind ?_ (fun _ => ?_)
    | split
theorem hLen_sh (p0 : Int) : Sh (hLen p0) := by
  unfold hLen
  repeat' first
    | with_reducible exact Sh.pure _
    | with_reducible exact obLens_sh _
    | with_reducible exact hSl1_sh _
    | with_reducible exact hIn_sh _
    | with_reducible refine Sh.bind ?_ (fun _ => ?_)
    | split
theorem hTick_sh : Sh hTick := by
  unfold hTick
  repeat' first
    | with_reducible exact Sh.pure _
    | with_reducible exact paTick_sh
    | with_reducible refine Sh.bind ?_ (fun _ => ?_)
theorem doK_sh (p0 : Op5) (p1 : GM Ans) (h : Sh p1) : Sh (doK p0 p1) := by
  unfold doK
  repeat' first
    | with_reducible assumption
    | with_reducible exact Sh.pure _
    | with_reducible exact hAlloc_sh _ _ _
    | with_reducible exact hLoad_sh _ _ _
    | with_reducible exact hStore_sh _ _ _
    | with_reducible exact hRead_sh _ _
    | with_reducible exact hWrite_sh _ _ _
    | with_reducible exact hCopy_sh _ _
    | with_reducible exact hDrop_sh _
    | with_reducible exact hSame_sh _ _
    | with_reducible exact hLen_sh _
    | with_reducible refine Sh.bind ?_ (fun _ => ?_)
    | split
theorem doTick_sh : Sh doTick := by
  unfold doTick
  repeat' first
    | with_reducible exact Sh.pure _
    | with_reducible exact hTick_sh
    | with_reducible refine Sh.bind ?_ (fun _ => ?_)
    | split
theorem doL_sh (p0 : Op5) : Sh (doL p0) := by
  unfold doL
  repeat' first
    | with_reducible exact doK_sh _ _ _
    | with_reducible exact doTick_sh
    | with_reducible refine doK_sh _ _ ?_
    | with_reducible refine Sh.bind ?_ (fun _ => ?_)
theorem doO_sh (p0 : Op5) : Sh (doO p0) := by
  unfold doO
  repeat' first
    | with_reducible exact Sh.pure _
    | with_reducible exact doK_sh _ _ _
    | with_reducible exact doTick_sh
    | with_reducible refine doK_sh _ _ ?_
    | with_reducible refine Sh.bind ?_ (fun _ => ?_)
    | split
/-- The meter stays a number of 64 bits. -/
theorem Sh.range {α : Type} {x : GM α} (h : Sh x) {S T : GS} {a : α} (hS : 0 ≤ S.m ∧ S.m < 18446744073709551616) (e : x S = (a, T)) : 0 ≤ T.m ∧ T.m < 18446744073709551616 := by
  have hz : S = shf S.m { S with m := 0 } := by
    obtain ⟨n, w, r, k, ws, m⟩ := S
    unfold shf
    dsimp only at hS ⊢
    congr 1
    omega
  rw [hz, h] at e
  cases e
  unfold shf
  dsimp only
  omega
end Go.Proofs.YtadhdjldcpkfiaaGreatDoor
