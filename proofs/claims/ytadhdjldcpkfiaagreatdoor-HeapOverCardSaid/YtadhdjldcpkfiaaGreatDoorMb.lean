/- What a call leaves alone: frames, composed along a plain function. Nothing is asked. -/
import Derived.Test.YtadhdjldcpkfiaaGreatDoorMa
import Derived.Test.YtadhdjldcpkfiaaGreatDoorT5
namespace Go.Proofs.YtadhdjldcpkfiaaGreatDoor
set_option linter.unusedVariables false
set_option linter.unusedSimpArgs false
set_option maxRecDepth 100000

def Keeps (R : GS → GS → Prop) {α : Type} (x : GM α) : Prop := ∀ S a T, x S = (a, T) → R S T
structure Pre (R : GS → GS → Prop) : Prop where
  refl : ∀ S, R S S
  trans : ∀ {S T U}, R S T → R T U → R S U
theorem Keeps.bind {R : GS → GS → Prop} (P : Pre R) {α β : Type} {x : GM α} {f : α → GM β} (h : Keeps R x) (k : ∀ a, Keeps R (f a)) : Keeps R (x >>= f) := by
  intro S b T e
  obtain ⟨a, U, e1, e2⟩ := GM.bind_eq e
  exact P.trans (h _ _ _ e1) (k a _ _ _ e2)
theorem Keeps.pure {R : GS → GS → Prop} (P : Pre R) {α : Type} (a : α) : Keeps R (Pure.pure a : GM α) := by
  intro S b T e
  obtain ⟨_, rfl⟩ := GM.pure_eq e
  exact P.refl _
theorem Keeps.getS {R : GS → GS → Prop} (P : Pre R) : Keeps R Go.Proofs.YtadhdjldcpkfiaaGreatDoor.getS := by
  intro S b T e
  obtain ⟨_, rfl⟩ := getS_eq e
  rename_i h
  subst h
  exact P.refl _
theorem Keeps.mono {R R' : GS → GS → Prop} {α : Type} {x : GM α} (h : Keeps R x) (k : ∀ S T, R S T → R' S T) : Keeps R' x := fun S a T e => k _ _ (h S a T e)

/-- Nothing but the words of some numbers, and some registers. -/
structure Frame (X Y : List Int) (S T : GS) : Prop where
  alike : Alike S T
  word : ∀ b x, x ∉ X → SeeWord b x T = SeeWord b x S
  reg : ∀ r, r ∉ Y → SeeReg r T = SeeReg r S
  root : ∀ i, SeeRoot i T = SeeRoot i S
/-- The same, where there are no fewer than no roots. -/
def Fr (X Y : List Int) (S T : GS) : Prop := 0 ≤ S.r → Frame X Y S T
theorem Fr.pre (X Y : List Int) : Pre (Fr X Y) :=
  ⟨fun S _ => ⟨Alike.refl _, fun _ _ _ => rfl, fun _ _ => rfl, fun _ => rfl⟩, fun {S T U} h k hr => by
    have h := h hr
    have k := k (by rw [h.alike.r]; exact hr)
    exact ⟨h.alike.trans k.alike, fun b x hx => (k.word b x hx).trans (h.word b x hx), fun r hx => (k.reg r hx).trans (h.reg r hx), fun i => (k.root i).trans (h.root i)⟩⟩
theorem Still.fr {X Y : List Int} {S T : GS} (h : Still S T) : Fr X Y S T := fun _ => ⟨h.alike, fun b x _ => h.word b x, fun r _ => h.reg r, fun i => h.root i⟩
theorem Fr.mono {X Y X' Y' : List Int} {S T : GS} (h : Fr X Y S T) (hX : ∀ x ∈ X, x ∈ X') (hY : ∀ y ∈ Y, y ∈ Y') : Fr X' Y' S T := fun hr =>
  ⟨(h hr).alike, fun b x hx => (h hr).word b x (fun h' => hx (hX x h')), fun r hx => (h hr).reg r (fun h' => hx (hY r h')), (h hr).root⟩
theorem Keeps.fr {X Y X' Y' : List Int} {α : Type} {x : GM α} (h : Keeps (Fr X Y) x) (hX : ∀ x ∈ X, x ∈ X') (hY : ∀ y ∈ Y, y ∈ Y') : Keeps (Fr X' Y') x := fun S a T e => (h S a T e).mono hX hY

theorem Reg_fr {X Y : List Int} (r : Int) : Keeps (Fr X Y) (Reg r) := fun S a T e => (Reg_at e).2.fr
theorem Root_fr {X Y : List Int} (r : Int) : Keeps (Fr X Y) (Root r) := fun S a T e => (Root_at e).2.fr
theorem Word_fr {X Y : List Int} (b x : Int) : Keeps (Fr X Y) (Word b x) := fun S a T e => (Word_at e).2.fr
theorem SetReg_fr {X Y : List Int} (r v : Int) (h : r ∈ Y) : Keeps (Fr X Y) (SetReg r v) := fun S a T e hr => by
  have k := SetReg_at hr e
  exact ⟨k.alike, fun b x _ => k.word b x, fun q hq => by rw [k.reg, if_neg]; rintro ⟨_, rfl⟩; exact hq h, k.root⟩
theorem SetWord_fr {X Y : List Int} (b x v : Int) (h : x ∈ X) : Keeps (Fr X Y) (SetWord b x v) := fun S a T e hr => by
  have k := SetWord_at hr e
  exact ⟨k.alike, fun c y hy => by rw [k.word, if_neg]; rintro ⟨_, _, rfl⟩; exact hy h, fun q _ => k.reg q, k.root⟩
theorem tiOf_fr {X Y : List Int} (r : Int) : Keeps (Fr X Y) (tiOf r) := fun S a T e => by
  unfold tiOf at e
  split at e
  · cases e; exact (Still.refl _).fr
  split at e
  · cases e; exact (Still.refl _).fr
  generalize hw : Word (r - 1) 0 S = p at e
  obtain ⟨v, U⟩ := p
  cases e
  exact (Word_at hw).2.fr
theorem rgMarked_fr {X Y : List Int} (b m : Int) : Keeps (Fr X Y) (rgMarked b m) := fun S a T e => by
  unfold rgMarked at e
  split at e
  · cases e; exact (Still.refl _).fr
  split at e
  · cases e; exact (Still.refl _).fr
  generalize hw : Word b 0 S = p at e
  obtain ⟨v, U⟩ := p
  cases e
  exact (Word_at hw).2.fr
theorem tiParity_fr : Keeps (Fr [] []) tiParity := by
  unfold tiParity
  repeat' first
    | with_reducible exact Reg_fr _
    | with_reducible exact Word_fr _ _
    | with_reducible exact tiOf_fr _
    | with_reducible exact rgMarked_fr _ _
    | with_reducible exact Keeps.pure (Fr.pre _ _) _
    | with_reducible exact Keeps.getS (Fr.pre _ _)
    | with_reducible exact SetReg_fr _ _ (by decide)
    | with_reducible exact SetWord_fr _ _ _ (by decide)
    | with_reducible refine Keeps.bind (Fr.pre _ _) ?_ (fun _ => ?_)
    | split
theorem obIn_fr (r : Int) : Keeps (Fr [] []) (obIn r) := by
  unfold obIn
  repeat' first
    | with_reducible exact Reg_fr _
    | with_reducible exact Word_fr _ _
    | with_reducible exact tiOf_fr _
    | with_reducible exact rgMarked_fr _ _
    | with_reducible exact Keeps.pure (Fr.pre _ _) _
    | with_reducible exact Keeps.getS (Fr.pre _ _)
    | with_reducible exact SetReg_fr _ _ (by decide)
    | with_reducible exact SetWord_fr _ _ _ (by decide)
    | with_reducible exact (tiParity_fr).fr (by decide) (by decide)
    | with_reducible refine Keeps.bind (Fr.pre _ _) ?_ (fun _ => ?_)
    | split
theorem obIs_fr (r : Int) : Keeps (Fr [] []) (obIs r) := by
  unfold obIs
  repeat' first
    | with_reducible exact Reg_fr _
    | with_reducible exact Word_fr _ _
    | with_reducible exact tiOf_fr _
    | with_reducible exact rgMarked_fr _ _
    | with_reducible exact Keeps.pure (Fr.pre _ _) _
    | with_reducible exact Keeps.getS (Fr.pre _ _)
    | with_reducible exact SetReg_fr _ _ (by decide)
    | with_reducible exact SetWord_fr _ _ _ (by decide)
    | with_reducible exact (tiParity_fr).fr (by decide) (by decide)
    | with_reducible exact (obIn_fr _).fr (by decide) (by decide)
    | with_reducible refine Keeps.bind (Fr.pre _ _) ?_ (fun _ => ?_)
    | split
theorem obLens_fr (r : Int) : Keeps (Fr [] []) (obLens r) := by
  unfold obLens
  repeat' first
    | with_reducible exact Reg_fr _
    | with_reducible exact Word_fr _ _
    | with_reducible exact tiOf_fr _
    | with_reducible exact rgMarked_fr _ _
    | with_reducible exact Keeps.pure (Fr.pre _ _) _
    | with_reducible exact Keeps.getS (Fr.pre _ _)
    | with_reducible exact SetReg_fr _ _ (by decide)
    | with_reducible exact SetWord_fr _ _ _ (by decide)
    | with_reducible exact (tiParity_fr).fr (by decide) (by decide)
    | with_reducible exact (obIn_fr _).fr (by decide) (by decide)
    | with_reducible exact (obIs_fr _).fr (by decide) (by decide)
    | with_reducible refine Keeps.bind (Fr.pre _ _) ?_ (fun _ => ?_)
    | split
theorem ctOf_fr (r : Int) : Keeps (Fr [] []) (ctOf r) := by
  unfold ctOf
  repeat' first
    | with_reducible exact Reg_fr _
    | with_reducible exact Word_fr _ _
    | with_reducible exact tiOf_fr _
    | with_reducible exact rgMarked_fr _ _
    | with_reducible exact Keeps.pure (Fr.pre _ _) _
    | with_reducible exact Keeps.getS (Fr.pre _ _)
    | with_reducible exact SetReg_fr _ _ (by decide)
    | with_reducible exact SetWord_fr _ _ _ (by decide)
    | with_reducible exact (tiParity_fr).fr (by decide) (by decide)
    | with_reducible exact (obIn_fr _).fr (by decide) (by decide)
    | with_reducible exact (obIs_fr _).fr (by decide) (by decide)
    | with_reducible exact (obLens_fr _).fr (by decide) (by decide)
    | with_reducible refine Keeps.bind (Fr.pre _ _) ?_ (fun _ => ?_)
    | split
theorem tiPhase_fr : Keeps (Fr [] []) tiPhase := by
  unfold tiPhase
  repeat' first
    | with_reducible exact Reg_fr _
    | with_reducible exact Word_fr _ _
    | with_reducible exact tiOf_fr _
    | with_reducible exact rgMarked_fr _ _
    | with_reducible exact Keeps.pure (Fr.pre _ _) _
    | with_reducible exact Keeps.getS (Fr.pre _ _)
    | with_reducible exact SetReg_fr _ _ (by decide)
    | with_reducible exact SetWord_fr _ _ _ (by decide)
    | with_reducible exact (tiParity_fr).fr (by decide) (by decide)
    | with_reducible exact (obIn_fr _).fr (by decide) (by decide)
    | with_reducible exact (obIs_fr _).fr (by decide) (by decide)
    | with_reducible exact (obLens_fr _).fr (by decide) (by decide)
    | with_reducible exact (ctOf_fr _).fr (by decide) (by decide)
    | with_reducible refine Keeps.bind (Fr.pre _ _) ?_ (fun _ => ?_)
    | split
theorem tiAt_fr : Keeps (Fr [] []) tiAt := by
  unfold tiAt
  repeat' first
    | with_reducible exact Reg_fr _
    | with_reducible exact Word_fr _ _
    | with_reducible exact tiOf_fr _
    | with_reducible exact rgMarked_fr _ _
    | with_reducible exact Keeps.pure (Fr.pre _ _) _
    | with_reducible exact Keeps.getS (Fr.pre _ _)
    | with_reducible exact SetReg_fr _ _ (by decide)
    | with_reducible exact SetWord_fr _ _ _ (by decide)
    | with_reducible exact (tiParity_fr).fr (by decide) (by decide)
    | with_reducible exact (obIn_fr _).fr (by decide) (by decide)
    | with_reducible exact (obIs_fr _).fr (by decide) (by decide)
    | with_reducible exact (obLens_fr _).fr (by decide) (by decide)
    | with_reducible exact (ctOf_fr _).fr (by decide) (by decide)
    | with_reducible exact (tiPhase_fr).fr (by decide) (by decide)
    | with_reducible refine Keeps.bind (Fr.pre _ _) ?_ (fun _ => ?_)
    | split
theorem tiDead_fr (r : Int) : Keeps (Fr [] []) (tiDead r) := by
  unfold tiDead
  repeat' first
    | with_reducible exact Reg_fr _
    | with_reducible exact Word_fr _ _
    | with_reducible exact tiOf_fr _
    | with_reducible exact rgMarked_fr _ _
    | with_reducible exact Keeps.pure (Fr.pre _ _) _
    | with_reducible exact Keeps.getS (Fr.pre _ _)
    | with_reducible exact SetReg_fr _ _ (by decide)
    | with_reducible exact SetWord_fr _ _ _ (by decide)
    | with_reducible exact (tiParity_fr).fr (by decide) (by decide)
    | with_reducible exact (obIn_fr _).fr (by decide) (by decide)
    | with_reducible exact (obIs_fr _).fr (by decide) (by decide)
    | with_reducible exact (obLens_fr _).fr (by decide) (by decide)
    | with_reducible exact (ctOf_fr _).fr (by decide) (by decide)
    | with_reducible exact (tiPhase_fr).fr (by decide) (by decide)
    | with_reducible exact (tiAt_fr).fr (by decide) (by decide)
    | with_reducible refine Keeps.bind (Fr.pre _ _) ?_ (fun _ => ?_)
    | split
theorem tiBlack_fr (r : Int) : Keeps (Fr [] []) (tiBlack r) := by
  unfold tiBlack
  repeat' first
    | with_reducible exact Reg_fr _
    | with_reducible exact Word_fr _ _
    | with_reducible exact tiOf_fr _
    | with_reducible exact rgMarked_fr _ _
    | with_reducible exact Keeps.pure (Fr.pre _ _) _
    | with_reducible exact Keeps.getS (Fr.pre _ _)
    | with_reducible exact SetReg_fr _ _ (by decide)
    | with_reducible exact SetWord_fr _ _ _ (by decide)
    | with_reducible exact (tiParity_fr).fr (by decide) (by decide)
    | with_reducible exact (obIn_fr _).fr (by decide) (by decide)
    | with_reducible exact (obIs_fr _).fr (by decide) (by decide)
    | with_reducible exact (obLens_fr _).fr (by decide) (by decide)
    | with_reducible exact (ctOf_fr _).fr (by decide) (by decide)
    | with_reducible exact (tiPhase_fr).fr (by decide) (by decide)
    | with_reducible exact (tiAt_fr).fr (by decide) (by decide)
    | with_reducible exact (tiDead_fr _).fr (by decide) (by decide)
    | with_reducible refine Keeps.bind (Fr.pre _ _) ?_ (fun _ => ?_)
    | split
theorem tiShadow_fr (r : Int) : Keeps (Fr [] []) (tiShadow r) := by
  unfold tiShadow
  repeat' first
    | with_reducible exact Reg_fr _
    | with_reducible exact Word_fr _ _
    | with_reducible exact tiOf_fr _
    | with_reducible exact rgMarked_fr _ _
    | with_reducible exact Keeps.pure (Fr.pre _ _) _
    | with_reducible exact Keeps.getS (Fr.pre _ _)
    | with_reducible exact SetReg_fr _ _ (by decide)
    | with_reducible exact SetWord_fr _ _ _ (by decide)
    | with_reducible exact (tiParity_fr).fr (by decide) (by decide)
    | with_reducible exact (obIn_fr _).fr (by decide) (by decide)
    | with_reducible exact (obIs_fr _).fr (by decide) (by decide)
    | with_reducible exact (obLens_fr _).fr (by decide) (by decide)
    | with_reducible exact (ctOf_fr _).fr (by decide) (by decide)
    | with_reducible exact (tiPhase_fr).fr (by decide) (by decide)
    | with_reducible exact (tiAt_fr).fr (by decide) (by decide)
    | with_reducible exact (tiDead_fr _).fr (by decide) (by decide)
    | with_reducible exact (tiBlack_fr _).fr (by decide) (by decide)
    | with_reducible refine Keeps.bind (Fr.pre _ _) ?_ (fun _ => ?_)
    | split
theorem tiCounted_fr (r i : Int) : Keeps (Fr [] []) (tiCounted r i) := by
  unfold tiCounted
  repeat' first
    | with_reducible exact Reg_fr _
    | with_reducible exact Word_fr _ _
    | with_reducible exact tiOf_fr _
    | with_reducible exact rgMarked_fr _ _
    | with_reducible exact Keeps.pure (Fr.pre _ _) _
    | with_reducible exact Keeps.getS (Fr.pre _ _)
    | with_reducible exact SetReg_fr _ _ (by decide)
    | with_reducible exact SetWord_fr _ _ _ (by decide)
    | with_reducible exact (tiParity_fr).fr (by decide) (by decide)
    | with_reducible exact (obIn_fr _).fr (by decide) (by decide)
    | with_reducible exact (obIs_fr _).fr (by decide) (by decide)
    | with_reducible exact (obLens_fr _).fr (by decide) (by decide)
    | with_reducible exact (ctOf_fr _).fr (by decide) (by decide)
    | with_reducible exact (tiPhase_fr).fr (by decide) (by decide)
    | with_reducible exact (tiAt_fr).fr (by decide) (by decide)
    | with_reducible exact (tiDead_fr _).fr (by decide) (by decide)
    | with_reducible exact (tiBlack_fr _).fr (by decide) (by decide)
    | with_reducible exact (tiShadow_fr _).fr (by decide) (by decide)
    | with_reducible refine Keeps.bind (Fr.pre _ _) ?_ (fun _ => ?_)
    | split
theorem obField_fr (r i : Int) (wd : Bool) : Keeps (Fr [] []) (obField r i wd) := by
  unfold obField
  repeat' first
    | with_reducible exact Reg_fr _
    | with_reducible exact Word_fr _ _
    | with_reducible exact tiOf_fr _
    | with_reducible exact rgMarked_fr _ _
    | with_reducible exact Keeps.pure (Fr.pre _ _) _
    | with_reducible exact Keeps.getS (Fr.pre _ _)
    | with_reducible exact SetReg_fr _ _ (by decide)
    | with_reducible exact SetWord_fr _ _ _ (by decide)
    | with_reducible exact (tiParity_fr).fr (by decide) (by decide)
    | with_reducible exact (obIn_fr _).fr (by decide) (by decide)
    | with_reducible exact (obIs_fr _).fr (by decide) (by decide)
    | with_reducible exact (obLens_fr _).fr (by decide) (by decide)
    | with_reducible exact (ctOf_fr _).fr (by decide) (by decide)
    | with_reducible exact (tiPhase_fr).fr (by decide) (by decide)
    | with_reducible exact (tiAt_fr).fr (by decide) (by decide)
    | with_reducible exact (tiDead_fr _).fr (by decide) (by decide)
    | with_reducible exact (tiBlack_fr _).fr (by decide) (by decide)
    | with_reducible exact (tiShadow_fr _).fr (by decide) (by decide)
    | with_reducible exact (tiCounted_fr _ _).fr (by decide) (by decide)
    | with_reducible refine Keeps.bind (Fr.pre _ _) ?_ (fun _ => ?_)
    | split
theorem obPtr_fr (r i : Int) : Keeps (Fr [] []) (obPtr r i) := by
  unfold obPtr
  repeat' first
    | with_reducible exact Reg_fr _
    | with_reducible exact Word_fr _ _
    | with_reducible exact tiOf_fr _
    | with_reducible exact rgMarked_fr _ _
    | with_reducible exact Keeps.pure (Fr.pre _ _) _
    | with_reducible exact Keeps.getS (Fr.pre _ _)
    | with_reducible exact SetReg_fr _ _ (by decide)
    | with_reducible exact SetWord_fr _ _ _ (by decide)
    | with_reducible exact (tiParity_fr).fr (by decide) (by decide)
    | with_reducible exact (obIn_fr _).fr (by decide) (by decide)
    | with_reducible exact (obIs_fr _).fr (by decide) (by decide)
    | with_reducible exact (obLens_fr _).fr (by decide) (by decide)
    | with_reducible exact (ctOf_fr _).fr (by decide) (by decide)
    | with_reducible exact (tiPhase_fr).fr (by decide) (by decide)
    | with_reducible exact (tiAt_fr).fr (by decide) (by decide)
    | with_reducible exact (tiDead_fr _).fr (by decide) (by decide)
    | with_reducible exact (tiBlack_fr _).fr (by decide) (by decide)
    | with_reducible exact (tiShadow_fr _).fr (by decide) (by decide)
    | with_reducible exact (tiCounted_fr _ _).fr (by decide) (by decide)
    | with_reducible exact (obField_fr _ _ _).fr (by decide) (by decide)
    | with_reducible refine Keeps.bind (Fr.pre _ _) ?_ (fun _ => ?_)
    | split
theorem obBlocks_fr (r : Int) : Keeps (Fr [] []) (obBlocks r) := by
  unfold obBlocks
  repeat' first
    | with_reducible exact Reg_fr _
    | with_reducible exact Word_fr _ _
    | with_reducible exact tiOf_fr _
    | with_reducible exact rgMarked_fr _ _
    | with_reducible exact Keeps.pure (Fr.pre _ _) _
    | with_reducible exact Keeps.getS (Fr.pre _ _)
    | with_reducible exact SetReg_fr _ _ (by decide)
    | with_reducible exact SetWord_fr _ _ _ (by decide)
    | with_reducible exact (tiParity_fr).fr (by decide) (by decide)
    | with_reducible exact (obIn_fr _).fr (by decide) (by decide)
    | with_reducible exact (obIs_fr _).fr (by decide) (by decide)
    | with_reducible exact (obLens_fr _).fr (by decide) (by decide)
    | with_reducible exact (ctOf_fr _).fr (by decide) (by decide)
    | with_reducible exact (tiPhase_fr).fr (by decide) (by decide)
    | with_reducible exact (tiAt_fr).fr (by decide) (by decide)
    | with_reducible exact (tiDead_fr _).fr (by decide) (by decide)
    | with_reducible exact (tiBlack_fr _).fr (by decide) (by decide)
    | with_reducible exact (tiShadow_fr _).fr (by decide) (by decide)
    | with_reducible exact (tiCounted_fr _ _).fr (by decide) (by decide)
    | with_reducible exact (obField_fr _ _ _).fr (by decide) (by decide)
    | with_reducible exact (obPtr_fr _ _).fr (by decide) (by decide)
    | with_reducible refine Keeps.bind (Fr.pre _ _) ?_ (fun _ => ?_)
    | split
theorem tiLighten_fr (r : Int) : Keeps (Fr [4] []) (tiLighten r) := by
  unfold tiLighten
  repeat' first
    | with_reducible exact Reg_fr _
    | with_reducible exact Word_fr _ _
    | with_reducible exact tiOf_fr _
    | with_reducible exact rgMarked_fr _ _
    | with_reducible exact Keeps.pure (Fr.pre _ _) _
    | with_reducible exact Keeps.getS (Fr.pre _ _)
    | with_reducible exact SetReg_fr _ _ (by decide)
    | with_reducible exact SetWord_fr _ _ _ (by decide)
    | with_reducible exact (tiParity_fr).fr (by decide) (by decide)
    | with_reducible exact (obIn_fr _).fr (by decide) (by decide)
    | with_reducible exact (obIs_fr _).fr (by decide) (by decide)
    | with_reducible exact (obLens_fr _).fr (by decide) (by decide)
    | with_reducible exact (ctOf_fr _).fr (by decide) (by decide)
    | with_reducible exact (tiPhase_fr).fr (by decide) (by decide)
    | with_reducible exact (tiAt_fr).fr (by decide) (by decide)
    | with_reducible exact (tiDead_fr _).fr (by decide) (by decide)
    | with_reducible exact (tiBlack_fr _).fr (by decide) (by decide)
    | with_reducible exact (tiShadow_fr _).fr (by decide) (by decide)
    | with_reducible exact (tiCounted_fr _ _).fr (by decide) (by decide)
    | with_reducible exact (obField_fr _ _ _).fr (by decide) (by decide)
    | with_reducible exact (obPtr_fr _ _).fr (by decide) (by decide)
    | with_reducible exact (obBlocks_fr _).fr (by decide) (by decide)
    | with_reducible refine Keeps.bind (Fr.pre _ _) ?_ (fun _ => ?_)
    | split
theorem ctDownC_fr (r : Int) : Keeps (Fr [3] []) (ctDownC r) := by
  unfold ctDownC
  repeat' first
    | with_reducible exact Reg_fr _
    | with_reducible exact Word_fr _ _
    | with_reducible exact tiOf_fr _
    | with_reducible exact rgMarked_fr _ _
    | with_reducible exact Keeps.pure (Fr.pre _ _) _
    | with_reducible exact Keeps.getS (Fr.pre _ _)
    | with_reducible exact SetReg_fr _ _ (by decide)
    | with_reducible exact SetWord_fr _ _ _ (by decide)
    | with_reducible exact (tiParity_fr).fr (by decide) (by decide)
    | with_reducible exact (obIn_fr _).fr (by decide) (by decide)
    | with_reducible exact (obIs_fr _).fr (by decide) (by decide)
    | with_reducible exact (obLens_fr _).fr (by decide) (by decide)
    | with_reducible exact (ctOf_fr _).fr (by decide) (by decide)
    | with_reducible exact (tiPhase_fr).fr (by decide) (by decide)
    | with_reducible exact (tiAt_fr).fr (by decide) (by decide)
    | with_reducible exact (tiDead_fr _).fr (by decide) (by decide)
    | with_reducible exact (tiBlack_fr _).fr (by decide) (by decide)
    | with_reducible exact (tiShadow_fr _).fr (by decide) (by decide)
    | with_reducible exact (tiCounted_fr _ _).fr (by decide) (by decide)
    | with_reducible exact (obField_fr _ _ _).fr (by decide) (by decide)
    | with_reducible exact (obPtr_fr _ _).fr (by decide) (by decide)
    | with_reducible exact (obBlocks_fr _).fr (by decide) (by decide)
    | with_reducible exact (tiLighten_fr _).fr (by decide) (by decide)
    | with_reducible refine Keeps.bind (Fr.pre _ _) ?_ (fun _ => ?_)
    | split
theorem ctDown_fr (r : Int) : Keeps (Fr [3] []) (ctDown r) := by
  unfold ctDown
  repeat' first
    | with_reducible exact Reg_fr _
    | with_reducible exact Word_fr _ _
    | with_reducible exact tiOf_fr _
    | with_reducible exact rgMarked_fr _ _
    | with_reducible exact Keeps.pure (Fr.pre _ _) _
    | with_reducible exact Keeps.getS (Fr.pre _ _)
    | with_reducible exact SetReg_fr _ _ (by decide)
    | with_reducible exact SetWord_fr _ _ _ (by decide)
    | with_reducible exact (tiParity_fr).fr (by decide) (by decide)
    | with_reducible exact (obIn_fr _).fr (by decide) (by decide)
    | with_reducible exact (obIs_fr _).fr (by decide) (by decide)
    | with_reducible exact (obLens_fr _).fr (by decide) (by decide)
    | with_reducible exact (ctOf_fr _).fr (by decide) (by decide)
    | with_reducible exact (tiPhase_fr).fr (by decide) (by decide)
    | with_reducible exact (tiAt_fr).fr (by decide) (by decide)
    | with_reducible exact (tiDead_fr _).fr (by decide) (by decide)
    | with_reducible exact (tiBlack_fr _).fr (by decide) (by decide)
    | with_reducible exact (tiShadow_fr _).fr (by decide) (by decide)
    | with_reducible exact (tiCounted_fr _ _).fr (by decide) (by decide)
    | with_reducible exact (obField_fr _ _ _).fr (by decide) (by decide)
    | with_reducible exact (obPtr_fr _ _).fr (by decide) (by decide)
    | with_reducible exact (obBlocks_fr _).fr (by decide) (by decide)
    | with_reducible exact (tiLighten_fr _).fr (by decide) (by decide)
    | with_reducible exact (ctDownC_fr _).fr (by decide) (by decide)
    | with_reducible refine Keeps.bind (Fr.pre _ _) ?_ (fun _ => ?_)
    | split
theorem ctUpC_fr (r : Int) : Keeps (Fr [3] []) (ctUpC r) := by
  unfold ctUpC
  repeat' first
    | with_reducible exact Reg_fr _
    | with_reducible exact Word_fr _ _
    | with_reducible exact tiOf_fr _
    | with_reducible exact rgMarked_fr _ _
    | with_reducible exact Keeps.pure (Fr.pre _ _) _
    | with_reducible exact Keeps.getS (Fr.pre _ _)
    | with_reducible exact SetReg_fr _ _ (by decide)
    | with_reducible exact SetWord_fr _ _ _ (by decide)
    | with_reducible exact (tiParity_fr).fr (by decide) (by decide)
    | with_reducible exact (obIn_fr _).fr (by decide) (by decide)
    | with_reducible exact (obIs_fr _).fr (by decide) (by decide)
    | with_reducible exact (obLens_fr _).fr (by decide) (by decide)
    | with_reducible exact (ctOf_fr _).fr (by decide) (by decide)
    | with_reducible exact (tiPhase_fr).fr (by decide) (by decide)
    | with_reducible exact (tiAt_fr).fr (by decide) (by decide)
    | with_reducible exact (tiDead_fr _).fr (by decide) (by decide)
    | with_reducible exact (tiBlack_fr _).fr (by decide) (by decide)
    | with_reducible exact (tiShadow_fr _).fr (by decide) (by decide)
    | with_reducible exact (tiCounted_fr _ _).fr (by decide) (by decide)
    | with_reducible exact (obField_fr _ _ _).fr (by decide) (by decide)
    | with_reducible exact (obPtr_fr _ _).fr (by decide) (by decide)
    | with_reducible exact (obBlocks_fr _).fr (by decide) (by decide)
    | with_reducible exact (tiLighten_fr _).fr (by decide) (by decide)
    | with_reducible exact (ctDownC_fr _).fr (by decide) (by decide)
    | with_reducible exact (ctDown_fr _).fr (by decide) (by decide)
    | with_reducible refine Keeps.bind (Fr.pre _ _) ?_ (fun _ => ?_)
    | split
theorem ctUp_fr (r : Int) : Keeps (Fr [3] []) (ctUp r) := by
  unfold ctUp
  repeat' first
    | with_reducible exact Reg_fr _
    | with_reducible exact Word_fr _ _
    | with_reducible exact tiOf_fr _
    | with_reducible exact rgMarked_fr _ _
    | with_reducible exact Keeps.pure (Fr.pre _ _) _
    | with_reducible exact Keeps.getS (Fr.pre _ _)
    | with_reducible exact SetReg_fr _ _ (by decide)
    | with_reducible exact SetWord_fr _ _ _ (by decide)
    | with_reducible exact (tiParity_fr).fr (by decide) (by decide)
    | with_reducible exact (obIn_fr _).fr (by decide) (by decide)
    | with_reducible exact (obIs_fr _).fr (by decide) (by decide)
    | with_reducible exact (obLens_fr _).fr (by decide) (by decide)
    | with_reducible exact (ctOf_fr _).fr (by decide) (by decide)
    | with_reducible exact (tiPhase_fr).fr (by decide) (by decide)
    | with_reducible exact (tiAt_fr).fr (by decide) (by decide)
    | with_reducible exact (tiDead_fr _).fr (by decide) (by decide)
    | with_reducible exact (tiBlack_fr _).fr (by decide) (by decide)
    | with_reducible exact (tiShadow_fr _).fr (by decide) (by decide)
    | with_reducible exact (tiCounted_fr _ _).fr (by decide) (by decide)
    | with_reducible exact (obField_fr _ _ _).fr (by decide) (by decide)
    | with_reducible exact (obPtr_fr _ _).fr (by decide) (by decide)
    | with_reducible exact (obBlocks_fr _).fr (by decide) (by decide)
    | with_reducible exact (tiLighten_fr _).fr (by decide) (by decide)
    | with_reducible exact (ctDownC_fr _).fr (by decide) (by decide)
    | with_reducible exact (ctDown_fr _).fr (by decide) (by decide)
    | with_reducible exact (ctUpC_fr _).fr (by decide) (by decide)
    | with_reducible refine Keeps.bind (Fr.pre _ _) ?_ (fun _ => ?_)
    | split
theorem tiKill_fr (r : Int) : Keeps (Fr [0] []) (tiKill r) := by
  unfold tiKill tiKillC tiChange byKill
  repeat' first
    | with_reducible exact Reg_fr _
    | with_reducible exact Word_fr _ _
    | with_reducible exact tiOf_fr _
    | with_reducible exact rgMarked_fr _ _
    | with_reducible exact Keeps.pure (Fr.pre _ _) _
    | with_reducible exact Keeps.getS (Fr.pre _ _)
    | with_reducible exact SetReg_fr _ _ (by decide)
    | with_reducible exact SetWord_fr _ _ _ (by decide)
    | with_reducible exact (tiParity_fr).fr (by decide) (by decide)
    | with_reducible exact (obIn_fr _).fr (by decide) (by decide)
    | with_reducible exact (obIs_fr _).fr (by decide) (by decide)
    | with_reducible exact (obLens_fr _).fr (by decide) (by decide)
    | with_reducible exact (ctOf_fr _).fr (by decide) (by decide)
    | with_reducible exact (tiPhase_fr).fr (by decide) (by decide)
    | with_reducible exact (tiAt_fr).fr (by decide) (by decide)
    | with_reducible exact (tiDead_fr _).fr (by decide) (by decide)
    | with_reducible exact (tiBlack_fr _).fr (by decide) (by decide)
    | with_reducible exact (tiShadow_fr _).fr (by decide) (by decide)
    | with_reducible exact (tiCounted_fr _ _).fr (by decide) (by decide)
    | with_reducible exact (obField_fr _ _ _).fr (by decide) (by decide)
    | with_reducible exact (obPtr_fr _ _).fr (by decide) (by decide)
    | with_reducible exact (obBlocks_fr _).fr (by decide) (by decide)
    | with_reducible exact (tiLighten_fr _).fr (by decide) (by decide)
    | with_reducible exact (ctDownC_fr _).fr (by decide) (by decide)
    | with_reducible exact (ctDown_fr _).fr (by decide) (by decide)
    | with_reducible exact (ctUpC_fr _).fr (by decide) (by decide)
    | with_reducible exact (ctUp_fr _).fr (by decide) (by decide)
    | with_reducible refine Keeps.bind (Fr.pre _ _) ?_ (fun _ => ?_)
    | split
theorem rgCut_fr (b : Int) : Keeps (Fr [0, 6, 7] [7, 8, 9]) (rgCut b) := by
  unfold rgCut rgMark rgLink
  repeat' first
    | with_reducible exact Reg_fr _
    | with_reducible exact Word_fr _ _
    | with_reducible exact tiOf_fr _
    | with_reducible exact rgMarked_fr _ _
    | with_reducible exact Keeps.pure (Fr.pre _ _) _
    | with_reducible exact Keeps.getS (Fr.pre _ _)
    | with_reducible exact SetReg_fr _ _ (by decide)
    | with_reducible exact SetWord_fr _ _ _ (by decide)
    | with_reducible exact (tiParity_fr).fr (by decide) (by decide)
    | with_reducible exact (obIn_fr _).fr (by decide) (by decide)
    | with_reducible exact (obIs_fr _).fr (by decide) (by decide)
    | with_reducible exact (obLens_fr _).fr (by decide) (by decide)
    | with_reducible exact (ctOf_fr _).fr (by decide) (by decide)
    | with_reducible exact (tiPhase_fr).fr (by decide) (by decide)
    | with_reducible exact (tiAt_fr).fr (by decide) (by decide)
    | with_reducible exact (tiDead_fr _).fr (by decide) (by decide)
    | with_reducible exact (tiBlack_fr _).fr (by decide) (by decide)
    | with_reducible exact (tiShadow_fr _).fr (by decide) (by decide)
    | with_reducible exact (tiCounted_fr _ _).fr (by decide) (by decide)
    | with_reducible exact (obField_fr _ _ _).fr (by decide) (by decide)
    | with_reducible exact (obPtr_fr _ _).fr (by decide) (by decide)
    | with_reducible exact (obBlocks_fr _).fr (by decide) (by decide)
    | with_reducible exact (tiLighten_fr _).fr (by decide) (by decide)
    | with_reducible exact (ctDownC_fr _).fr (by decide) (by decide)
    | with_reducible exact (ctDown_fr _).fr (by decide) (by decide)
    | with_reducible exact (ctUpC_fr _).fr (by decide) (by decide)
    | with_reducible exact (ctUp_fr _).fr (by decide) (by decide)
    | with_reducible exact (tiKill_fr _).fr (by decide) (by decide)
    | with_reducible refine Keeps.bind (Fr.pre _ _) ?_ (fun _ => ?_)
    | split
theorem rgAdd_fr (b : Int) : Keeps (Fr [0, 6, 7] [7, 8, 9]) (rgAdd b) := by
  unfold rgAdd rgMark rgLink
  repeat' first
    | with_reducible exact Reg_fr _
    | with_reducible exact Word_fr _ _
    | with_reducible exact tiOf_fr _
    | with_reducible exact rgMarked_fr _ _
    | with_reducible exact Keeps.pure (Fr.pre _ _) _
    | with_reducible exact Keeps.getS (Fr.pre _ _)
    | with_reducible exact SetReg_fr _ _ (by decide)
    | with_reducible exact SetWord_fr _ _ _ (by decide)
    | with_reducible exact (tiParity_fr).fr (by decide) (by decide)
    | with_reducible exact (obIn_fr _).fr (by decide) (by decide)
    | with_reducible exact (obIs_fr _).fr (by decide) (by decide)
    | with_reducible exact (obLens_fr _).fr (by decide) (by decide)
    | with_reducible exact (ctOf_fr _).fr (by decide) (by decide)
    | with_reducible exact (tiPhase_fr).fr (by decide) (by decide)
    | with_reducible exact (tiAt_fr).fr (by decide) (by decide)
    | with_reducible exact (tiDead_fr _).fr (by decide) (by decide)
    | with_reducible exact (tiBlack_fr _).fr (by decide) (by decide)
    | with_reducible exact (tiShadow_fr _).fr (by decide) (by decide)
    | with_reducible exact (tiCounted_fr _ _).fr (by decide) (by decide)
    | with_reducible exact (obField_fr _ _ _).fr (by decide) (by decide)
    | with_reducible exact (obPtr_fr _ _).fr (by decide) (by decide)
    | with_reducible exact (obBlocks_fr _).fr (by decide) (by decide)
    | with_reducible exact (tiLighten_fr _).fr (by decide) (by decide)
    | with_reducible exact (ctDownC_fr _).fr (by decide) (by decide)
    | with_reducible exact (ctDown_fr _).fr (by decide) (by decide)
    | with_reducible exact (ctUpC_fr _).fr (by decide) (by decide)
    | with_reducible exact (ctUp_fr _).fr (by decide) (by decide)
    | with_reducible exact (tiKill_fr _).fr (by decide) (by decide)
    | with_reducible exact (rgCut_fr _).fr (by decide) (by decide)
    | with_reducible refine Keeps.bind (Fr.pre _ _) ?_ (fun _ => ?_)
    | split
theorem chAdd1_fr (b : Int) : Keeps (Fr [5] [3, 4, 5]) (chAdd 1 b) := by
  unfold chAdd chAddL
  repeat' first
    | with_reducible exact Reg_fr _
    | with_reducible exact Word_fr _ _
    | with_reducible exact tiOf_fr _
    | with_reducible exact rgMarked_fr _ _
    | with_reducible exact Keeps.pure (Fr.pre _ _) _
    | with_reducible exact Keeps.getS (Fr.pre _ _)
    | with_reducible exact SetReg_fr _ _ (by decide)
    | with_reducible exact SetWord_fr _ _ _ (by decide)
    | with_reducible exact (tiParity_fr).fr (by decide) (by decide)
    | with_reducible exact (obIn_fr _).fr (by decide) (by decide)
    | with_reducible exact (obIs_fr _).fr (by decide) (by decide)
    | with_reducible exact (obLens_fr _).fr (by decide) (by decide)
    | with_reducible exact (ctOf_fr _).fr (by decide) (by decide)
    | with_reducible exact (tiPhase_fr).fr (by decide) (by decide)
    | with_reducible exact (tiAt_fr).fr (by decide) (by decide)
    | with_reducible exact (tiDead_fr _).fr (by decide) (by decide)
    | with_reducible exact (tiBlack_fr _).fr (by decide) (by decide)
    | with_reducible exact (tiShadow_fr _).fr (by decide) (by decide)
    | with_reducible exact (tiCounted_fr _ _).fr (by decide) (by decide)
    | with_reducible exact (obField_fr _ _ _).fr (by decide) (by decide)
    | with_reducible exact (obPtr_fr _ _).fr (by decide) (by decide)
    | with_reducible exact (obBlocks_fr _).fr (by decide) (by decide)
    | with_reducible exact (tiLighten_fr _).fr (by decide) (by decide)
    | with_reducible exact (ctDownC_fr _).fr (by decide) (by decide)
    | with_reducible exact (ctDown_fr _).fr (by decide) (by decide)
    | with_reducible exact (ctUpC_fr _).fr (by decide) (by decide)
    | with_reducible exact (ctUp_fr _).fr (by decide) (by decide)
    | with_reducible exact (tiKill_fr _).fr (by decide) (by decide)
    | with_reducible exact (rgCut_fr _).fr (by decide) (by decide)
    | with_reducible exact (rgAdd_fr _).fr (by decide) (by decide)
    | with_reducible refine Keeps.bind (Fr.pre _ _) ?_ (fun _ => ?_)
    | split
theorem gvBury_fr (r : Int) : Keeps (Fr [0, 5, 6, 7] [3, 4, 5, 6, 7, 8, 9, 14]) (gvBury r) := by
  unfold gvBury
  repeat' first
    | with_reducible exact Reg_fr _
    | with_reducible exact Word_fr _ _
    | with_reducible exact tiOf_fr _
    | with_reducible exact rgMarked_fr _ _
    | with_reducible exact Keeps.pure (Fr.pre _ _) _
    | with_reducible exact Keeps.getS (Fr.pre _ _)
    | with_reducible exact SetReg_fr _ _ (by decide)
    | with_reducible exact SetWord_fr _ _ _ (by decide)
    | with_reducible exact (tiParity_fr).fr (by decide) (by decide)
    | with_reducible exact (obIn_fr _).fr (by decide) (by decide)
    | with_reducible exact (obIs_fr _).fr (by decide) (by decide)
    | with_reducible exact (obLens_fr _).fr (by decide) (by decide)
    | with_reducible exact (ctOf_fr _).fr (by decide) (by decide)
    | with_reducible exact (tiPhase_fr).fr (by decide) (by decide)
    | with_reducible exact (tiAt_fr).fr (by decide) (by decide)
    | with_reducible exact (tiDead_fr _).fr (by decide) (by decide)
    | with_reducible exact (tiBlack_fr _).fr (by decide) (by decide)
    | with_reducible exact (tiShadow_fr _).fr (by decide) (by decide)
    | with_reducible exact (tiCounted_fr _ _).fr (by decide) (by decide)
    | with_reducible exact (obField_fr _ _ _).fr (by decide) (by decide)
    | with_reducible exact (obPtr_fr _ _).fr (by decide) (by decide)
    | with_reducible exact (obBlocks_fr _).fr (by decide) (by decide)
    | with_reducible exact (tiLighten_fr _).fr (by decide) (by decide)
    | with_reducible exact (ctDownC_fr _).fr (by decide) (by decide)
    | with_reducible exact (ctDown_fr _).fr (by decide) (by decide)
    | with_reducible exact (ctUpC_fr _).fr (by decide) (by decide)
    | with_reducible exact (ctUp_fr _).fr (by decide) (by decide)
    | with_reducible exact (tiKill_fr _).fr (by decide) (by decide)
    | with_reducible exact (rgCut_fr _).fr (by decide) (by decide)
    | with_reducible exact (rgAdd_fr _).fr (by decide) (by decide)
    | with_reducible exact (chAdd1_fr _).fr (by decide) (by decide)
    | with_reducible refine Keeps.bind (Fr.pre _ _) ?_ (fun _ => ?_)
    | split
end Go.Proofs.YtadhdjldcpkfiaaGreatDoor
