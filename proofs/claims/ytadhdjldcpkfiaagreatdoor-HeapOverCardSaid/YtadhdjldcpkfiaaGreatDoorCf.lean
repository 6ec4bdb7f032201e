/- The configuration stays; what is done on two grounds that differ by the meter alone. Nothing is asked. -/
import Derived.Test.YtadhdjldcpkfiaaGreatDoorSh
import Derived.Test.YtadhdjldcpkfiaaGreatDoorPr
import Derived.Test.YtadhdjldcpkfiaaGreatDoorN2
namespace Go.Proofs.YtadhdjldcpkfiaaGreatDoor
set_option linter.unusedVariables false
set_option linter.unusedSimpArgs false
open Go.RowKit
set_option maxRecDepth 100000

theorem Held.conf {A : GA} {S T : GS} {w w' : World} (h : Held A S w) (h' : Held A T w') (k : Stays A.foot w w') : T.n = S.n ∧ T.w = S.w ∧ T.r = S.r ∧ T.k = S.k := by
  have e := (k.block _ (lt_of_get h.hg) (fun x => by
    rcases x with x | x
    · exact h.gs x
    · exact h.ga x)).trans h.hg
  rw [h'.hg] at e
  simp at e
  exact e
def Cf {α : Type} (x : GM α) : Prop := ∀ S, (x S).2.n = S.n ∧ (x S).2.w = S.w ∧ (x S).2.r = S.r ∧ (x S).2.k = S.k
theorem Cf.pure {α : Type} (a : α) : Cf (Pure.pure a : GM α) := fun _ => ⟨rfl, rfl, rfl, rfl⟩
theorem Cf.getS : Cf getS := fun _ => ⟨rfl, rfl, rfl, rfl⟩
theorem Cf.bind {α β : Type} {x : GM α} {f : α → GM β} (h : Cf x) (k : ∀ a, Cf (f a)) : Cf (x >>= f) := by
  intro S
  show (f (x S).1 (x S).2).2.n = S.n ∧ _
  obtain ⟨a, b, c, d⟩ := k (x S).1 (x S).2
  obtain ⟨a', b', c', d'⟩ := h S
  exact ⟨a.trans a', b.trans b', c.trans c', d.trans d'⟩
theorem stGet_cf (i : Int) : Cf (stGet i) := fun S => by
  unfold stGet
  split <;> exact ⟨rfl, rfl, rfl, rfl⟩
theorem stPut_cf (i v : Int) : Cf (stPut i v) := fun S => by
  unfold stPut
  split <;> exact ⟨rfl, rfl, rfl, rfl⟩
theorem gSet_cf (a v : Int) : Cf (gSet a v) := by
  unfold gSet
  split
  · exact Cf.pure _
  split
  · exact Cf.pure _
  exact stPut_cf _ _
theorem Reg_cf (r : Int) : Cf (Reg r) := stGet_cf _
theorem SetReg_cf (r v : Int) : Cf (SetReg r v) := gSet_cf _ _
theorem Word_cf (b x : Int) : Cf (Word b x) := fun S => stGet_cf _ S
theorem SetWord_cf (b x v : Int) : Cf (SetWord b x v) := fun S => stPut_cf _ _ S
theorem loopN_cf {f : Int → GM Unit} (h : ∀ i, Cf (f i)) : ∀ (k : Nat) (i : Int), Cf (loopN f k i)
  | 0, _ => Cf.pure _
  | k + 1, i => Cf.bind (h i) (fun _ => loopN_cf h k (i + 1))
theorem chLen_cf (p0 : Int) : Cf (chLen p0) := by
  unfold chLen
  repeat' first
    | with_reducible exact Cf.pure _
    | with_reducible exact Cf.getS
    | with_reducible exact Reg_cf _
    | with_reducible exact Word_cf _ _
    | with_reducible exact SetReg_cf _ _
    | with_reducible exact SetWord_cf _ _ _
    | with_reducible refine Cf.bind ?_ (fun _ => ?_)
    | split
theorem chAddL_cf (p0 p1 p2 : Int) : Cf (chAddL p0 p1 p2) := by
  unfold chAddL
  repeat' first
    | with_reducible exact Cf.pure _
    | with_reducible exact Cf.getS
    | with_reducible exact Reg_cf _
    | with_reducible exact Word_cf _ _
    | with_reducible exact SetReg_cf _ _
    | with_reducible exact SetWord_cf _ _ _
    | with_reducible refine Cf.bind ?_ (fun _ => ?_)
    | split
theorem chAdd_cf (p0 p1 : Int) : Cf (chAdd p0 p1) := by
  unfold chAdd
  repeat' first
    | with_reducible exact Cf.pure _
    | with_reducible exact Cf.getS
    | with_reducible exact Reg_cf _
    | with_reducible exact Word_cf _ _
    | with_reducible exact SetReg_cf _ _
    | with_reducible exact SetWord_cf _ _ _
    | with_reducible exact chAddL_cf _ _ _
    | with_reducible refine Cf.bind ?_ (fun _ => ?_)
    | split
theorem add1_cf (p0 : Int) : Cf (add1 p0) := by
  unfold add1
  repeat' first
    | with_reducible exact Cf.pure _
    | with_reducible exact Cf.getS
    | with_reducible exact Reg_cf _
    | with_reducible exact Word_cf _ _
    | with_reducible exact SetReg_cf _ _
    | with_reducible exact SetWord_cf _ _ _
    | with_reducible exact chAdd_cf _ _
    | with_reducible refine Cf.bind ?_ (fun _ => ?_)
    | split
theorem poOpen_cf : Cf (poOpen ) := by
  unfold poOpen
  repeat' first
    | with_reducible exact Cf.pure _
    | with_reducible exact Cf.getS
    | with_reducible exact Reg_cf _
    | with_reducible exact Word_cf _ _
    | with_reducible exact SetReg_cf _ _
    | with_reducible exact SetWord_cf _ _ _
    | with_reducible exact chLen_cf _
    | with_reducible exact add1_cf _
    | with_reducible refine loopN_cf (fun _ => ?_) _ _
    | with_reducible refine Cf.bind ?_ (fun _ => ?_)
    | split
theorem newS_conf (N W R K : Int) : (newS N W R K).n = N ∧ (newS N W R K).w = W ∧ (newS N W R K).r = R ∧ (newS N W R K).k = K := poOpen_cf (gsNew N W R K)
theorem newS_range (N W R K : Int) : 0 ≤ (newS N W R K).m ∧ (newS N W R K).m < 18446744073709551616 :=
  Sh.range poOpen_sh (S := gsNew N W R K) (T := newS N W R K) (a := (poOpen (gsNew N W R K)).1) ⟨Int.le_refl 0, (by decide : (0 : Int) < 18446744073709551616)⟩ rfl
theorem stN_range (l : List Op5) : ∀ S : GS, 0 ≤ S.m ∧ S.m < 18446744073709551616 → 0 ≤ (stN S l).m ∧ (stN S l).m < 18446744073709551616 := by
  induction l with
  | nil => exact fun S h => h
  | cons o l ih => exact fun S h => ih _ (Sh.range (doL_sh o) h (a := (doL o S).1) rfl)
theorem stN_shf (d : Int) (l : List Op5) : ∀ S : GS, stN (shf d S) l = shf d (stN S l) := by
  induction l with
  | nil => exact fun S => rfl
  | cons o l ih =>
    intro S
    show stN (doL o (shf d S)).2 l = shf d (stN (doL o S).2 l)
    rw [doL_sh o d S]
    exact ih _
theorem shf_zero {S : GS} (h : 0 ≤ S.m ∧ S.m < 18446744073709551616) {G : GS} (hn : S.n = G.n) (hw : S.w = G.w) (hr : S.r = G.r) (hk : S.k = G.k) (hs : S.ws = G.ws) (hm : G.m = 0) : S = shf S.m G := by
  obtain ⟨n, w, r, k, ws, m⟩ := S
  obtain ⟨n', w', r', k', ws', m'⟩ := G
  dsimp only at *
  subst hn hw hr hk hs hm
  unfold shf
  dsimp only
  congr 1
  omega
end Go.Proofs.YtadhdjldcpkfiaaGreatDoor
