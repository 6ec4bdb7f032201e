/- The words of a ground as a memory: what is read behind a write. Nothing is asked. -/
import Derived.Test.YtadhdjldcpkfiaaGreatDoorG
namespace Go.Proofs.YtadhdjldcpkfiaaGreatDoor
set_option linter.unusedVariables false
set_option linter.unusedSimpArgs false

/-- One configuration, and as many words. -/
structure Alike (S T : GS) : Prop where
  n : T.n = S.n
  w : T.w = S.w
  r : T.r = S.r
  k : T.k = S.k
  len : T.ws.length = S.ws.length
theorem Alike.refl (S : GS) : Alike S S := ⟨rfl, rfl, rfl, rfl, rfl⟩
theorem Alike.trans {S T U : GS} (h : Alike S T) (k : Alike T U) : Alike S U := ⟨k.n.trans h.n, k.w.trans h.w, k.r.trans h.r, k.k.trans h.k, k.len.trans h.len⟩
theorem Alike.symm {S T : GS} (h : Alike S T) : Alike T S := ⟨h.n.symm, h.w.symm, h.r.symm, h.k.symm, h.len.symm⟩

/-- The same words, whatever the meter says. -/
structure Still (S T : GS) : Prop where
  n : T.n = S.n
  w : T.w = S.w
  r : T.r = S.r
  k : T.k = S.k
  ws : T.ws = S.ws
theorem Still.refl (S : GS) : Still S S := ⟨rfl, rfl, rfl, rfl, rfl⟩
theorem Still.trans {S T U : GS} (h : Still S T) (k : Still T U) : Still S U := ⟨k.n.trans h.n, k.w.trans h.w, k.r.trans h.r, k.k.trans h.k, k.ws.trans h.ws⟩
theorem Still.alike {S T : GS} (h : Still S T) : Alike S T := ⟨h.n, h.w, h.r, h.k, by rw [h.ws]⟩
theorem Still.peek {S T : GS} (h : Still S T) (i : Int) : stPeek i T = stPeek i S := by unfold stPeek; rw [h.ws]
theorem Still.word {S T : GS} (h : Still S T) (b x : Int) : SeeWord b x T = SeeWord b x S := by
  unfold SeeWord gWord
  rw [h.n, h.w, h.r, h.peek]
theorem Still.reg {S T : GS} (h : Still S T) (r : Int) : SeeReg r T = SeeReg r S := h.peek _
theorem Still.root {S T : GS} (h : Still S T) (r : Int) : SeeRoot r T = SeeRoot r S := by
  unfold SeeRoot gRoot
  rw [h.r, h.peek]

theorem stGet_at {i v : Int} {S T : GS} (e : stGet i S = (v, T)) : v = stPeek i S ∧ Still S T := by
  unfold stGet at e
  unfold stPeek
  split at e <;> rename_i h
  · rw [if_pos h]
    cases e
    exact ⟨rfl, ⟨rfl, rfl, rfl, rfl, rfl⟩⟩
  · rw [if_neg h]
    cases e
    exact ⟨rfl, Still.refl _⟩
theorem Reg_at {r v : Int} {S T : GS} (e : Reg r S = (v, T)) : v = SeeReg r S ∧ Still S T := stGet_at e
theorem Root_at {r v : Int} {S T : GS} (e : Root r S = (v, T)) : v = SeeRoot r S ∧ Still S T := stGet_at e
theorem Word_at {b x v : Int} {S T : GS} (e : Word b x S = (v, T)) : v = SeeWord b x S ∧ Still S T := stGet_at e

theorem stPut_at {i v : Int} {ok : Bool} {S T : GS} (e : stPut i v S = (ok, T)) : Alike S T ∧ (ok = true ↔ (0 ≤ i ∧ i < S.ws.length)) ∧ ∀ j, stPeek j T = if ok = true ∧ j = i then v else stPeek j S := by
  unfold stPut at e
  split at e <;> rename_i h
  · cases e
    refine ⟨⟨rfl, rfl, rfl, rfl, by simp⟩, by simp [h], fun j => ?_⟩
    unfold stPeek
    rw [List.length_set]
    by_cases c : j = i
    · subst c
      rw [if_pos h, if_pos ⟨rfl, rfl⟩]
      rw [List.getD_eq_getElem?_getD, List.getElem?_set_self (by omega)]
      rfl
    · rw [if_neg (show ¬ (true = true ∧ j = i) from fun h2 => c h2.2)]
      by_cases h3 : 0 ≤ j ∧ j < S.ws.length
      · rw [if_pos h3, if_pos h3, List.getD_eq_getElem?_getD, List.getD_eq_getElem?_getD, List.getElem?_set_ne (by omega)]
      · rw [if_neg h3, if_neg h3]
  · cases e
    exact ⟨Alike.refl _, by simp [h], fun j => by rw [if_neg (by rintro ⟨h1, _⟩; cases h1)]⟩

/-- A ground's parts do not overlap. -/
theorem gWord_in {b x : Int} {S : GS} (hr : 0 ≤ S.r) : gWord b x S = -1 ∨ (0 ≤ b ∧ b < S.n ∧ 0 ≤ x ∧ x < S.w ∧ gWord b x S = 24 + S.r + b * S.w + x ∧ 24 + S.r ≤ gWord b x S) := by
  unfold gWord gWithin
  by_cases h1 : b < 0
  · rw [if_pos h1]; exact .inl rfl
  rw [if_neg h1]
  by_cases h2 : b ≥ S.n
  · rw [if_pos h2]; exact .inl rfl
  rw [if_neg h2]
  by_cases h3 : x < 0
  · rw [if_pos h3]; exact .inl rfl
  rw [if_neg h3]
  by_cases h4 : x ≥ S.w
  · rw [if_pos h4]; exact .inl rfl
  rw [if_neg h4]
  have : 0 ≤ b * S.w := Int.mul_nonneg (by omega) (by omega)
  exact .inr ⟨by omega, by omega, by omega, by omega, rfl, by omega⟩
theorem gWord_inj {b x b' x' : Int} {S : GS} (hr : 0 ≤ S.r) (h : gWord b x S = gWord b' x' S) (hi : gWord b x S ≠ -1) : b = b' ∧ x = x' := by
  rcases gWord_in (b := b) (x := x) hr with h1 | ⟨b0, b1, x0, x1, e1, _⟩
  · exact absurd h1 hi
  rcases gWord_in (b := b') (x := x') hr with h2 | ⟨c0, c1, y0, y1, e2, _⟩
  · exact absurd (h.trans h2) hi
  have e : b * S.w + x = b' * S.w + x' := by omega
  have hb : b = b' := by
    have k1 : (b * S.w + x) / S.w = b := by
      rw [Int.add_comm, Int.add_mul_ediv_right _ _ (by omega), Int.ediv_eq_zero_of_lt x0 x1]; omega
    have k2 : (b' * S.w + x') / S.w = b' := by
      rw [Int.add_comm, Int.add_mul_ediv_right _ _ (by omega), Int.ediv_eq_zero_of_lt y0 y1]; omega
    rw [← k1, ← k2, e]
  subst hb
  exact ⟨rfl, by omega⟩
theorem gReg_in (r : Int) : gReg r = -1 ∨ (0 ≤ r ∧ r < 24 ∧ gReg r = r) := by
  unfold gReg gWithin
  by_cases h1 : r < 0
  · rw [if_pos h1]; exact .inl rfl
  rw [if_neg h1]
  by_cases h2 : r ≥ 24
  · rw [if_pos h2]; exact .inl rfl
  rw [if_neg h2]
  exact .inr ⟨by omega, by omega, by omega⟩
theorem gRoot_in (i : Int) (S : GS) : gRoot i S = -1 ∨ (0 ≤ i ∧ i < S.r ∧ gRoot i S = 24 + i) := by
  unfold gRoot gWithin
  by_cases h1 : i < 0
  · rw [if_pos h1]; exact .inl rfl
  rw [if_neg h1]
  by_cases h2 : i ≥ S.r
  · rw [if_pos h2]; exact .inl rfl
  rw [if_neg h2]
  exact .inr ⟨by omega, by omega, rfl⟩

theorem Alike.gword {S T : GS} (h : Alike S T) (b x : Int) : gWord b x T = gWord b x S := by unfold gWord; rw [h.n, h.w, h.r]
theorem Alike.groot {S T : GS} (h : Alike S T) (i : Int) : gRoot i T = gRoot i S := by unfold gRoot; rw [h.r]

/-- Behind the write of a block's word. -/
structure PutW (b x v : Int) (ok : Bool) (S T : GS) : Prop where
  alike : Alike S T
  did : ok = true ↔ (0 ≤ gWord b x S ∧ gWord b x S < S.ws.length)
  word : ∀ c y, SeeWord c y T = if ok = true ∧ c = b ∧ y = x then v else SeeWord c y S
  reg : ∀ r, SeeReg r T = SeeReg r S
  root : ∀ r, SeeRoot r T = SeeRoot r S
theorem SetWord_at {b x v : Int} {ok : Bool} {S T : GS} (hr : 0 ≤ S.r) (e : SetWord b x v S = (ok, T)) : PutW b x v ok S T := by
  obtain ⟨h1, h2, h3⟩ := stPut_at (show stPut (gWord b x S) v S = (ok, T) from e)
  have hne : ok = true → gWord b x S ≠ -1 := fun h => by have := h2.1 h; omega
  have hge : ok = true → 24 + S.r ≤ gWord b x S := fun h => by
    rcases gWord_in (b := b) (x := x) hr with h' | ⟨_, _, _, _, _, h'⟩
    · exact absurd h' (hne h)
    · exact h'
  refine ⟨h1, h2, fun c y => ?_, fun r => ?_, fun r => ?_⟩
  · unfold SeeWord
    rw [h1.gword, h3]
    by_cases hok : ok = true
    · by_cases hc : c = b ∧ y = x
      · rw [if_pos ⟨hok, by rw [hc.1, hc.2]⟩, if_pos ⟨hok, hc⟩]
      · rw [if_neg, if_neg (fun h => hc h.2)]
        rintro ⟨_, h⟩
        have := gWord_inj hr h.symm (hne hok)
        exact hc ⟨this.1.symm, this.2.symm⟩
    · rw [if_neg (fun h => hok h.1), if_neg (fun h => hok h.1)]
  · unfold SeeReg
    rw [h3, if_neg]
    rintro ⟨hok, h⟩
    have := hge hok
    rcases gReg_in r with h' | ⟨_, _, h'⟩ <;> omega
  · unfold SeeRoot
    rw [h1.groot, h3, if_neg]
    rintro ⟨hok, h⟩
    have := hge hok
    rcases gRoot_in r S with h' | ⟨_, _, h'⟩ <;> omega

/-- Behind the write of a register. -/
structure PutR (r v : Int) (ok : Bool) (S T : GS) : Prop where
  alike : Alike S T
  reg : ∀ q, SeeReg q T = if ok = true ∧ q = r then v else SeeReg q S
  word : ∀ c y, SeeWord c y T = SeeWord c y S
  root : ∀ r, SeeRoot r T = SeeRoot r S
theorem SetReg_at {r v : Int} {ok : Bool} {S T : GS} (hr : 0 ≤ S.r) (e : SetReg r v S = (ok, T)) : PutR r v ok S T := by
  unfold SetReg gSet at e
  have no : PutR r v false S S := ⟨Alike.refl _, fun q => by rw [if_neg (by rintro ⟨h, _⟩; cases h)], fun _ _ => rfl, fun _ => rfl⟩
  split at e
  · cases e; exact no
  split at e
  · cases e; exact no
  obtain ⟨h1, h2, h3⟩ := stPut_at e
  have hne : ok = true → gReg r ≠ -1 := fun h => by have := h2.1 h; omega
  refine ⟨h1, fun q => ?_, fun c y => ?_, fun q => ?_⟩
  · unfold SeeReg
    rw [h3]
    by_cases hok : ok = true
    · by_cases hc : q = r
      · rw [if_pos ⟨hok, by rw [hc]⟩, if_pos ⟨hok, hc⟩]
      · rw [if_neg, if_neg (fun h => hc h.2)]
        rintro ⟨_, h⟩
        have := hne hok
        rcases gReg_in r with h' | ⟨_, _, h'⟩ <;> rcases gReg_in q with h'' | ⟨_, _, h''⟩ <;> omega
    · rw [if_neg (fun h => hok h.1), if_neg (fun h => hok h.1)]
  · unfold SeeWord
    rw [h1.gword, h3, if_neg]
    rintro ⟨hok, h⟩
    have := hne hok
    rcases gReg_in r with h' | ⟨_, _, h'⟩ <;> rcases gWord_in (b := c) (x := y) hr with h'' | ⟨_, _, _, _, _, h''⟩ <;> omega
  · unfold SeeRoot
    rw [h1.groot, h3, if_neg]
    rintro ⟨hok, h⟩
    have := hne hok
    rcases gReg_in r with h' | ⟨_, _, h'⟩ <;> rcases gRoot_in q S with h'' | ⟨_, _, h''⟩ <;> omega

/-- Behind the write of a root. -/
structure PutO (i v : Int) (ok : Bool) (S T : GS) : Prop where
  alike : Alike S T
  root : ∀ q, SeeRoot q T = if ok = true ∧ q = i then v else SeeRoot q S
  word : ∀ c y, SeeWord c y T = SeeWord c y S
  reg : ∀ r, SeeReg r T = SeeReg r S
theorem SetRoot_at {i v : Int} {ok : Bool} {S T : GS} (hr : 0 ≤ S.r) (e : SetRoot i v S = (ok, T)) : PutO i v ok S T := by
  unfold SetRoot gSet at e
  have no : PutO i v false S S := ⟨Alike.refl _, fun q => by rw [if_neg (by rintro ⟨h, _⟩; cases h)], fun _ _ => rfl, fun _ => rfl⟩
  split at e
  · cases e; exact no
  split at e
  · cases e; exact no
  obtain ⟨h1, h2, h3⟩ := stPut_at e
  have hne : ok = true → gRoot i S ≠ -1 := fun h => by have := h2.1 h; omega
  refine ⟨h1, fun q => ?_, fun c y => ?_, fun q => ?_⟩
  · unfold SeeRoot
    rw [h1.groot, h3]
    by_cases hok : ok = true
    · by_cases hc : q = i
      · rw [if_pos ⟨hok, by rw [hc]⟩, if_pos ⟨hok, hc⟩]
      · rw [if_neg, if_neg (fun h => hc h.2)]
        rintro ⟨_, h⟩
        have := hne hok
        rcases gRoot_in i S with h' | ⟨_, _, h'⟩ <;> rcases gRoot_in q S with h'' | ⟨_, _, h''⟩ <;> omega
    · rw [if_neg (fun h => hok h.1), if_neg (fun h => hok h.1)]
  · unfold SeeWord
    rw [h1.gword, h3, if_neg]
    rintro ⟨hok, h⟩
    have := hne hok
    rcases gRoot_in i S with h' | ⟨_, _, h'⟩ <;> rcases gWord_in (b := c) (x := y) hr with h'' | ⟨_, _, _, _, _, h''⟩ <;> omega
  · unfold SeeReg
    rw [h3, if_neg]
    rintro ⟨hok, h⟩
    have := hne hok
    rcases gRoot_in i S with h' | ⟨_, _, h'⟩ <;> rcases gReg_in q with h'' | ⟨_, _, h''⟩ <;> omega
end Go.Proofs.YtadhdjldcpkfiaaGreatDoor
