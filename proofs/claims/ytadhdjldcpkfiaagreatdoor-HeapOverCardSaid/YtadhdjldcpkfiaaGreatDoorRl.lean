/- grave.Release ends, whatever the ground: the counts together, then what is left of the first one, grow less. -/
import Derived.Test.YtadhdjldcpkfiaaGreatDoorMb
import Derived.Test.YtadhdjldcpkfiaaGreatDoorT8
namespace Go.Proofs.YtadhdjldcpkfiaaGreatDoor
set_option linter.unusedVariables false
set_option linter.unusedSimpArgs false
open Go.RowKit
set_option maxRecDepth 100000
set_option maxHeartbeats 1600000

theorem sum_le {l : List Nat} {f g : Nat → Nat} (h : ∀ b ∈ l, f b ≤ g b) : (l.map f).sum ≤ (l.map g).sum := by
  induction l with
  | nil => simp
  | cons a l ih =>
    have h1 := h a (by simp)
    have h2 := ih (fun b hb => h b (by simp [hb]))
    simp only [List.map_cons, List.sum_cons]
    omega
theorem sum_lt {l : List Nat} {f g : Nat → Nat} (h : ∀ b ∈ l, f b ≤ g b) {c : Nat} (hc : c ∈ l) (hlt : f c < g c) : (l.map f).sum < (l.map g).sum := by
  induction l with
  | nil => cases hc
  | cons a l ih =>
    have h1 := h a (by simp)
    simp only [List.map_cons, List.sum_cons]
    rcases List.mem_cons.1 hc with rfl | hc
    · have h2 := sum_le (fun b hb => h b (by simp [hb]) : ∀ b ∈ l, f b ≤ g b)
      omega
    · have h2 := ih (fun b hb => h b (by simp [hb])) hc
      omega

/-- All counts together. -/
def c3 (S : GS) : Nat := ((List.range S.n.toNat).map (fun b : Nat => (SeeWord b 3 S).toNat)).sum
theorem c3_le {S T : GS} (h : Alike S T) (k : ∀ b : Int, (SeeWord b 3 T).toNat ≤ (SeeWord b 3 S).toNat) : c3 T ≤ c3 S := by
  unfold c3
  rw [h.n]
  exact sum_le (fun b _ => k b)
theorem c3_lt {S T : GS} (h : Alike S T) (k : ∀ b : Int, (SeeWord b 3 T).toNat ≤ (SeeWord b 3 S).toNat) {c : Int} (c0 : 0 ≤ c) (c1 : c < S.n) (hlt : (SeeWord c 3 T).toNat < (SeeWord c 3 S).toNat) : c3 T < c3 S := by
  unfold c3
  rw [h.n]
  refine sum_lt (fun b _ => k b) (c := c.toNat) (List.mem_range.2 (by omega)) ?_
  rw [Int.toNat_of_nonneg c0]
  exact hlt
theorem Frame.c3 {X Y : List Int} {S T : GS} (h : Frame X Y S T) (h3 : (3 : Int) ∉ X) : c3 T = c3 S := by
  unfold Go.Proofs.YtadhdjldcpkfiaaGreatDoor.c3
  rw [h.alike.n]
  congr 1
  exact List.map_congr_left (fun b _ => by rw [h.word _ _ h3])
/-- What is left of the first one in the grave. -/
def left6 (S : GS) : Nat := (SeeWord (SeeReg 3 S - 1) 6 S).toNat

theorem ctDown_down {x m : Int} {ok : Bool} {S T : GS} (hr : 0 ≤ S.r) (hn : ∀ b, 0 ≤ SeeWord b 3 S) (e : ctDown x S = ((m, ok), T)) : (ok = true → c3 T < c3 S) ∧ Alike S T := by
  have hfr := ctDown_fr x _ _ _ e hr
  refine ⟨fun hok => ?_, hfr.alike⟩
  subst hok
  unfold ctDown at e
  obtain ⟨⟨n1, ok1⟩, U, e1, e⟩ := GM.bind_eq e
  obtain ⟨h, rfl⟩ := GM.pure_eq e
  cases h
  clear e
  unfold ctDownC at e1
  obtain ⟨i, U1, e2, e1⟩ := GM.bind_eq e1
  have f1 := obIs_fr x _ _ _ e2 hr
  cases i with
  | false =>
    rw [if_neg (by decide)] at e1
    obtain ⟨h, _⟩ := GM.pure_eq e1
    cases h
  | true =>
    rw [if_pos rfl] at e1
    obtain ⟨n, U2, e3, e1⟩ := GM.bind_eq e1
    obtain ⟨hv, hs⟩ := Word_at e3
    by_cases c : n = 0
    · rw [if_pos c] at e1
      obtain ⟨h, _⟩ := GM.pure_eq e1
      cases h
    · rw [if_neg c] at e1
      obtain ⟨q, U3, e4, e1⟩ := GM.bind_eq e1
      obtain ⟨h, rfl⟩ := GM.pure_eq e1
      have hw0 : SeeWord (x - 1) 3 U1 = SeeWord (x - 1) 3 S := f1.word _ _ (by decide)
      have hr1 : 0 ≤ U1.r := by rw [f1.alike.r]; exact hr
      have hr2 : 0 ≤ U2.r := by rw [hs.r]; exact hr1
      have k := SetWord_at hr2 e4
      have hn1 := hn (x - 1)
      have hpos : 0 < n := by omega
      -- the place is there
      have hin : 0 ≤ gWord (x - 1) 3 U1 ∧ gWord (x - 1) 3 U1 < U1.ws.length := by
        have hv' := hv
        unfold SeeWord stPeek at hv'
        split at hv'
        · assumption
        · omega
      have hq : q = true := k.did.2 (by rw [hs.alike.gword, hs.ws]; exact hin)
      subst hq
      rcases gWord_in (b := x - 1) (x := 3) hr1 with h' | ⟨b0, b1, _⟩
      · omega
      have hword : ∀ b y, SeeWord b y U3 = if b = x - 1 ∧ y = 3 then n + -1 else SeeWord b y S := by
        intro b y
        rw [k.word]
        by_cases hb : b = x - 1 ∧ y = 3
        · rw [if_pos ⟨rfl, hb⟩, if_pos hb]
        · rw [if_neg (fun h => hb h.2), if_neg hb, hs.word, f1.word _ _ (by simp)]
      refine c3_lt hfr.alike (fun b => ?_) (c := x - 1) b0 (by rw [← f1.alike.n]; exact b1) ?_
      · rw [hword]
        split
        · rename_i hb
          rw [hb.1]
          omega
        · exact Nat.le_refl _
      · rw [hword, if_pos ⟨rfl, rfl⟩]
        omega

/-- SetPtr of nought: some word is nought behind, at most. -/
theorem obSetPtr_zero {r i er : Int} {S T : GS} (hr : 0 ≤ S.r) (e : obSetPtr r i 0 S = (er, T)) : Alike S T ∧ (∀ b x, SeeWord b x T = SeeWord b x S ∨ SeeWord b x T = 0) ∧ (∀ q, SeeReg q T = SeeReg q S) := by
  unfold obSetPtr at e
  obtain ⟨⟨b, x, er1⟩, U, e1, e⟩ := GM.bind_eq e
  have f1 := obField_fr r i false _ _ _ e1 hr
  have keep : Alike S U ∧ (∀ b x, SeeWord b x U = SeeWord b x S ∨ SeeWord b x U = 0) ∧ (∀ q, SeeReg q U = SeeReg q S) := ⟨f1.alike, fun b x => .inl (f1.word b x (by simp)), fun q => f1.reg q (by simp)⟩
  by_cases c : er1 = 0
  · simp only [c, if_true] at e
    rw [if_neg (by decide)] at e
    obtain ⟨cf, U1, e2, e⟩ := GM.bind_eq e
    obtain ⟨rfl, rfl⟩ := getS_eq e2
    by_cases c2 : (0 : Int) > U.n
    · rw [if_pos c2] at e
      obtain ⟨_, rfl⟩ := GM.pure_eq e
      exact keep
    · rw [if_neg c2] at e
      obtain ⟨q, U3, e4, e⟩ := GM.bind_eq e
      obtain ⟨_, rfl⟩ := GM.pure_eq e
      have k := SetWord_at (by rw [f1.alike.r]; exact hr) e4
      refine ⟨f1.alike.trans k.alike, fun c y => ?_, fun q => (k.reg q).trans (keep.2.2 q)⟩
      rw [k.word]
      split
      · exact .inr rfl
      · exact keep.2.1 c y
  · simp only [c, if_false] at e
    obtain ⟨_, rfl⟩ := GM.pure_eq e
    exact keep

theorem nn_of_fr {X Y : List Int} {S T : GS} (h : Frame X Y S T) (hX : (3 : Int) ∉ X) (k : ∀ b, 0 ≤ SeeWord b 3 S) : ∀ b, 0 ≤ SeeWord b 3 T := by
  intro b
  rw [h.word b 3 hX]
  exact k b
theorem gvDrain_less {r i : Int} {S T : GS} (hr : 0 ≤ S.r) (hn : ∀ b, 0 ≤ SeeWord b 3 S) (e : gvDrain r i S = ((), T)) :
    Alike S T ∧ (c3 T < c3 S ∨ (c3 T ≤ c3 S ∧ SeeReg 3 T = SeeReg 3 S ∧ ∀ b, (SeeWord b 6 T).toNat ≤ (SeeWord b 6 S).toNat)) := by
  unfold gvDrain at e
  obtain ⟨⟨x, er⟩, S1, e1, e⟩ := GM.bind_eq e
  have f1 := obPtr_fr r i _ _ _ e1 hr
  have hr1 : 0 ≤ S1.r := by rw [f1.alike.r]; exact hr
  have n1 := nn_of_fr f1 (by simp) hn
  have keep1 : Alike S S1 ∧ (c3 S1 < c3 S ∨ (c3 S1 ≤ c3 S ∧ SeeReg 3 S1 = SeeReg 3 S ∧ ∀ b, (SeeWord b 6 S1).toNat ≤ (SeeWord b 6 S).toNat)) :=
    ⟨f1.alike, .inr ⟨Nat.le_of_eq (f1.c3 (by simp)), f1.reg _ (by simp), fun b => by rw [f1.word _ _ (by simp)]; exact Nat.le_refl _⟩⟩
  by_cases c : ¬ er = 0
  · simp only [c, if_false] at e
    obtain ⟨_, rfl⟩ := GM.pure_eq e
    exact keep1
  have c' : er = 0 := Decidable.not_not.1 c
  simp only [c', if_true] at e
  by_cases cx : x = 0
  · rw [if_pos cx] at e
    obtain ⟨_, rfl⟩ := GM.pure_eq e
    exact keep1
  rw [if_neg cx] at e
  obtain ⟨er2, S2, e2, e⟩ := GM.bind_eq e
  obtain ⟨a2, w2, r2⟩ := obSetPtr_zero hr1 e2
  have hr2 : 0 ≤ S2.r := by rw [a2.r]; exact hr1
  have n2 : ∀ b, 0 ≤ SeeWord b 3 S2 := fun b => by
    rcases w2 b 3 with h | h
    · rw [h]; exact n1 b
    · omega
  have le2 : ∀ b y, (SeeWord b y S2).toNat ≤ (SeeWord b y S1).toNat := fun b y => by
    rcases w2 b y with h | h
    · rw [h]; exact Nat.le_refl _
    · rw [h]; simp
  have keep2 : Alike S S2 ∧ (c3 S2 < c3 S ∨ (c3 S2 ≤ c3 S ∧ SeeReg 3 S2 = SeeReg 3 S ∧ ∀ b, (SeeWord b 6 S2).toNat ≤ (SeeWord b 6 S).toNat)) := by
    refine ⟨f1.alike.trans a2, .inr ⟨?_, (r2 3).trans (f1.reg _ (by simp)), fun b => ?_⟩⟩
    · have := c3_le a2 (fun b => le2 b 3)
      rw [f1.c3 (by simp)] at this
      exact this
    · have := le2 b 6
      rwa [f1.word _ _ (by simp)] at this
  have hc2 : c3 S2 ≤ c3 S := by rcases keep2.2 with h | h <;> omega
  obtain ⟨q, S3, e3, e⟩ := GM.bind_eq e
  have f3 := ctOf_fr x _ _ _ e3 hr2
  have more : ∀ {U V : GS} {X : List Int}, Alike S U ∧ (c3 U < c3 S ∨ (c3 U ≤ c3 S ∧ SeeReg 3 U = SeeReg 3 S ∧ ∀ b, (SeeWord b 6 U).toNat ≤ (SeeWord b 6 S).toNat)) → Frame X [] U V → (3 : Int) ∉ X → (6 : Int) ∉ X →
      Alike S V ∧ (c3 V < c3 S ∨ (c3 V ≤ c3 S ∧ SeeReg 3 V = SeeReg 3 S ∧ ∀ b, (SeeWord b 6 V).toNat ≤ (SeeWord b 6 S).toNat)) := by
    intro U V X h f h3 h6
    refine ⟨h.1.trans f.alike, ?_⟩
    rw [f.c3 h3, f.reg _ (by simp)]
    rcases h.2 with h' | h'
    · exact .inl h'
    · exact .inr ⟨h'.1, h'.2.1, fun b => by rw [f.word _ _ h6]; exact h'.2.2 b⟩
  have keep3 := more keep2 f3 (by simp) (by simp)
  have n3 := nn_of_fr f3 (by simp) n2
  have hr3 : 0 ≤ S3.r := by rw [f3.alike.r]; exact hr2
  by_cases cq : q = 0
  · rw [if_pos cq] at e
    obtain ⟨_, rfl⟩ := GM.pure_eq e
    exact keep3
  rw [if_neg cq] at e
  obtain ⟨cd, S4, e4, e⟩ := GM.bind_eq e
  have f4 := tiCounted_fr r i _ _ _ e4 hr3
  have keep4 := more keep3 f4 (by simp) (by simp)
  have n4 := nn_of_fr f4 (by simp) n3
  have hr4 : 0 ≤ S4.r := by rw [f4.alike.r]; exact hr3
  -- from here on: one count less, or nothing
  have fin : ∀ {U : GS}, 0 ≤ U.r → (∀ b, 0 ≤ SeeWord b 3 U) → (Alike S U ∧ (c3 U < c3 S ∨ (c3 U ≤ c3 S ∧ SeeReg 3 U = SeeReg 3 S ∧ ∀ b, (SeeWord b 6 U).toNat ≤ (SeeWord b 6 S).toNat))) →
      (ctDown x >>= fun (p : Int × Bool) => match p with | ⟨m, ok⟩ => if ok = true then (if m = 0 then gvBury x >>= fun _ => (pure () : GM Unit) else pure ()) else pure ()) U = ((), T) →
      Alike S T ∧ (c3 T < c3 S ∨ (c3 T ≤ c3 S ∧ SeeReg 3 T = SeeReg 3 S ∧ ∀ b, (SeeWord b 6 T).toNat ≤ (SeeWord b 6 S).toNat)) := by
    intro U hrU nU kU eU
    obtain ⟨⟨m, ok⟩, V, e5, eU⟩ := GM.bind_eq eU
    obtain ⟨hdn, hal⟩ := ctDown_down hrU nU e5
    have hcU : c3 U ≤ c3 S := by rcases kU.2 with h | h <;> omega
    have hrV : 0 ≤ V.r := by rw [hal.r]; exact hrU
    cases ok with
    | false =>
      simp only [Bool.false_eq_true, if_false] at eU
      obtain ⟨_, rfl⟩ := GM.pure_eq eU
      -- nothing was written: ctDown told false
      have hst : Frame [] [] U V := by
        unfold ctDown at e5
        obtain ⟨⟨n1, ok1⟩, U', e5, e6⟩ := GM.bind_eq e5
        obtain ⟨h, rfl⟩ := GM.pure_eq e6
        cases h
        unfold ctDownC at e5
        obtain ⟨ii, U1, e7, e5⟩ := GM.bind_eq e5
        have g1 := obIs_fr x _ _ _ e7 hrU
        cases ii with
        | false =>
          rw [if_neg (by decide)] at e5
          obtain ⟨_, rfl⟩ := GM.pure_eq e5
          exact g1
        | true =>
          rw [if_pos rfl] at e5
          obtain ⟨n, U2, e8, e5⟩ := GM.bind_eq e5
          have g2 := Word_fr (X := []) (Y := []) (x - 1) 3 _ _ _ e8
          have g12 := (Fr.pre [] []).trans (fun _ => g1) g2 hrU
          by_cases c : n = 0
          · rw [if_pos c] at e5
            obtain ⟨_, rfl⟩ := GM.pure_eq e5
            exact g12
          · rw [if_neg c] at e5
            obtain ⟨q', U3, e9, e5⟩ := GM.bind_eq e5
            obtain ⟨h, _⟩ := GM.pure_eq e5
            cases h
      exact more kU hst (by simp) (by simp)
    | true =>
      simp only [if_true] at eU
      have hlt := hdn rfl
      by_cases cm : m = 0
      · rw [if_pos cm] at eU
        obtain ⟨bb, V2, e6, eU⟩ := GM.bind_eq eU
        obtain ⟨_, rfl⟩ := GM.pure_eq eU
        have g := gvBury_fr x _ _ _ e6 hrV
        refine ⟨(kU.1.trans hal).trans g.alike, .inl ?_⟩
        rw [g.c3 (by decide)]
        omega
      · rw [if_neg cm] at eU
        obtain ⟨_, rfl⟩ := GM.pure_eq eU
        exact ⟨kU.1.trans hal, .inl (by omega)⟩
  cases cd with
  | false =>
    simp only [Bool.false_eq_true, if_false] at e
    exact fin hr4 n4 keep4 e
  | true =>
    simp only [if_true] at e
    obtain ⟨z, S5, e5, e⟩ := GM.bind_eq e
    have f5 := tiLighten_fr x _ _ _ e5 hr4
    have keep5 := more keep4 (show Frame [4] [] S4 S5 from f5) (by decide) (by decide)
    exact fin (by rw [f5.alike.r]; exact hr4) (nn_of_fr (show Frame [4] [] S4 S5 from f5) (by decide) n4) keep5 e

/-- What grows less. -/
def ms (S : GS) : Nat := c3 S * 4294967296 + left6 S
theorem ms_lt {S T : GS} (hT6 : left6 T < 4294967296) (h : c3 T < c3 S ∨ (c3 T ≤ c3 S ∧ left6 T < left6 S)) : ms T < ms S := by
  unfold ms
  generalize c3 T = a at *
  generalize c3 S = b at *
  generalize left6 T = c at *
  generalize left6 S = d at *
  omega
theorem gvWork_less {S T : GS} (h : S.Ok) (h' : T.Ok) (e : gvWork S = ((false, true), T)) : ms T < ms S := by
  have hr : 0 ≤ S.r := by have := h.r1; omega
  have hw : ∀ {U : GS}, U.Ok → ∀ b y, 0 ≤ SeeWord b y U ∧ SeeWord b y U ≤ 4294967295 := fun hU b y => by
    unfold SeeWord stPeek
    split
    · exact hU.word _
    · omega
  have hT6 : left6 T < 4294967296 := by
    have := hw h' (SeeReg 3 T - 1) 6
    unfold left6
    omega
  -- the step that empties a field
  have key : ∀ {b n : Int} {U V : GS}, Still S U → 0 < n → n = SeeWord b 6 S → b = SeeReg 3 S - 1 → (SetWord b 6 (n - 1) >>= fun _ => gvDrain (b + 1) (n - 1) >>= fun _ => (pure (false, true) : GM (Bool × Bool))) U = ((false, true), T) → ms T < ms S := by
    intro b n U V hs hn hn6 hb eU
    obtain ⟨q, U1, e1, eU⟩ := GM.bind_eq eU
    obtain ⟨⟨⟩, U2, e2, eU⟩ := GM.bind_eq eU
    obtain ⟨_, rfl⟩ := GM.pure_eq eU
    have hrU : 0 ≤ U.r := by rw [hs.r]; exact hr
    have k := SetWord_at hrU e1
    have hin : 0 ≤ gWord b 6 U ∧ gWord b 6 U < U.ws.length := by
      have hv : SeeWord b 6 U = n := by rw [hs.word, ← hn6]
      unfold SeeWord stPeek at hv
      split at hv
      · assumption
      · omega
    have hq : q = true := k.did.2 hin
    subst hq
    have hr1 : 0 ≤ U1.r := by rw [k.alike.r]; exact hrU
    have w3 : ∀ c, SeeWord c 3 U1 = SeeWord c 3 S := fun c => by rw [k.word, if_neg (by simp), hs.word]
    have h3 : c3 U1 = c3 S := by
      unfold c3
      rw [k.alike.n, hs.n]
      congr 1
      exact List.map_congr_left (fun c _ => by rw [w3])
    obtain ⟨al, hd⟩ := gvDrain_less hr1 (fun c => by rw [w3]; exact (hw h c 3).1) e2
    refine ms_lt hT6 ?_
    rcases hd with hd | ⟨hd, hreg, h6⟩
    · exact .inl (by rw [← h3]; exact hd)
    · refine .inr ⟨by rw [← h3]; exact hd, ?_⟩
      unfold left6
      rw [hreg, k.reg, hs.reg]
      have := h6 (SeeReg 3 S - 1)
      rw [k.word, if_pos ⟨rfl, hb.symm, rfl⟩] at this
      rw [← hb, ← hn6]
      rw [← hb] at this
      omega
  unfold gvWork at e
  obtain ⟨⟨b, ok⟩, S1, e1, e⟩ := GM.bind_eq e
  unfold chFirst at e1
  obtain ⟨nm, S1', e2, e1⟩ := GM.bind_eq e1
  obtain ⟨hv, hs⟩ := Reg_at e2
  by_cases c' : ¬ nm > 0
  · rw [if_neg c'] at e1
    obtain ⟨hh, rfl⟩ := GM.pure_eq e1
    cases hh
    simp only [Bool.false_eq_true, if_false] at e
    obtain ⟨hh, _⟩ := GM.pure_eq e
    cases hh
  have c : nm > 0 := Decidable.not_not.1 c'
  rw [if_pos c] at e1
  obtain ⟨hh, rfl⟩ := GM.pure_eq e1
  cases hh
  simp only [if_true] at e
  obtain ⟨n, S2, e3, e⟩ := GM.bind_eq e
  obtain ⟨hn, hs2⟩ := Word_at e3
  obtain ⟨l, S3, e4, e⟩ := GM.bind_eq e
  obtain ⟨hl, hs3⟩ := Word_at e4
  have st := (hs.trans hs2).trans hs3
  have hn6 : n = SeeWord (nm - 1) 6 S := by rw [hn, hs.word]
  have hb : nm - 1 = SeeReg 3 S - 1 := by rw [hv]; rfl
  by_cases cl : l > 0
  · rw [if_pos cl] at e
    obtain ⟨cf, S4, e5, e⟩ := GM.bind_eq e
    obtain ⟨rfl, rfl⟩ := getS_eq e5
    by_cases cn : n > (l - 1) * (S3.w - 1)
    · rw [if_pos cn] at e
      have hw1 : 16 ≤ S3.w := by rw [st.w]; exact h.w1
      have : 0 ≤ (l - 1) * (S3.w - 1) := Int.mul_nonneg (by omega) (by omega)
      exact key (V := T) st (by omega) hn6 hb e
    · rw [if_neg cn] at e
      obtain ⟨_, S5, _, e⟩ := GM.bind_eq e
      obtain ⟨_, S6, _, e⟩ := GM.bind_eq e
      obtain ⟨_, S7, _, e⟩ := GM.bind_eq e
      obtain ⟨_, S8, _, e⟩ := GM.bind_eq e
      obtain ⟨hh, _⟩ := GM.pure_eq e
      cases hh
  · rw [if_neg cl] at e
    by_cases cn : n > 0
    · rw [if_pos cn] at e
      exact key (V := T) st cn hn6 hb e
    · rw [if_neg cn] at e
      obtain ⟨_, S5, _, e⟩ := GM.bind_eq e
      obtain ⟨_, S6, _, e⟩ := GM.bind_eq e
      obtain ⟨⟨_, _⟩, S7, _, e⟩ := GM.bind_eq e
      obtain ⟨_, S8, _, e⟩ := GM.bind_eq e
      obtain ⟨hh, _⟩ := GM.pure_eq e
      cases hh

/-- Steps of the grave till one gave a block; with too few steps, false. -/
def gvRelF : Nat → GS → Bool × GS
  | 0, S => (false, S)
  | k + 1, S => match gvWork S with
    | ((gave, ok), T) => if ok = false then (gave, T) else if gave = true then (gave, T) else gvRelF k T
def gvRelease : GM Bool := fun S => gvRelF (ms S + 1) S
theorem gvReleaseT_c {A : GA} {S : GS} {w : World} (H : Held A S w) {b : Bool} {T : GS} (e : gvRelease S = (b, T)) :
    Calls Tryz.prog 34 #[.pointer (some ⟨A.g, 0, none⟩)] w (Did A w (.bool b) T) := by
  unfold gvRelease at e
  obtain ⟨k, hk⟩ : ∃ k, ms S + 1 = k := ⟨_, rfl⟩
  rw [hk] at e
  have E := Hd.mk e
  have HK := Hd.mk (show ms S < k by omega)
  clear e hk
  go_enter Tryz.func34, Tryz.ntmps34
  go_wp2_with fail
  go_loopg [2] k (fun g s wr => s = .bool false ∧ ∃ U, Held A U wr ∧ gvRelF g U = (b, T) ∧ Hd (ms U < g) ∧ Stays A.foot w wr)
  case atStart => exact ⟨rfl, S, H, E.out, HK, Stays.refl _ _⟩
  case round =>
    obtain ⟨rfl, U, HU, hU, HM, KU⟩ := hrel
    cases gk with
    | zero => exact absurd HM.out (Nat.not_lt_zero _)
    | succ m =>
      obtain ⟨gave, ok, V, hw⟩ : ∃ gave ok V, gvWork U = ((gave, ok), V) := ⟨_, _, _, rfl⟩
      have hU' : (if ok = false then (gave, V) else if gave = true then (gave, V) else gvRelF m V) = (b, T) := by
        have h := hU
        unfold gvRelF at h
        rw [hw] at h
        exact h
      have HW := Hd.mk hw
      clear hU hw
      cases ok with
      | false =>
        rw [if_pos rfl] at hU'
        cases hU'
        go_wp2_with fail
        refine (gvWork_c HU HW.out).mono ?_
        rintro _ w1 ⟨rfl, H1, K1⟩
        go_wp2_with fail
        go_ret
        exact ⟨rfl, H1, KU.trans K1⟩
      | true =>
        rw [if_neg (by decide)] at hU'
        cases gave with
        | true =>
          rw [if_pos rfl] at hU'
          cases hU'
          go_wp2_with fail
          refine (gvWork_c HU HW.out).mono ?_
          rintro _ w1 ⟨rfl, H1, K1⟩
          go_wp2_with fail
          go_ret
          exact ⟨rfl, H1, KU.trans K1⟩
        | false =>
          rw [if_neg (by decide)] at hU'
          have HH := Hd.mk hU'
          clear hU'
          go_wp2_with fail
          refine (gvWork_c HU HW.out).mono ?_
          rintro _ w1 ⟨rfl, H1, K1⟩
          have HL := Hd.mk (Nat.lt_of_lt_of_le (gvWork_less HU.ok H1.ok HW.out) (Nat.le_of_lt_succ HM.out))
          go_wp2_with fail
          go_roundg m
          case measure => omega
          case rel => exact ⟨rfl, V, H1, HH.out, HL, KU.trans K1⟩

theorem paFreeT_tt {A : GA} {S : GS} {w : World} (H : Held A S w) {reg n v0 : Int} {T : GS} (hn : n ≤ 1099511627776) (e : paTimes gvRelease reg n S = (v0, T)) :
    Calls Tryz.prog 130 #[.pointer (some ⟨A.g, 0, none⟩), .int .i64 reg, .int .i64 n, .func (.func 34) #[] #[]] w (Did A w (.int .i64 v0) T) := by
  unfold paTimes at e
  replace e := GM.bind_eq e
  obtain ⟨kk, S1, e1, e⟩ := e
  have E1 := Hd.mk e1
  have E := Hd.mk e
  clear e e1
  go_enter Tryz.func130, Tryz.ntmps130
  go_wp2_with fail
  go_loopg [9] n.toNat (fun g s wr => ∃ j : Nat, s = .int .i64 j ∧ g = n.toNat - j ∧ j ≤ n.toNat ∧ ∃ U, Held A U wr ∧ timesL gvRelease (n.toNat - j) j U = (kk, S1) ∧ Stays A.foot w wr)
  case atStart => exact ⟨0, rfl, rfl, Nat.zero_le _, S, H, E1.out, Stays.refl _ _⟩
  case round =>
    obtain ⟨j, rfl, hg, hj, U, HU, hU, KU⟩ := hrel
    have HG := Hd.mk hg
    clear hg
    have key : ∀ {w2 : World} {U2 : GS}, True := fun {_ _} => trivial
    by_cases hlt : (j : Int) < n
    · obtain ⟨m, hm⟩ : ∃ m, n.toNat - j = m + 1 := ⟨n.toNat - j - 1, by omega⟩
      rw [hm] at hU
      have HM := Hd.mk hm
      clear hm
      obtain ⟨b, V, h1, h2⟩ := GM.bind_eq hU
      have H1' := Hd.mk h1
      clear hU h1
      cases b with
      | true =>
        rw [if_pos rfl] at h2
        have H2' := Hd.mk h2
        clear h2
        go_wp2_with fail
        refine (gvReleaseT_c HU H1'.out).mono ?_
        rintro _ w1 ⟨rfl, H1, K1⟩
        go_wp2_with fail
        go_roundg m
        case measure => have := HG.out; have := HM.out; omega
        case rel => exact ⟨j + 1, by go_num, by have := HM.out; omega, by omega, V, H1, by rw [show n.toNat - (j + 1) = m by have := HM.out; omega]; exact H2'.out, KU.trans K1⟩
      | false =>
        rw [if_neg (by decide)] at h2
        have h3 : (j : Int) = kk ∧ V = S1 := GM.pure_eq h2
        obtain ⟨rfl, rfl⟩ := h3
        clear h2
        have e := E.out
        by_cases hk : (j : Int) > 0
        · rw [if_pos hk] at e
          replace e := GM.bind_eq e
          obtain ⟨v, S2, e2, e⟩ := e
          replace e := GM.bind_eq e
          obtain ⟨u, S3, e3, e⟩ := e
          obtain ⟨rfl, rfl⟩ := GM.pure_eq e
          have E2 := Hd.mk e2
          have E3 := Hd.mk e3
          clear e e2 e3
          go_wp2_with fail
          refine (gvReleaseT_c HU H1'.out).mono ?_
          rintro _ w1 ⟨rfl, H1, K1⟩
          go_wp2_with fail
          refine (Reg_c H1 E2.out).mono ?_
          rintro _ w2 ⟨rfl, H2, K2⟩
          obtain ⟨rv0, rv1⟩ := stGet_range H1.ok E2.out
          go_wp2_with fail
          refine (SetReg_c H2 E3.out).mono ?_
          rintro _ w3 ⟨rfl, H3, K3⟩
          go_wp2_with fail
          go_ret
          exact ⟨rfl, H3, ((KU.trans K1).trans K2).trans K3⟩
        · rw [if_neg hk] at e
          obtain ⟨rfl, rfl⟩ := GM.pure_eq e
          clear e
          go_wp2_with fail
          refine (gvReleaseT_c HU H1'.out).mono ?_
          rintro _ w1 ⟨rfl, H1, K1⟩
          go_wp2_with fail
          go_ret
          exact ⟨rfl, H1, KU.trans K1⟩
    · rw [show n.toNat - j = 0 by omega] at hU
      have h3 : (j : Int) = kk ∧ U = S1 := GM.pure_eq hU
      obtain ⟨rfl, rfl⟩ := h3
      clear hU
      have e := E.out
      by_cases hk : (j : Int) > 0
      · rw [if_pos hk] at e
        replace e := GM.bind_eq e
        obtain ⟨v, S2, e2, e⟩ := e
        replace e := GM.bind_eq e
        obtain ⟨u, S3, e3, e⟩ := e
        obtain ⟨rfl, rfl⟩ := GM.pure_eq e
        have E2 := Hd.mk e2
        have E3 := Hd.mk e3
        clear e e2 e3
        go_wp2_with fail
        refine (Reg_c HU E2.out).mono ?_
        rintro _ w2 ⟨rfl, H2, K2⟩
        obtain ⟨rv0, rv1⟩ := stGet_range HU.ok E2.out
        go_wp2_with fail
        refine (SetReg_c H2 E3.out).mono ?_
        rintro _ w3 ⟨rfl, H3, K3⟩
        go_wp2_with fail
        go_ret
        exact ⟨rfl, H3, (KU.trans K2).trans K3⟩
      · rw [if_neg hk] at e
        obtain ⟨rfl, rfl⟩ := GM.pure_eq e
        clear e
        go_wp2_with fail
        go_ret
        exact ⟨rfl, HU, KU⟩

def paFree (n : Int) : GM Int := paTimes gvRelease 21 n
theorem paFree_c {A : GA} {S : GS} {w : World} (H : Held A S w) {n v0 : Int} {T : GS} (hn : n ≤ 1099511627776) (e : paFree n S = (v0, T)) :
    Calls Tryz.prog 56 #[.pointer (some ⟨A.g, 0, none⟩), .int .i64 n] w (Did A w (.int .i64 v0) T) := by
  go_enter Tryz.func56, Tryz.ntmps56
  go_wp2_with fail
  refine (paFreeT_tt H hn e).mono ?_
  rintro _ w1 ⟨rfl, H1, K1⟩
  go_wp2_with fail
  go_ret
  exact ⟨rfl, H1, K1⟩

end Go.Proofs.YtadhdjldcpkfiaaGreatDoor
