/- What a ground is, as numbers and a list of words, and what the program's calls do to it: plain functions, without memory and without Go. Nothing is asked. -/
namespace Go.Proofs.YtadhdjldcpkfiaaGreatDoor
set_option linter.unusedVariables false
set_option linter.unusedSimpArgs false

/-- A ground: its configuration, its words, its meter. -/
structure GS where
  n : Int
  w : Int
  r : Int
  k : Int
  ws : List Int
  m : Int
deriving DecidableEq

/-- What each ground that the program makes keeps. -/
structure GS.Ok (S : GS) : Prop where
  n1 : 1 ≤ S.n
  n2 : S.n ≤ 1048576
  w1 : 16 ≤ S.w
  w2 : S.w ≤ 256
  r1 : 1 ≤ S.r
  r2 : S.r ≤ 4096
  k1 : 1 ≤ S.k
  k2 : S.k ≤ 65536
  nw : S.n * S.w ≤ 4194304
  len : (S.ws.length : Int) = 24 + S.r + S.n * S.w
  word : ∀ i, 0 ≤ S.ws.getD i 0 ∧ S.ws.getD i 0 ≤ 4294967295

def GM (α : Type) := GS → α × GS
def GM.bind {α β : Type} (x : GM α) (f : α → GM β) : GM β := fun S => match x S with | (a, T) => f a T
def GM.ret {α : Type} (a : α) : GM α := fun S => (a, S)
instance : Monad GM where
  pure := GM.ret
  bind := GM.bind

theorem GM.bind_eq {α β : Type} {x : GM α} {f : α → GM β} {S T : GS} {b : β} (h : (x >>= f) S = (b, T)) : ∃ a U, x S = (a, U) ∧ f a U = (b, T) :=
  ⟨(x S).1, (x S).2, rfl, h⟩
theorem GM.pure_eq {α : Type} {a b : α} {S T : GS} (h : (pure a : GM α) S = (b, T)) : a = b ∧ S = T := by
  cases h; exact ⟨rfl, rfl⟩

def getS : GM GS := fun S => (S, S)
theorem getS_eq {S c U : GS} (h : getS S = (c, U)) : S = c ∧ c = U := by cases h; exact ⟨rfl, rfl⟩

/-! ### store -/
def GS.tick (S : GS) : GS := { S with m := (S.m + 1) % 18446744073709551616 }
def stGet (i : Int) : GM Int := fun S => if 0 ≤ i ∧ i < S.ws.length then (S.ws.getD i.toNat 0, S.tick) else (0, S)
def stPut (i v : Int) : GM Bool := fun S => if 0 ≤ i ∧ i < S.ws.length then (true, { S with ws := S.ws.set i.toNat v, m := (S.m + 1) % 18446744073709551616 }) else (false, S)
def stPeek (i : Int) (S : GS) : Int := if 0 ≤ i ∧ i < S.ws.length then S.ws.getD i.toNat 0 else 0

/-! ### ground -/
def gWithin (i many frm : Int) : Int := if i < 0 then -1 else if i ≥ many then -1 else frm + i
def gReg (r : Int) : Int := gWithin r 24 0
def gRoot (i : Int) (S : GS) : Int := gWithin i S.r 24
def gWord (b x : Int) (S : GS) : Int := if b < 0 then -1 else if b ≥ S.n then -1 else gWithin x S.w (24 + S.r + b * S.w)
def gSet (at_ v : Int) : GM Bool := if v < 0 then pure false else if v > 4294967295 then pure false else stPut at_ v
def Reg (r : Int) : GM Int := stGet (gReg r)
def SetReg (r v : Int) : GM Bool := gSet (gReg r) v
def Root (i : Int) : GM Int := fun S => stGet (gRoot i S) S
def SetRoot (i v : Int) : GM Bool := fun S => gSet (gRoot i S) v S
def Word (b x : Int) : GM Int := fun S => stGet (gWord b x S) S
def SetWord (b x v : Int) : GM Bool := fun S => stPut (gWord b x S) v S
def SeeReg (r : Int) (S : GS) : Int := stPeek (gReg r) S
def SeeRoot (i : Int) (S : GS) : Int := stPeek (gRoot i S) S
def SeeWord (b x : Int) (S : GS) : Int := stPeek (gWord b x S) S

theorem GS.Ok.tick {S : GS} (h : S.Ok) : S.tick.Ok := ⟨h.n1, h.n2, h.w1, h.w2, h.r1, h.r2, h.k1, h.k2, h.nw, h.len, h.word⟩
theorem GS.Ok.set {S : GS} (h : S.Ok) (i : Nat) (v m : Int) (h0 : 0 ≤ v) (h1 : v ≤ 4294967295) : ({ S with ws := S.ws.set i v, m := m } : GS).Ok :=
  ⟨h.n1, h.n2, h.w1, h.w2, h.r1, h.r2, h.k1, h.k2, h.nw, by simpa using h.len, by
    intro j
    have := h.word j
    simp only [List.getD_eq_getElem?_getD, List.getElem?_set] at *
    split
    · split <;> simp <;> omega
    · exact this⟩
theorem stGet_range {S T : GS} {i v : Int} (h : S.Ok) (e : stGet i S = (v, T)) : 0 ≤ v ∧ v ≤ 4294967295 := by
  unfold stGet at e
  split at e
  · cases e; exact h.word _
  · cases e; omega
end Go.Proofs.YtadhdjldcpkfiaaGreatDoor
