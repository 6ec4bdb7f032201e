/- What is seen of a ground without an access, of a heap that is there. Nothing is asked. -/
import Derived.Test.YtadhdjldcpkfiaaGreatDoorS2
import Derived.Test.YtadhdjldcpkfiaaGreatDoorC1
namespace Go.Proofs.YtadhdjldcpkfiaaGreatDoor
set_option linter.unusedVariables false
set_option linter.unusedSimpArgs false
open Go.RowKit
set_option maxRecDepth 100000
set_option maxHeartbeats 1600000

theorem peek_c {A : GA} {S : GS} {w : World} (H : Held A S w) (i : Int) :
    Calls Tryz.prog 198 #[.pointer (some ⟨A.s, 0, none⟩), .int .i64 i] w fun e w' => e = .returned (.int .u32 (stPeek i S)) ∧ w = w' := by
  unfold stPeek
  by_cases c : 0 ≤ i ∧ i < S.ws.length
  · rw [if_pos c]
    have hd : decide (0 ≤ i ∧ i < S.ws.length) = true := by simp [c]
    have HD := Hd.mk hd
    obtain ⟨c1, c2⟩ := c
    clear hd
    have h2 := H.scell
    have h3 : w.cell? ⟨A.a, i.toNat, none⟩ = some (.int .u32 (S.ws.getD i.toNat 0)) := H.acell (by omega)
    go_enter Tryz.func198, Tryz.ntmps198
    go_wp2_with fail
    refine (has_c H i).mono ?_
    rintro _ _ ⟨rfl, rfl⟩
    rw [HD.out]
    go_wp2_with fail
    go_ret
    exact ⟨by simp [show i.toNat < S.ws.length by omega], rfl⟩
  · rw [if_neg c]
    have hd : decide (0 ≤ i ∧ i < S.ws.length) = false := by simp [c]
    have HD := Hd.mk hd
    clear hd c
    go_enter Tryz.func198, Tryz.ntmps198
    go_wp2_with fail
    refine (has_c H i).mono ?_
    rintro _ _ ⟨rfl, rfl⟩
    rw [HD.out]
    go_wp2_with fail
    go_ret
    exact ⟨rfl, rfl⟩
theorem stPeek_range {S : GS} (h : S.Ok) (i : Int) : 0 ≤ stPeek i S ∧ stPeek i S ≤ 4294967295 := by
  unfold stPeek
  split
  · exact h.word _
  · omega
theorem SeeReg_c {A : GA} {S : GS} {w : World} (H : Held A S w) (r : Int) :
    Calls Tryz.prog 115 #[.pointer (some ⟨A.g, 0, none⟩), .int .i64 r] w fun e w' => e = .returned (.int .i64 (SeeReg r S)) ∧ w = w' := by
  have hr := stPeek_range H.ok (gReg r)
  unfold SeeReg
  go_enter Tryz.func115, Tryz.ntmps115
  go_wp2_with fail
  refine (all_c H).mono ?_
  rintro _ _ ⟨rfl, rfl⟩
  go_wp2_with fail
  refine (reg_c _ _).mono ?_
  rintro _ _ ⟨rfl, rfl⟩
  go_wp2_with fail
  refine (peek_c H _).mono ?_
  rintro _ _ ⟨rfl, rfl⟩
  go_wp2_with fail
  go_ret
  exact ⟨by first | rfl | (rw [IntWalk.i64_in _ (by omega)]), rfl⟩
theorem hGround_c {A : GA} {hb : Nat} {S : GS} {w : World} (H : HeapAt A hb S w) :
    Calls Tryz.prog 62 #[.pointer (some ⟨hb, 0, none⟩)] w fun e w' => e = .returned (.pointer (some ⟨A.g, 0, none⟩)) ∧ w = w' := by
  have h0 := H.box.cell 0
  go_enter Tryz.func62, Tryz.ntmps62
  go_wp2_with fail
  go_ret
  exact ⟨rfl, rfl⟩
theorem hClean_c {A : GA} {hb : Nat} {S : GS} {w : World} (H : HeapAt A hb S w) :
    Calls Tryz.prog 60 #[.pointer (some ⟨hb, 0, none⟩)] w fun e w' => e = .returned (.int .i64 (SeeReg 2 S)) ∧ w = w' := by
  go_enter Tryz.func60, Tryz.ntmps60
  go_wp2_with fail
  refine (hGround_c H).mono ?_
  rintro _ _ ⟨rfl, rfl⟩
  go_wp2_with (go_at_call 142; go_in)
  refine (SeeReg_c H.held _).mono ?_
  rintro _ _ ⟨rfl, rfl⟩
  go_wp2_with fail
  first | go_ret | skip
  exact ⟨rfl, rfl⟩
end Go.Proofs.YtadhdjldcpkfiaaGreatDoor
