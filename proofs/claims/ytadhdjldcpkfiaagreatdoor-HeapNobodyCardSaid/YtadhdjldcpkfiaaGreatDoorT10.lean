/- What link.Born does. Nothing is asked but that the ground lies there. -/
import Derived.Test.YtadhdjldcpkfiaaGreatDoorT9
namespace Go.Proofs.YtadhdjldcpkfiaaGreatDoor
set_option linter.unusedVariables false
set_option linter.unusedSimpArgs false
open Go.RowKit
set_option maxRecDepth 100000
set_option maxHeartbeats 1600000
def lkBorn (p : Int) (d : Int) : GM (Int × Int) :=
  obMake p d >>= fun ⟨r, er⟩ =>
  if er = 0 then
    tiDye r >>= fun y =>
    ctUp r >>= fun ⟨a, b⟩ =>
    pure (r, 0)
  else
    pure (0, er)

theorem lkBorn_c {A : GA} {S : GS} {w : World} (H : Held A S w) {p : Int} {d : Int} {v0 : Int} {v1 : Int} {T : GS} (e : lkBorn p d S = ((v0, v1), T)) :
    Calls Tryz.prog 19 #[.pointer (some ⟨A.g, 0, none⟩), .int .i64 p, .int .i64 d] w (Did A w (.tuple #[.int .i64 v0, .int .i64 v1]) T) := by
  unfold lkBorn at e
  replace e := GM.bind_eq e; obtain ⟨⟨r, er⟩, S1, e1_, e⟩ := e; have e1 := Hd.mk e1_; clear e1_
  try dsimp only at e
  by_cases c2 : er = 0
  · rw [if_pos c2] at e; subst c2
    replace e := GM.bind_eq e; obtain ⟨y, S3, e3_, e⟩ := e; have e3 := Hd.mk e3_; clear e3_
    replace e := GM.bind_eq e; obtain ⟨⟨a, b⟩, S4, e4_, e⟩ := e; have e4 := Hd.mk e4_; clear e4_
    try dsimp only at e
    obtain ⟨hv, rfl⟩ := GM.pure_eq e
    cases hv
    go_enter Tryz.func19, Tryz.ntmps19
    go_wp2_with fail
    with_reducible refine (obMake_c (by repeat (first | with_reducible exact H | with_reducible apply Held.alloc | with_reducible apply Held.drew | with_reducible apply Held.drewN)) e1.out).mono ?_
    rintro _ w1 ⟨rfl, H1, K1⟩
    go_wp2_with fail
    with_reducible refine (tiDye_c (by repeat (first | with_reducible exact H1 | with_reducible apply Held.alloc | with_reducible apply Held.drew | with_reducible apply Held.drewN)) e3.out).mono ?_
    rintro _ w3 ⟨rfl, H3, K3⟩
    go_wp2_with fail
    with_reducible refine (ctUp_c (by repeat (first | with_reducible exact H3 | with_reducible apply Held.alloc | with_reducible apply Held.drew | with_reducible apply Held.drewN)) e4.out).mono ?_
    rintro _ w4 ⟨rfl, H4, K4⟩
    go_wp2_with fail
    go_ret2
    exact ⟨by first | rfl | (simp; done) | (simp [*]; done), (by repeat (first | with_reducible exact H4 | with_reducible apply Held.alloc | with_reducible apply Held.drew | with_reducible apply Held.drewN)), by
      repeat (first | with_reducible apply Stays.alloc | with_reducible apply Stays.drew | with_reducible apply Stays.drewN)
      refine Stays.trans ?_ K4
      repeat (first | with_reducible apply Stays.alloc | with_reducible apply Stays.drew | with_reducible apply Stays.drewN)
      refine Stays.trans ?_ K3
      repeat (first | with_reducible apply Stays.alloc | with_reducible apply Stays.drew | with_reducible apply Stays.drewN)
      refine Stays.trans ?_ K1
      repeat (first | with_reducible apply Stays.alloc | with_reducible apply Stays.drew | with_reducible apply Stays.drewN)
      exact Stays.refl _ _⟩
  · rw [if_neg c2] at e; have c2b : (er == 0) = false := beq_eq_false_iff_ne.2 c2; have c2n : (er != 0) = true := bne_iff_ne.2 c2
    obtain ⟨hv, rfl⟩ := GM.pure_eq e
    cases hv
    go_enter Tryz.func19, Tryz.ntmps19
    go_wp2_with fail
    with_reducible refine (obMake_c (by repeat (first | with_reducible exact H | with_reducible apply Held.alloc | with_reducible apply Held.drew | with_reducible apply Held.drewN)) e1.out).mono ?_
    rintro _ w1 ⟨rfl, H1, K1⟩
    go_wp2_with fail
    go_ret2
    exact ⟨by first | rfl | (simp; done) | (simp [*]; done), (by repeat (first | with_reducible exact H1 | with_reducible apply Held.alloc | with_reducible apply Held.drew | with_reducible apply Held.drewN)), by
      repeat (first | with_reducible apply Stays.alloc | with_reducible apply Stays.drew | with_reducible apply Stays.drewN)
      refine Stays.trans ?_ K1
      repeat (first | with_reducible apply Stays.alloc | with_reducible apply Stays.drew | with_reducible apply Stays.drewN)
      exact Stays.refl _ _⟩
/-- The ground that New makes. -/
def gsNew (n w r k : Int) : GS := ⟨n, w, r, k, List.replicate (24 + r + n * w).toNat 0, 0⟩
/-- LinkNobody's example, by the plain functions. -/
def exLink : GM Bool := poOpen >>= fun _ => lkBorn 1 0 >>= fun x => lkSuspect >>= fun s => lkPut x.1 0 x.1 >>= fun e => ctOf x.1 >>= fun c => lkLet x.1 >>= fun l =>
  lkGet x.1 0 >>= fun y => ctOf x.1 >>= fun c2 => gvPending >>= fun p => lkSuspect >>= fun s2 =>
  pure (decide (x = (1, 0)) && !s && decide (e = 0) && decide (c = 2) && l && decide (y = (x.1, 0)) && decide (c2 = 1) && decide (p = 0) && s2)
theorem exLink_holds : (exLink (gsNew 2 16 1 1)).1 = true := by decide +kernel

end Go.Proofs.YtadhdjldcpkfiaaGreatDoor
