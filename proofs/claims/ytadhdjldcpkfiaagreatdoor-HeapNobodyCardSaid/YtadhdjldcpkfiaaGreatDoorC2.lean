/- What the ground's calls do: each comes to what the plain function of the same name says. Nothing is asked but that the ground lies there. -/
import Derived.Test.YtadhdjldcpkfiaaGreatDoorC1
namespace Go.Proofs.YtadhdjldcpkfiaaGreatDoor
set_option linter.unusedVariables false
set_option linter.unusedSimpArgs false
open Go.RowKit
set_option maxRecDepth 100000
set_option maxHeartbeats 800000
theorem set_c {A : GA} {S : GS} {w : World} (H : Held A S w) {i v : Int} {b : Bool} {T : GS} (e : gSet i v S = (b, T)) :
    Calls Tryz.prog 179 #[.pointer (some ⟨A.g, 0, none⟩), .int .i64 i, .int .i64 v] w (Did A w (.bool b) T) := by
  unfold gSet at e
  by_cases c1 : v < 0
  · rw [if_pos c1] at e
    obtain ⟨rfl, rfl⟩ := GM.pure_eq e
    go_enter Tryz.func179, Tryz.ntmps179
    go_wp2_with fail
    go_ret
    exact ⟨rfl, H, Stays.refl _ _⟩
  · rw [if_neg c1] at e
    by_cases c2 : v > 4294967295
    · rw [if_pos c2] at e
      obtain ⟨rfl, rfl⟩ := GM.pure_eq e
      go_enter Tryz.func179, Tryz.ntmps179
      go_wp2_with fail
      go_ret
      exact ⟨rfl, H, Stays.refl _ _⟩
    · rw [if_neg c2] at e
      have hu : IntKind.u32.wrap v = v := by rw [IntKind.wrap_u32]; omega
      go_enter Tryz.func179, Tryz.ntmps179
      go_wp2_with fail
      refine (all_c H).mono ?_
      rintro _ _ ⟨rfl, rfl⟩
      go_wp2_with fail
      refine (put_c H (by omega) (by omega) e).mono ?_
      rintro _ w1 ⟨rfl, H1, K1⟩
      go_wp2_with fail
      go_ret
      exact ⟨rfl, H1, K1⟩

theorem root_c {A : GA} {S : GS} {w : World} (H : Held A S w) (i : Int) :
    Calls Tryz.prog 237 #[.pointer (some ⟨A.g, 0, none⟩), .int .i64 i] w (Did A w (.int .i64 (gRoot i S)) S) := by
  have := H.ok.r2
  have hr : gRoot i S = if i < 0 then -1 else if i ≥ S.r then -1 else wrap64 (24 + i) := by
    unfold gRoot gWithin wrap64
    split
    · rfl
    · split
      · rfl
      · omega
  have HR := Hd.mk hr
  clear hr
  go_enter Tryz.func237, Tryz.ntmps237
  go_wp2_with fail
  refine (conf_c H).mono ?_
  rintro _ w1 ⟨rfl, H1, K1⟩
  go_wp2_with fail
  refine (within_c _ _ _ _).mono ?_
  rintro _ _ ⟨rfl, rfl⟩
  rw [← HR.out]
  go_wp2_with fail
  go_ret
  exact ⟨rfl, H1, K1⟩

theorem SetReg_c {A : GA} {S : GS} {w : World} (H : Held A S w) {r v : Int} {b : Bool} {T : GS} (e : SetReg r v S = (b, T)) :
    Calls Tryz.prog 105 #[.pointer (some ⟨A.g, 0, none⟩), .int .i64 r, .int .i64 v] w (Did A w (.bool b) T) := by
  go_enter Tryz.func105, Tryz.ntmps105
  go_wp2_with fail
  refine (reg_c _ _).mono ?_
  rintro _ _ ⟨rfl, rfl⟩
  go_wp2_with fail
  refine (set_c H e).mono ?_
  rintro _ w1 ⟨rfl, H1, K1⟩
  go_wp2_with fail
  go_ret
  exact ⟨rfl, H1, K1⟩

theorem Root_c {A : GA} {S : GS} {w : World} (H : Held A S w) {i v : Int} {T : GS} (e : Root i S = (v, T)) :
    Calls Tryz.prog 209 #[.pointer (some ⟨A.g, 0, none⟩), .int .i64 i] w (Did A w (.int .i64 v) T) := by
  have hr := stGet_range H.ok e
  go_enter Tryz.func209, Tryz.ntmps209
  go_wp2_with fail
  refine (all_c H).mono ?_
  rintro _ _ ⟨rfl, rfl⟩
  go_wp2_with fail
  refine (root_c H _).mono ?_
  rintro _ w1 ⟨rfl, H1, K1⟩
  go_wp2_with fail
  refine (get_c H1 e).mono ?_
  rintro _ w2 ⟨rfl, H2, K2⟩
  go_wp2_with fail
  go_ret
  exact ⟨rfl, H2, K1.trans K2⟩

theorem SetRoot_c {A : GA} {S : GS} {w : World} (H : Held A S w) {i v : Int} {b : Bool} {T : GS} (e : SetRoot i v S = (b, T)) :
    Calls Tryz.prog 236 #[.pointer (some ⟨A.g, 0, none⟩), .int .i64 i, .int .i64 v] w (Did A w (.bool b) T) := by
  go_enter Tryz.func236, Tryz.ntmps236
  go_wp2_with fail
  refine (root_c H _).mono ?_
  rintro _ w1 ⟨rfl, H1, K1⟩
  go_wp2_with fail
  refine (set_c H1 e).mono ?_
  rintro _ w2 ⟨rfl, H2, K2⟩
  go_wp2_with fail
  go_ret
  exact ⟨rfl, H2, K1.trans K2⟩

theorem Word_c {A : GA} {S : GS} {w : World} (H : Held A S w) {b x v : Int} {T : GS} (e : Word b x S = (v, T)) :
    Calls Tryz.prog 168 #[.pointer (some ⟨A.g, 0, none⟩), .int .i64 b, .int .i64 x] w (Did A w (.int .u32 v) T) := by
  go_enter Tryz.func168, Tryz.ntmps168
  go_wp2_with fail
  refine (all_c H).mono ?_
  rintro _ _ ⟨rfl, rfl⟩
  go_wp2_with fail
  refine (word_c H _ _).mono ?_
  rintro _ w1 ⟨rfl, H1, K1⟩
  go_wp2_with fail
  refine (get_c H1 e).mono ?_
  rintro _ w2 ⟨rfl, H2, K2⟩
  go_wp2_with fail
  go_ret
  exact ⟨rfl, H2, K1.trans K2⟩

theorem SetWord_c {A : GA} {S : GS} {w : World} (H : Held A S w) {b x v : Int} {r : Bool} {T : GS} (h0 : 0 ≤ v) (h1 : v ≤ 4294967295) (e : SetWord b x v S = (r, T)) :
    Calls Tryz.prog 111 #[.pointer (some ⟨A.g, 0, none⟩), .int .i64 b, .int .i64 x, .int .u32 v] w (Did A w (.bool r) T) := by
  go_enter Tryz.func111, Tryz.ntmps111
  go_wp2_with fail
  refine (all_c H).mono ?_
  rintro _ _ ⟨rfl, rfl⟩
  go_wp2_with fail
  refine (word_c H _ _).mono ?_
  rintro _ w1 ⟨rfl, H1, K1⟩
  go_wp2_with fail
  refine (put_c H1 h0 h1 e).mono ?_
  rintro _ w2 ⟨rfl, H2, K2⟩
  go_wp2_with fail
  go_ret
  exact ⟨rfl, H2, K1.trans K2⟩
end Go.Proofs.YtadhdjldcpkfiaaGreatDoor
