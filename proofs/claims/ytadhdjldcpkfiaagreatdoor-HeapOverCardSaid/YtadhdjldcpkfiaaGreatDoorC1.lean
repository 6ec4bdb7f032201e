/- What the calls of store and ground do: each call on a ground in memory comes to what the plain function of the same name says. Nothing is asked but that the ground lies there. -/
/- What the ground's calls do: each comes to what the plain function of the same name says. Nothing is asked but that the ground lies there. -/
import Derived.Test.YtadhdjldcpkfiaaGreatDoorH
namespace Go.Proofs.YtadhdjldcpkfiaaGreatDoor
set_option linter.unusedVariables false
set_option linter.unusedSimpArgs false
open Go.RowKit
set_option maxRecDepth 100000
set_option maxHeartbeats 800000

theorem field_conf0 (a b c d : Int) (w : World) : (Instr.field 46 (.agg #[.int .i64 a, .int .i64 b, .int .i64 c, .int .i64 d]) 0).run Tryz.prog w = .ok (.int .i64 a) w := by kernel_rfl
theorem field_conf1 (a b c d : Int) (w : World) : (Instr.field 46 (.agg #[.int .i64 a, .int .i64 b, .int .i64 c, .int .i64 d]) 1).run Tryz.prog w = .ok (.int .i64 b) w := by kernel_rfl
theorem field_conf2 (a b c d : Int) (w : World) : (Instr.field 46 (.agg #[.int .i64 a, .int .i64 b, .int .i64 c, .int .i64 d]) 2).run Tryz.prog w = .ok (.int .i64 c) w := by kernel_rfl
theorem field_conf3 (a b c d : Int) (w : World) : (Instr.field 46 (.agg #[.int .i64 a, .int .i64 b, .int .i64 c, .int .i64 d]) 3).run Tryz.prog w = .ok (.int .i64 d) w := by kernel_rfl
attribute [go_sem] field_conf0 field_conf1 field_conf2 field_conf3

theorem within_c (i m f : Int) (w : World) :
    Calls Tryz.prog 229 #[.int .i64 i, .int .i64 m, .int .i64 f] w fun e w' => e = .returned (.int .i64 (if i < 0 then -1 else if i ≥ m then -1 else wrap64 (f + i))) ∧ w = w' := by
  by_cases h1 : i < 0
  · go_enter Tryz.func229, Tryz.ntmps229
    go_wp2
    go_ret
    exact ⟨rfl, rfl⟩
  · by_cases h2 : i ≥ m
    · go_enter Tryz.func229, Tryz.ntmps229
      go_wp2
      go_ret
      exact ⟨rfl, rfl⟩
    · go_enter Tryz.func229, Tryz.ntmps229
      go_wp2
      go_ret
      exact ⟨rfl, rfl⟩

theorem reg_c (r : Int) (w : World) :
    Calls Tryz.prog 174 #[.int .i64 r] w fun e w' => e = .returned (.int .i64 (gReg r)) ∧ w = w' := by
  have hr : gReg r = if r < 0 then -1 else if r ≥ 24 then -1 else wrap64 (0 + r) := by
    unfold gReg gWithin wrap64
    split
    · rfl
    · split
      · rfl
      · omega
  have HR := Hd.mk hr
  clear hr
  go_enter Tryz.func174, Tryz.ntmps174
  go_wp2_with fail
  refine (within_c _ _ _ _).mono ?_
  rintro _ _ ⟨rfl, rfl⟩
  rw [← HR.out]
  go_wp2_with fail
  go_ret
  exact ⟨rfl, rfl⟩

theorem add_c {A : GA} {S : GS} {w : World} (H : Held A S w) :
    Calls Tryz.prog 228 #[.pointer (some ⟨A.s, 1, none⟩), .int .u64 1] w fun e w' => e = .returned (.int .u64 (IntKind.u64.wrap (S.m + 1))) ∧ w' = w.setCell ⟨A.s, 1, none⟩ (.int .u64 (IntKind.u64.wrap (S.m + 1))) := by
  have hadd := run_call_add (P := Tryz.prog) Tryz.func248 (by kernel_rfl) (by kernel_rfl) (by kernel_rfl) .u64 (by kernel_rfl) (y := 1) (s := IntKind.u64.wrap (S.m + 1)) H.mcell H.mfree (by simp [go_sem])
  go_enter Tryz.func228, Tryz.ntmps228
  go_wp2
  go_ret
  exact ⟨rfl, rfl⟩

theorem has_c {A : GA} {S : GS} {w : World} (H : Held A S w) (i : Int) :
    Calls Tryz.prog 227 #[.pointer (some ⟨A.s, 0, none⟩), .int .i64 i] w fun e w' => e = .returned (.bool (decide (0 ≤ i ∧ i < S.ws.length))) ∧ w = w' := by
  have h1 := H.scell
  by_cases c1 : 0 ≤ i
  · by_cases c2 : i < S.ws.length
    · go_enter Tryz.func227, Tryz.ntmps227
      go_wp2
      go_ret
      exact ⟨by simp [c1, c2], rfl⟩
    · go_enter Tryz.func227, Tryz.ntmps227
      go_wp2
      go_ret
      exact ⟨by simp [c1, c2], rfl⟩
  · go_enter Tryz.func227, Tryz.ntmps227
    go_wp2
    go_ret
    exact ⟨by simp [decide_eq_false (show ¬ (0 ≤ i) by omega)], rfl⟩

theorem get_c {A : GA} {S : GS} {w : World} (H : Held A S w) {i v : Int} {T : GS} (e : stGet i S = (v, T)) :
    Calls Tryz.prog 173 #[.pointer (some ⟨A.s, 0, none⟩), .int .i64 i] w (Did A w (.int .u32 v) T) := by
  unfold stGet at e
  by_cases c : 0 ≤ i ∧ i < S.ws.length
  · rw [if_pos c] at e
    cases e
    have hd : decide (0 ≤ i ∧ i < S.ws.length) = true := by simp [c]
    have HD := Hd.mk hd
    obtain ⟨c1, c2⟩ := c
    clear hd
    have h2 : (w.setCell ⟨A.s, 1, none⟩ (.int .u64 (IntKind.u64.wrap (S.m + 1)))).cell? ⟨A.s, 0, none⟩ = some (.slice (some ⟨A.a, 0, none⟩) S.ws.length S.ws.length) := H.tick.scell
    have h3 : (w.setCell ⟨A.s, 1, none⟩ (.int .u64 (IntKind.u64.wrap (S.m + 1)))).cell? ⟨A.a, i.toNat, none⟩ = some (.int .u32 (S.ws.getD i.toNat 0)) := H.tick.acell (by simp [GS.tick]; omega)
    go_enter Tryz.func173, Tryz.ntmps173
    go_wp2_with fail
    refine (has_c H i).mono ?_
    rintro _ _ ⟨rfl, rfl⟩
    rw [HD.out]
    go_wp2_with fail
    refine (add_c H).mono ?_
    rintro _ _ ⟨rfl, rfl⟩
    go_wp2_with fail
    go_ret
    exact ⟨by simp [show i.toNat < S.ws.length by omega], H.tick, (Stays.refl _ _).setCell (Or.inl (Or.inl rfl)) _⟩
  · rw [if_neg c] at e
    cases e
    have hd : decide (0 ≤ i ∧ i < S.ws.length) = false := by simp [c]
    have HD := Hd.mk hd
    clear hd c
    go_enter Tryz.func173, Tryz.ntmps173
    go_wp2_with fail
    refine (has_c H i).mono ?_
    rintro _ _ ⟨rfl, rfl⟩
    rw [HD.out]
    go_wp2_with fail
    go_ret
    exact ⟨rfl, H, Stays.refl _ _⟩

theorem put_c {A : GA} {S : GS} {w : World} (H : Held A S w) {i v : Int} {b : Bool} {T : GS} (h0 : 0 ≤ v) (h1 : v ≤ 4294967295) (e : stPut i v S = (b, T)) :
    Calls Tryz.prog 187 #[.pointer (some ⟨A.s, 0, none⟩), .int .i64 i, .int .u32 v] w (Did A w (.bool b) T) := by
  unfold stPut at e
  by_cases c : 0 ≤ i ∧ i < S.ws.length
  · rw [if_pos c] at e
    cases e
    have hd : decide (0 ≤ i ∧ i < S.ws.length) = true := by simp [c]
    have HD := Hd.mk hd
    obtain ⟨c1, c2⟩ := c
    clear hd
    have h2 : (w.setCell ⟨A.s, 1, none⟩ (.int .u64 (IntKind.u64.wrap (S.m + 1)))).cell? ⟨A.s, 0, none⟩ = some (.slice (some ⟨A.a, 0, none⟩) S.ws.length S.ws.length) := H.tick.scell
    have h3 : (w.setCell ⟨A.s, 1, none⟩ (.int .u64 (IntKind.u64.wrap (S.m + 1)))).cell? ⟨A.a, i.toNat, none⟩ = some (.int .u32 (S.ws.getD i.toNat 0)) := H.tick.acell (by simp [GS.tick]; omega)
    have h4 : (w.setCell ⟨A.s, 1, none⟩ (.int .u64 (IntKind.u64.wrap (S.m + 1)))).frozen? ⟨A.a, i.toNat, none⟩ = false := H.tick.afree _
    go_enter Tryz.func187, Tryz.ntmps187
    go_wp2_with fail
    refine (has_c H i).mono ?_
    rintro _ _ ⟨rfl, rfl⟩
    rw [HD.out]
    go_wp2_with fail
    refine (add_c H).mono ?_
    rintro _ _ ⟨rfl, rfl⟩
    go_wp2_with fail
    go_ret
    exact ⟨rfl, H.tick.put i.toNat v h0 h1, ((Stays.refl _ _).setCell (Or.inl (Or.inl rfl)) _).setCell (Or.inl (Or.inr rfl)) _⟩
  · rw [if_neg c] at e
    cases e
    have hd : decide (0 ≤ i ∧ i < S.ws.length) = false := by simp [c]
    have HD := Hd.mk hd
    clear hd c
    go_enter Tryz.func187, Tryz.ntmps187
    go_wp2_with fail
    refine (has_c H i).mono ?_
    rintro _ _ ⟨rfl, rfl⟩
    rw [HD.out]
    go_wp2_with fail
    go_ret
    exact ⟨rfl, H, Stays.refl _ _⟩

theorem all_c {A : GA} {S : GS} {w : World} (H : Held A S w) :
    Calls Tryz.prog 145 #[.pointer (some ⟨A.g, 0, none⟩)] w fun e w' => e = .returned (.pointer (some ⟨A.s, 0, none⟩)) ∧ w = w' := by
  have h1 := H.gcell
  go_enter Tryz.func145, Tryz.ntmps145
  go_wp2
  go_ret
  exact ⟨rfl, rfl⟩

theorem conf_c {A : GA} {S : GS} {w : World} (H : Held A S w) :
    Calls Tryz.prog 98 #[.pointer (some ⟨A.g, 0, none⟩)] w (Did A w (.agg #[.int .i64 S.n, .int .i64 S.w, .int .i64 S.r, .int .i64 S.k]) S) := by
  have h1 := (H.alloc (.cells #[.int .i64 0, .int .i64 0, .int .i64 0, .int .i64 0] 46)).ncell
  have h2 := (H.alloc (.cells #[.int .i64 0, .int .i64 0, .int .i64 0, .int .i64 0] 46)).wcell
  have h3 := (H.alloc (.cells #[.int .i64 0, .int .i64 0, .int .i64 0, .int .i64 0] 46)).rcell
  have h4 := (H.alloc (.cells #[.int .i64 0, .int .i64 0, .int .i64 0, .int .i64 0] 46)).kcell
  go_enter Tryz.func98, Tryz.ntmps98
  go_wp2
  refine bodyPost_ret (v := .agg #[.int .i64 S.n, .int .i64 S.w, .int .i64 S.r, .int .i64 S.k]) (by simp [results, Tryz.results98, go_sem]) rfl ⟨rfl, H.alloc _, (Stays.refl _ _).alloc _⟩

theorem word_c {A : GA} {S : GS} {w : World} (H : Held A S w) (b x : Int) :
    Calls Tryz.prog 188 #[.pointer (some ⟨A.g, 0, none⟩), .int .i64 b, .int .i64 x] w (Did A w (.int .i64 (gWord b x S)) S) := by
  have ok := H.ok
  by_cases c1 : b < 0
  · have e : gWord b x S = -1 := by unfold gWord; rw [if_pos c1]
    rw [e]
    go_enter Tryz.func188, Tryz.ntmps188
    go_wp2_with fail
    refine (conf_c H).mono ?_
    rintro _ w1 ⟨rfl, H1, K1⟩
    go_wp2_with fail
    refine (within_c _ _ _ _).mono ?_
    rintro _ _ ⟨rfl, rfl⟩
    rw [if_pos c1]
    go_wp2_with fail
    go_ret
    exact ⟨rfl, H1.alloc _, K1.alloc _⟩
  · by_cases c2 : b ≥ S.n
    · have e : gWord b x S = -1 := by unfold gWord; rw [if_neg c1, if_pos c2]
      rw [e]
      go_enter Tryz.func188, Tryz.ntmps188
      go_wp2_with fail
      refine (conf_c H).mono ?_
      rintro _ w1 ⟨rfl, H1, K1⟩
      go_wp2_with fail
      refine (within_c _ _ _ _).mono ?_
      rintro _ _ ⟨rfl, rfl⟩
      rw [if_neg (by omega), if_pos (by omega)]
      go_wp2_with fail
      go_ret
      exact ⟨rfl, H1.alloc _, K1.alloc _⟩
    · have hm1 : b * S.w ≤ S.n * S.w := Int.mul_le_mul_of_nonneg_right (by omega) (by have := ok.w1; omega)
      have hm0 : 0 ≤ b * S.w := Int.mul_nonneg (by omega) (by have := ok.w1; omega)
      have := ok.nw
      have := ok.r1
      have := ok.r2
      have := ok.w1
      have := ok.w2
      have e : gWord b x S = if x < 0 then -1 else if x ≥ S.w then -1 else wrap64 (24 + S.r + b * S.w + x) := by
        unfold gWord gWithin
        rw [if_neg c1, if_neg c2]
        split
        · rfl
        · split
          · rfl
          · unfold wrap64; omega
      have E := Hd.mk e
      clear e
      have hb : (b == -1) = false := by simp; omega
      have hz : wrap64 b = b := by
        unfold wrap64
        have := ok.n2
        omega
      go_enter Tryz.func188, Tryz.ntmps188
      go_wp2_with fail
      refine (conf_c H).mono ?_
      rintro _ w1 ⟨rfl, H1, K1⟩
      go_wp2_with fail
      refine (within_c _ _ _ _).mono ?_
      rintro _ _ ⟨rfl, rfl⟩
      rw [if_neg (by omega), if_neg (by omega)]
      go_wp2_with fail
      refine (within_c _ _ _ _).mono ?_
      rintro _ _ ⟨rfl, rfl⟩
      rw [← E.out]
      go_wp2_with fail
      go_ret
      exact ⟨rfl, H1.alloc _, K1.alloc _⟩

theorem Reg_c {A : GA} {S : GS} {w : World} (H : Held A S w) {r v : Int} {T : GS} (e : Reg r S = (v, T)) :
    Calls Tryz.prog 95 #[.pointer (some ⟨A.g, 0, none⟩), .int .i64 r] w (Did A w (.int .i64 v) T) := by
  have hr := stGet_range H.ok e
  go_enter Tryz.func95, Tryz.ntmps95
  go_wp2_with fail
  refine (all_c H).mono ?_
  rintro _ _ ⟨rfl, rfl⟩
  go_wp2_with fail
  refine (reg_c _ _).mono ?_
  rintro _ _ ⟨rfl, rfl⟩
  go_wp2_with fail
  refine (get_c H e).mono ?_
  rintro _ w1 ⟨rfl, H1, K1⟩
  go_wp2_with fail
  go_ret
  exact ⟨rfl, H1, K1⟩
end Go.Proofs.YtadhdjldcpkfiaaGreatDoor
namespace Go.Proofs.YtadhdjldcpkfiaaGreatDoor
set_option linter.unusedVariables false
set_option linter.unusedSimpArgs false
open Go.RowKit
set_option maxRecDepth 100000
set_option maxHeartbeats 800000
theorem set_c {A : GA} {S : GS} {w : World} (H : Held A S w) {i v : Int} {b : Bool} {T : GS} (e : gSet i v S = (b, T)) :
    Calls Tryz.prog 179 #[.pointer (some ⟨A.g, 0, none⟩), .int .i64 i, .int .i64 v] w (Did A w (.bool b) T) := by
  unfold gSet at e
  by_cases c1 : v < 0
  · rw [if_pos c1] at e
    obtain ⟨rfl, rfl⟩ := GM.pure_eq e
    go_enter Tryz.func179, Tryz.ntmps179
    go_wp2_with fail
    go_ret
    exact ⟨rfl, H, Stays.refl _ _⟩
  · rw [if_neg c1] at e
    by_cases c2 : v > 4294967295
    · rw [if_pos c2] at e
      obtain ⟨rfl, rfl⟩ := GM.pure_eq e
      go_enter Tryz.func179, Tryz.ntmps179
      go_wp2_with fail
      go_ret
      exact ⟨rfl, H, Stays.refl _ _⟩
    · rw [if_neg c2] at e
      have hu : IntKind.u32.wrap v = v := by rw [IntKind.wrap_u32]; omega
      go_enter Tryz.func179, Tryz.ntmps179
      go_wp2_with fail
      refine (all_c H).mono ?_
      rintro _ _ ⟨rfl, rfl⟩
      go_wp2_with fail
      refine (put_c H (by omega) (by omega) e).mono ?_
      rintro _ w1 ⟨rfl, H1, K1⟩
      go_wp2_with fail
      go_ret
      exact ⟨rfl, H1, K1⟩

theorem root_c {A : GA} {S : GS} {w : World} (H : Held A S w) (i : Int) :
    Calls Tryz.prog 237 #[.pointer (some ⟨A.g, 0, none⟩), .int .i64 i] w (Did A w (.int .i64 (gRoot i S)) S) := by
  have := H.ok.r2
  have hr : gRoot i S = if i < 0 then -1 else if i ≥ S.r then -1 else wrap64 (24 + i) := by
    unfold gRoot gWithin wrap64
    split
    · rfl
    · split
      · rfl
      · omega
  have HR := Hd.mk hr
  clear hr
  go_enter Tryz.func237, Tryz.ntmps237
  go_wp2_with fail
  refine (conf_c H).mono ?_
  rintro _ w1 ⟨rfl, H1, K1⟩
  go_wp2_with fail
  refine (within_c _ _ _ _).mono ?_
  rintro _ _ ⟨rfl, rfl⟩
  rw [← HR.out]
  go_wp2_with fail
  go_ret
  exact ⟨rfl, H1, K1⟩

theorem SetReg_c {A : GA} {S : GS} {w : World} (H : Held A S w) {r v : Int} {b : Bool} {T : GS} (e : SetReg r v S = (b, T)) :
    Calls Tryz.prog 105 #[.pointer (some ⟨A.g, 0, none⟩), .int .i64 r, .int .i64 v] w (Did A w (.bool b) T) := by
  go_enter Tryz.func105, Tryz.ntmps105
  go_wp2_with fail
  refine (reg_c _ _).mono ?_
  rintro _ _ ⟨rfl, rfl⟩
  go_wp2_with fail
  refine (set_c H e).mono ?_
  rintro _ w1 ⟨rfl, H1, K1⟩
  go_wp2_with fail
  go_ret
  exact ⟨rfl, H1, K1⟩

theorem Root_c {A : GA} {S : GS} {w : World} (H : Held A S w) {i v : Int} {T : GS} (e : Root i S = (v, T)) :
    Calls Tryz.prog 209 #[.pointer (some ⟨A.g, 0, none⟩), .int .i64 i] w (Did A w (.int .i64 v) T) := by
  have hr := stGet_range H.ok e
  go_enter Tryz.func209, Tryz.ntmps209
  go_wp2_with fail
  refine (all_c H).mono ?_
  rintro _ _ ⟨rfl, rfl⟩
  go_wp2_with fail
  refine (root_c H _).mono ?_
  rintro _ w1 ⟨rfl, H1, K1⟩
  go_wp2_with fail
  refine (get_c H1 e).mono ?_
  rintro _ w2 ⟨rfl, H2, K2⟩
  go_wp2_with fail
  go_ret
  exact ⟨rfl, H2, K1.trans K2⟩

theorem SetRoot_c {A : GA} {S : GS} {w : World} (H : Held A S w) {i v : Int} {b : Bool} {T : GS} (e : SetRoot i v S = (b, T)) :
    Calls Tryz.prog 236 #[.pointer (some ⟨A.g, 0, none⟩), .int .i64 i, .int .i64 v] w (Did A w (.bool b) T) := by
  go_enter Tryz.func236, Tryz.ntmps236
  go_wp2_with fail
  refine (root_c H _).mono ?_
  rintro _ w1 ⟨rfl, H1, K1⟩
  go_wp2_with fail
  refine (set_c H1 e).mono ?_
  rintro _ w2 ⟨rfl, H2, K2⟩
  go_wp2_with fail
  go_ret
  exact ⟨rfl, H2, K1.trans K2⟩

theorem Word_c {A : GA} {S : GS} {w : World} (H : Held A S w) {b x v : Int} {T : GS} (e : Word b x S = (v, T)) :
    Calls Tryz.prog 168 #[.pointer (some ⟨A.g, 0, none⟩), .int .i64 b, .int .i64 x] w (Did A w (.int .u32 v) T) := by
  go_enter Tryz.func168, Tryz.ntmps168
  go_wp2_with fail
  refine (all_c H).mono ?_
  rintro _ _ ⟨rfl, rfl⟩
  go_wp2_with fail
  refine (word_c H _ _).mono ?_
  rintro _ w1 ⟨rfl, H1, K1⟩
  go_wp2_with fail
  refine (get_c H1 e).mono ?_
  rintro _ w2 ⟨rfl, H2, K2⟩
  go_wp2_with fail
  go_ret
  exact ⟨rfl, H2, K1.trans K2⟩

theorem SetWord_c {A : GA} {S : GS} {w : World} (H : Held A S w) {b x v : Int} {r : Bool} {T : GS} (h0 : 0 ≤ v) (h1 : v ≤ 4294967295) (e : SetWord b x v S = (r, T)) :
    Calls Tryz.prog 111 #[.pointer (some ⟨A.g, 0, none⟩), .int .i64 b, .int .i64 x, .int .u32 v] w (Did A w (.bool r) T) := by
  go_enter Tryz.func111, Tryz.ntmps111
  go_wp2_with fail
  refine (all_c H).mono ?_
  rintro _ _ ⟨rfl, rfl⟩
  go_wp2_with fail
  refine (word_c H _ _).mono ?_
  rintro _ w1 ⟨rfl, H1, K1⟩
  go_wp2_with fail
  refine (put_c H1 h0 h1 e).mono ?_
  rintro _ w2 ⟨rfl, H2, K2⟩
  go_wp2_with fail
  go_ret
  exact ⟨rfl, H2, K1.trans K2⟩
end Go.Proofs.YtadhdjldcpkfiaaGreatDoor
