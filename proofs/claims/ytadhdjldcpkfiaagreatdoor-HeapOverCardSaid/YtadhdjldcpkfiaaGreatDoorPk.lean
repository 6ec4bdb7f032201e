/- What is seen of a ground without an access, of a heap that is there. Nothing is asked. -/
/- A copy of all words; the meter. Nothing is asked. -/
/- Two rows of the same words are the same. Nothing is asked. -/
import Derived.Test.YtadhdjldcpkfiaaGreatDoorS2
import Derived.Test.YtadhdjldcpkfiaaGreatDoorC1
import Derived.Laws.OwnMore
namespace Go.Proofs.YtadhdjldcpkfiaaGreatDoor
set_option linter.unusedVariables false
set_option linter.unusedSimpArgs false
open Go.RowKit
set_option maxRecDepth 100000
set_option maxHeartbeats 1600000

theorem peek_c {A : GA} {S : GS} {w : World} (H : Held A S w) (i : Int) :
    Calls Tryz.prog 198 #[.pointer (some ⟨A.s, 0, none⟩), .int .i64 i] w fun e w' => e = .returned (.int .u32 (stPeek i S)) ∧ w = w' := by
  unfold stPeek
  by_cases c : 0 ≤ i ∧ i < S.ws.length
  · rw [if_pos c]
    have hd : decide (0 ≤ i ∧ i < S.ws.length) = true := by simp [c]
    have HD := Hd.mk hd
    obtain ⟨c1, c2⟩ := c
    clear hd
    have h2 := H.scell
    have h3 : w.cell? ⟨A.a, i.toNat, none⟩ = some (.int .u32 (S.ws.getD i.toNat 0)) := H.acell (by omega)
    go_enter Tryz.func198, Tryz.ntmps198
    go_wp2_with fail
    refine (has_c H i).mono ?_
    rintro _ _ ⟨rfl, rfl⟩
    rw [HD.out]
    go_wp2_with fail
    go_ret
    exact ⟨by simp [show i.toNat < S.ws.length by omega], rfl⟩
  · rw [if_neg c]
    have hd : decide (0 ≤ i ∧ i < S.ws.length) = false := by simp [c]
    have HD := Hd.mk hd
    clear hd c
    go_enter Tryz.func198, Tryz.ntmps198
    go_wp2_with fail
    refine (has_c H i).mono ?_
    rintro _ _ ⟨rfl, rfl⟩
    rw [HD.out]
    go_wp2_with fail
    go_ret
    exact ⟨rfl, rfl⟩
theorem stPeek_range {S : GS} (h : S.Ok) (i : Int) : 0 ≤ stPeek i S ∧ stPeek i S ≤ 4294967295 := by
  unfold stPeek
  split
  · exact h.word _
  · omega
theorem SeeReg_c {A : GA} {S : GS} {w : World} (H : Held A S w) (r : Int) :
    Calls Tryz.prog 115 #[.pointer (some ⟨A.g, 0, none⟩), .int .i64 r] w fun e w' => e = .returned (.int .i64 (SeeReg r S)) ∧ w = w' := by
  have hr := stPeek_range H.ok (gReg r)
  unfold SeeReg
  go_enter Tryz.func115, Tryz.ntmps115
  go_wp2_with fail
  refine (all_c H).mono ?_
  rintro _ _ ⟨rfl, rfl⟩
  go_wp2_with fail
  refine (reg_c _ _).mono ?_
  rintro _ _ ⟨rfl, rfl⟩
  go_wp2_with fail
  refine (peek_c H _).mono ?_
  rintro _ _ ⟨rfl, rfl⟩
  go_wp2_with fail
  go_ret
  exact ⟨by first | rfl | (rw [IntWalk.i64_in _ (by omega)]), rfl⟩
theorem hGround_c {A : GA} {hb : Nat} {S : GS} {w : World} (H : HeapAt A hb S w) :
    Calls Tryz.prog 62 #[.pointer (some ⟨hb, 0, none⟩)] w fun e w' => e = .returned (.pointer (some ⟨A.g, 0, none⟩)) ∧ w = w' := by
  have h0 := H.box.cell 0
  go_enter Tryz.func62, Tryz.ntmps62
  go_wp2_with fail
  go_ret
  exact ⟨rfl, rfl⟩
theorem hClean_c {A : GA} {hb : Nat} {S : GS} {w : World} (H : HeapAt A hb S w) :
    Calls Tryz.prog 60 #[.pointer (some ⟨hb, 0, none⟩)] w fun e w' => e = .returned (.int .i64 (SeeReg 2 S)) ∧ w = w' := by
  go_enter Tryz.func60, Tryz.ntmps60
  go_wp2_with fail
  refine (hGround_c H).mono ?_
  rintro _ _ ⟨rfl, rfl⟩
  go_wp2_with (go_at_call 142; go_in)
  refine (SeeReg_c H.held _).mono ?_
  rintro _ _ ⟨rfl, rfl⟩
  go_wp2_with fail
  first | go_ret | skip
  exact ⟨rfl, rfl⟩
end Go.Proofs.YtadhdjldcpkfiaaGreatDoor
namespace Go.Proofs.YtadhdjldcpkfiaaGreatDoor
set_option linter.unusedVariables false
set_option linter.unusedSimpArgs false
open Go.RowKit
set_option maxRecDepth 100000
set_option maxHeartbeats 3200000

/-- A row of words of one's own. -/
def Row (w : World) (base : Nat) (v : Value) (l : List Int) : Prop := ∃ g cap, v = .slice (some ⟨g, 0, none⟩) l.length cap ∧ w.ownsRow base 51 1 v l.length (l.map (Value.int .u32)) ∧ base ≤ g ∧ g < w.heap.size

theorem Stays.grown {w w' : World} {g : Nat} (h : w.grownBy w' (some g)) : Stays (fun k => k = g) w w' :=
  ⟨h.os, h.tape, h.output, h.size, fun k hk hf => h.block k hk (by simpa using hf)⟩
theorem run_eql_nil {P : Program} (w : World) (t e : TypeId) (a : Addr) (n c : Nat) (h : P.underlying t = some (.slice e)) : (binOp .eql t (.slice (some a) n c) (.slice none 0 0)).run P w = .ok (.bool false) w := by
  have hq : ∀ d : Nat, (Op.equalIn (d + 1) t (.slice (some a) n c) (.slice none 0 0)).run P w = .ok false w := fun d => by
    simp [Op.equalIn, run_underlying h]
  simp only [binOp]
  simp [Op.equal, Op.maxDepth, hq 9999]
theorem clone_c {A : GA} {S : GS} {w : World} (H : Held A S w) :
    Calls Tryz.prog 214 #[.slice (some ⟨A.a, 0, none⟩) S.ws.length S.ws.length] w (fun e w' => ∃ v, e = .returned v ∧ Row w' w.heap.size v S.ws ∧ Stays (fun _ => False) w w') := by
  obtain ⟨i, hi, hx⟩ := Option.map_eq_some_iff.1 (show (Tryz.prog.info? 51).map (fun i => (i.zero, i.size, i.bytes)) = some (some (.int .u32 0), 1, 4) by kernel_rfl)
  simp only [Prod.mk.injEq] at hx
  obtain ⟨hz, hs, hb⟩ := hx
  have hlen := H.ok.len
  have hnw := H.ok.nw
  have hr2 := H.ok.r2
  have hr1 := H.ok.r1
  have hmul : 0 ≤ S.n * S.w := Int.mul_nonneg (by have := H.ok.n1; omega) (by have := H.ok.w1; omega)
  have hL : Hd (0 < S.ws.length ∧ S.ws.length ≤ 8388608) := ⟨by omega⟩
  have HH := Hd.mk H
  have HI := Hd.mk hi
  have HS := Hd.mk hs
  have HZ := Hd.mk hz
  have HB := Hd.mk hb
  have HEQ : ∀ (n c : Nat) (w : World), (binOp .eql 69 (.slice (some ⟨A.a, 0, none⟩) n c) (.slice none 0 0)).run Tryz.prog w = .ok (.bool false) w := fun n c w => run_eql_nil w 69 51 _ n c Tryz.underlying69
  clear hi hs hz hb hlen hnw hr2 hr1 hmul H
  go_enter Tryz.func214, Tryz.ntmps214
  go_wp2_with (at_builtin; refine wpList_append_lies _ rfl (.tmp 5) (.tmp 6) 69 rfl w.heap.size 51 i (.int .u32 0) 1 4 Tryz.underlying69 HI.out HZ.out HS.out HB.out rfl (by decide) (.slice (some ⟨w.heap.size, 0, none⟩) 0 0) 0 [] rfl (World.ownsRow_made w #[] 0 (Nat.le_refl _) (Nat.zero_le _) rfl) ⟨A.a, 0, none⟩ S.ws.length S.ws.length (S.ws.map (Value.int .u32)) rfl ?_ ?_ ?_ hL.out.1 ?_ ?_ ?_ _ rfl ?_)
  case refine_2 =>
    intro j u hj
    obtain ⟨hjl, hju⟩ := List.getElem?_eq_some_iff.1 hj
    rw [List.length_map] at hjl
    have hc := (HH.out.alloc (.cells #[] 51)).acell hjl
    have ha : (⟨A.a, 0, none⟩ : Addr).add j = ⟨A.a, j, none⟩ := by
      rcases Nat.eq_zero_or_pos j with rfl | h
      · simp [Addr.add]
      · simp [Addr.add, show ¬ j = 0 by omega]
    rw [ha, hc, ← hju, List.getElem_map]
    congr 2
    simp [List.getD_eq_getElem?_getD, hjl]
  case refine_3 =>
    intro u hu
    obtain ⟨z, _, rfl⟩ := List.mem_map.1 hu
    rfl
  case refine_1 => simp
  case refine_4 =>
    have := hL.out
    simp only [maxLen]
    omega
  case refine_5 =>
    have := hL.out
    omega
  case refine_6 => simp
  case refine_7 =>
  intro g cap w1 hown hgrow hat hlt
  have HO := Hd.mk hown
  have HG := Hd.mk hgrow
  have HT := Hd.mk hat
  have HLT := Hd.mk hlt
  clear hown hgrow hat hlt
  go_wp2_with fail
  go_ret
  have hn0 : 0 + S.ws.length = S.ws.length := Nat.zero_add _
  have ho := HO.out
  have KG := Stays.grown HG.out
  have hge : w.heap.size ≤ g := by
    rcases HT.out with h | h
    · have : w.heap.size = g := by simpa [Value.ownBlock] using h
      omega
    · first | (simp at h; omega) | omega
  refine ⟨.slice (some ⟨g, 0, none⟩) S.ws.length cap, ?_, ⟨g, cap, rfl, ?_, hge, HLT.out⟩, ?_⟩
  · simp
  · simpa using ho
  · exact ⟨KG.os, KG.tape, KG.output, by have := KG.size; simp at this; omega, fun k hk _ => by
      have h1 := KG.block k (by simp; omega) (show ¬ k = w.heap.size by omega)
      rw [h1]
      exact Below.heap_alloc _ _ _ hk⟩
theorem stWords_c {A : GA} {S : GS} {w : World} (H : Held A S w) :
    Calls Tryz.prog 146 #[.pointer (some ⟨A.s, 0, none⟩)] w (fun e w' => ∃ v, e = .returned v ∧ Row w' w.heap.size v S.ws ∧ Stays (fun _ => False) w w') := by
  have h1 := H.scell
  go_enter Tryz.func146, Tryz.ntmps146
  go_wp2_with fail
  refine (clone_c H).mono ?_
  rintro _ w1 ⟨v, rfl, HR, K1⟩
  have HR' := Hd.mk HR
  obtain ⟨g, cap, rfl, -, -, -⟩ := HR
  go_wp2_with fail
  go_ret
  exact ⟨_, rfl, HR'.out, K1⟩
theorem gWords_c {A : GA} {S : GS} {w : World} (H : Held A S w) :
    Calls Tryz.prog 67 #[.pointer (some ⟨A.g, 0, none⟩)] w (fun e w' => ∃ v, e = .returned v ∧ Row w' w.heap.size v S.ws ∧ Stays (fun _ => False) w w') := by
  go_enter Tryz.func67, Tryz.ntmps67
  go_wp2_with fail
  refine (all_c H).mono ?_
  rintro _ _ ⟨rfl, rfl⟩
  go_wp2_with fail
  refine (stWords_c H).mono ?_
  rintro _ w1 ⟨v, rfl, HR, K1⟩
  have HR' := Hd.mk HR
  obtain ⟨g, cap, rfl, -, -, -⟩ := HR
  go_wp2_with fail
  go_ret
  exact ⟨_, rfl, HR'.out, K1⟩
end Go.Proofs.YtadhdjldcpkfiaaGreatDoor
namespace Go.Proofs.YtadhdjldcpkfiaaGreatDoor
set_option linter.unusedVariables false
set_option linter.unusedSimpArgs false
open Go.RowKit
set_option maxRecDepth 100000
set_option maxHeartbeats 3200000

theorem Row.cell {w : World} {base g : Nat} {n cap : Nat} {l : List Int} (h : w.ownsRow base 51 1 (.slice (some ⟨g, 0, none⟩) n cap) l.length (l.map (Value.int .u32))) (hn : n = l.length) {j : Nat} (hj : j < l.length) : w.cell? ⟨g, j, none⟩ = some (.int .u32 (l.getD j 0)) := by
  subst hn
  rw [h.cellAt j (by omega), List.getElem?_map, List.getD_eq_getElem?_getD]
  simp [hj]
theorem Row.stays {w w' : World} {base : Nat} {v : Value} {l : List Int} (h : Row w base v l) {F : Nat → Prop} (k : Stays F w w') (hF : ∀ b, base ≤ b → ¬ F b) : Row w' base v l := by
  obtain ⟨g, cap, rfl, ho, hb, hl⟩ := h
  refine ⟨g, cap, rfl, ?_, hb, Nat.lt_of_lt_of_le hl k.size⟩
  refine ⟨ho.1, ?_⟩
  rcases ho.2 with ⟨h, h0⟩ | ⟨g', cap', cur, hv, hb', hg, hr⟩
  · exact .inl ⟨h, h0⟩
  · right
    have hgg : g = g' := by
      simp at hv
      exact hv.1
    subst hgg
    exact ⟨g, cap', cur, hv, hb', (k.block g hl (hF g hb)).trans hg, hr⟩
theorem Same_c (va vb : Value) (ba bb : Nat) (l : List Int) (w : World) (Ra : Row w ba va l) (Rb : Row w bb vb l) (hl : l.length ≤ 8388608) :
    Calls Tryz.prog 68 #[va, vb] w (Made w (.bool true)) := by
  obtain ⟨ga, ca, rfl, oa, _, la⟩ := Ra
  obtain ⟨gb, cb, rfl, ob, _, lb⟩ := Rb
  have OA := Hd.mk (fun (j : Nat) (hj : j < l.length) => Row.cell oa rfl hj)
  have OB := Hd.mk (fun (j : Nat) (hj : j < l.length) => Row.cell ob rfl hj)
  clear oa ob
  go_enter Tryz.func68, Tryz.ntmps68
  go_wp2_with fail
  go_loopw [5] (fun i wr => ∃ j : Nat, j ≤ l.length ∧ i = .int .i64 j ∧ Hd (Stays (fun _ => False) w wr)) (fun i _ => l.length - (intOf i).toNat)
  case atStart => exact ⟨0, by omega, rfl, ⟨Stays.refl _ _⟩⟩
  case round =>
    obtain ⟨j, hj, rfl, KU⟩ := hrel
    by_cases c : j < l.length
    · have x0 := (KU.out.cell (p := ⟨ga, j, none⟩) la (fun x => x)).trans (OA.out j c)
      have x1 := (KU.out.cell (p := ⟨gb, j, none⟩) lb (fun x => x)).trans (OB.out j c)
      have hme := Hd.mk (show l.length - ((j : Int) + 1).toNat < l.length - (j : Int).toNat by omega)
      have hj1 := Hd.mk (show j + 1 ≤ l.length by omega)
      have cc : decide ((j : Int) < (l.length : Int)) = true := decide_eq_true (by omega)
      generalize l.getD j 0 = u at x0 x1
      go_wp2_with fail
      go_quiet (fail)
      go_wp2_with fail
      go_roundw
      case rel => exact ⟨j + 1, hj1.out, by first | rfl | simp, ⟨by with_reducible repeat (first | exact KU.out | apply zsd | apply zsn)⟩⟩
      case measure =>
        first
          | exact hme.out
          | (simp only [intOf]; exact hme.out)
    · have cc : decide ((j : Int) < (l.length : Int)) = false := decide_eq_false (by omega)
      go_wp2_with fail
      go_ret
      exact ⟨rfl, KU.out⟩
end Go.Proofs.YtadhdjldcpkfiaaGreatDoor
