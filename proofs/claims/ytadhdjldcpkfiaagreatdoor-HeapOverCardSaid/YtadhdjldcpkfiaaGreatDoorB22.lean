/- The example of chapter 22, walked. Condition: the place of 'store' in the table op.names. -/
/- A struct of whole numbers is itself. Nothing is asked. -/
/- The example of chapter 22: what is bare, what is plain; the example itself. -/
import Derived.Test.YtadhdjldcpkfiaaGreatDoorOp
import Derived.Test.YtadhdjldcpkfiaaGreatDoorS2
import Derived.Laws.StructEq
namespace Go.Proofs.YtadhdjldcpkfiaaGreatDoor
set_option linter.unusedVariables false
set_option linter.unusedSimpArgs false
open Go.RowKit
set_option maxRecDepth 100000
set_option maxHeartbeats 3200000

def stS : ByteArray := { data := #[115, 116, 111, 114, 101] }
/-- The table's third place. -/
def Name3 (w : World) : Prop := w.cell? ⟨0, 3, none⟩ = some (.string stS)
theorem Name3.stays {F : Nat → Prop} {w w' : World} (h : Name3 w) (k : Stays F w w') (hf : ¬ F 0) : Name3 w' :=
  (k.cell (World.block_lt_of_cell? w _ h) hf).trans h
theorem Name3_c (w : World) (h : Name3 w) : Calls Tryz.prog 152 #[.int .i64 3] w fun e w' => e = .returned (.string stS) ∧ w = w' := by
  have h' : w.cell? ⟨0, 3, none⟩ = some (.string stS) := h
  clear h
  go_enter Tryz.func152, Tryz.ntmps152
  go_wp2_with (go_at_call 157; go_in)
  go_ret
  exact ⟨rfl, rfl⟩
theorem Slots3_c (w : World) : Calls Tryz.prog 154 #[.agg #[.int .i64 3, .int .i64 1, .int .i64 0, .int .i64 2, .int .u32 0]] w fun e w' => ∃ g, e = .returned (.slice (some ⟨g, 0, none⟩) 2 2) ∧ Blk w' g 3 #[.int .i64 1, .int .i64 2] ∧ Stays (fun _ => False) w w' := by
  go_enter Tryz.func154, Tryz.ntmps154
  go_wp2_with (go_at_call 157; go_in)
  go_ret
  refine ⟨w.heap.size + 1, ?_, ?_, ((Stays.refl _ _).alloc _).alloc _⟩
  · simp
  · have h := Blk.new (w.alloc (.cells #[.int .i64 3, .int .i64 1, .int .i64 0, .int .i64 2, .int .u32 0] 53)) 3 #[.int .i64 1, .int .i64 2]
    simpa using h
theorem Ints2_c (w : World) (g h : Nat) (Bg : Blk w g 3 #[.int .i64 1, .int .i64 2]) (Bh : Blk w h 3 #[.int .i64 1, .int .i64 2]) :
    Calls Tryz.prog 153 #[.slice (some ⟨g, 0, none⟩) 2 2, .slice (some ⟨h, 0, none⟩) 2 2] w (Made w (.bool true)) := by
  have BG := Hd.mk Bg
  have BH := Hd.mk Bh
  clear Bg Bh
  go_enter Tryz.func153, Tryz.ntmps153
  go_wp2_with fail
  go_loopw [5] (fun i wr => (i = .int .i64 0 ∨ i = .int .i64 1 ∨ i = .int .i64 2) ∧ Hd (Stays (fun _ => False) w wr)) (fun i _ => 2 - (intOf i).toNat)
  case atStart => exact ⟨Or.inl rfl, ⟨Stays.refl _ _⟩⟩
  case round =>
    obtain ⟨hi, KU⟩ := hrel
    have b0 := (BG.out.stays KU.out (fun x => x)).cell 0
    have b1 := (BG.out.stays KU.out (fun x => x)).cell 1
    have d0 := (BH.out.stays KU.out (fun x => x)).cell 0
    have d1 := (BH.out.stays KU.out (fun x => x)).cell 1
    rcases hi with rfl | rfl | rfl
    · go_wp2_with fail
      go_quiet (fail)
      go_wp2_with fail
      go_roundw
      case rel => exact ⟨Or.inr (Or.inl rfl), ⟨by with_reducible repeat (first | exact KU.out | apply zsd | apply zsn)⟩⟩
      case measure => simp [intOf]
    · go_wp2_with fail
      go_quiet (fail)
      go_wp2_with fail
      go_roundw
      case rel => exact ⟨Or.inr (Or.inr rfl), ⟨by with_reducible repeat (first | exact KU.out | apply zsd | apply zsn)⟩⟩
      case measure => simp [intOf]
    · go_wp2_with fail
      go_ret
      exact ⟨rfl, KU.out⟩
theorem First2_c (w : World) (g : Nat) (Bg : Blk w g 56 #[.int .i64 0, .int .i64 0, .int .i64 0, .int .u32 0, .int .i64 6, .int .i64 0, .int .i64 0, .int .u32 0]) :
    Calls Tryz.prog 76 #[.slice (some ⟨g, 0, none⟩) 2 2, .int .i64 6] w (Made w (.int .i64 1)) := by
  have BG := Hd.mk Bg
  clear Bg
  go_enter Tryz.func76, Tryz.ntmps76
  go_wp2_with fail
  go_loopw [9] (fun i wr => (i = .int .i64 0 ∨ i = .int .i64 1) ∧ Hd (Stays (fun _ => False) w wr)) (fun i _ => 2 - (intOf i).toNat)
  case atStart => exact ⟨Or.inl rfl, ⟨Stays.refl _ _⟩⟩
  case round =>
    obtain ⟨hi, KU⟩ := hrel
    have B := BG.out.stays KU.out (fun x => x)
    have b0 := B.cell 0
    have b1 := B.cell 1
    have b2 := B.cell 2
    have b3 := B.cell 3
    have b4 := B.cell 4
    have b5 := B.cell 5
    have b6 := B.cell 6
    have b7 := B.cell 7
    rcases hi with rfl | rfl
    · go_wp2_with fail
      go_roundw
      case rel => exact ⟨Or.inr rfl, ⟨KU.out.alloc _⟩⟩
      case measure => simp [intOf]
    · go_wp2_with fail
      go_ret
      exact ⟨rfl, KU.out.alloc _⟩
end Go.Proofs.YtadhdjldcpkfiaaGreatDoor
namespace Go.Proofs.YtadhdjldcpkfiaaGreatDoor
set_option linter.unusedVariables false
set_option linter.unusedSimpArgs false
open Go.RowKit
set_option maxRecDepth 100000

section
variable {P : Program} {d : Nat} {xs : Array Value} {f : Field} {fs : List Field} {a : Value} {w : World}
theorem eqs_nil : (Op.eqFields d xs xs []).run P w = .ok true w := by simp [Op.eqFields]
theorem eqs_cons (hn : (f.name == "_") = false) (ha : (part f.type xs f.offset).run P w = .ok a w) (he : (Op.equalIn d f.type a a).run P w = .ok true w) (hr : (Op.eqFields d xs xs fs).run P w = .ok true w) : (Op.eqFields d xs xs (f :: fs)).run P w = .ok true w := by
  have hn' : f.name ≠ "_" := by simpa using hn
  rw [Op.eqFields]
  simp only [if_pos hn', Sem.run_bind, ha, he, Result.andThen_ok]
  simpa using hr
theorem eqs_of {t : TypeId} {fs : Array Field} (hu : P.underlying t = some (.struct fs)) (hp : P.stoodInHeld t = false) (h : (Op.eqFields d xs xs fs.toList).run P w = .ok true w) : (Op.equalIn (d + 1) t (.agg xs) (.agg xs)).run P w = .ok true w := by
  have hf : P.fieldsOf t = fs := by simp [Program.fieldsOf, hu]
  rw [run_equalIn_struct (P := P) w d t xs xs (by rw [hf]; exact hu) hp, hf]
  exact h
theorem eql_of {t : TypeId} {v : Array Value} (h : ∀ d : Nat, (Op.equalIn (d + 2) t (.agg v) (.agg v)).run P w = .ok true w) : (binOp .eql t (.agg v) (.agg v)).run P w = .ok (.bool true) w := by
  simp only [binOp]
  simp [Op.equal, Op.maxDepth, h 9998]
theorem neq_of {t : TypeId} {v : Array Value} (h : ∀ d : Nat, (Op.equalIn (d + 2) t (.agg v) (.agg v)).run P w = .ok true w) : (binOp .neq t (.agg v) (.agg v)).run P w = .ok (.bool false) w := by
  simp only [binOp]
  simp [Op.equal, Op.maxDepth, h 9998]
end
theorem eqsAns (d : Nat) (w : World) (a b c e : Int) : (Op.equalIn (d + 2) 56 (.agg #[.int .i64 a, .int .i64 b, .int .i64 c, .int .u32 e]) (.agg #[.int .i64 a, .int .i64 b, .int .i64 c, .int .u32 e])).run Tryz.prog w = .ok true w := by
  refine eqs_of Tryz.underlying56 (by kernel_rfl) ?_
  refine eqs_cons (by rfl) (by go_simp; rfl) (by go_simp) ?_
  refine eqs_cons (by rfl) (by go_simp; rfl) (by go_simp) ?_
  refine eqs_cons (by rfl) (by go_simp; rfl) (by go_simp) ?_
  refine eqs_cons (by rfl) (by go_simp; rfl) (by go_simp) ?_
  exact eqs_nil
theorem eqsOp (d : Nat) (w : World) (k a b c e : Int) : (Op.equalIn (d + 2) 53 (.agg #[.int .i64 k, .int .i64 a, .int .i64 b, .int .i64 c, .int .u32 e]) (.agg #[.int .i64 k, .int .i64 a, .int .i64 b, .int .i64 c, .int .u32 e])).run Tryz.prog w = .ok true w := by
  refine eqs_of Tryz.underlying53 (by kernel_rfl) ?_
  refine eqs_cons (by rfl) (by go_simp; rfl) (by go_simp) ?_
  refine eqs_cons (by rfl) (by go_simp; rfl) (by go_simp) ?_
  refine eqs_cons (by rfl) (by go_simp; rfl) (by go_simp) ?_
  refine eqs_cons (by rfl) (by go_simp; rfl) (by go_simp) ?_
  refine eqs_cons (by rfl) (by go_simp; rfl) (by go_simp) ?_
  exact eqs_nil
theorem eqlAns (w : World) (a b c e : Int) : (binOp .eql 56 (.agg #[.int .i64 a, .int .i64 b, .int .i64 c, .int .u32 e]) (.agg #[.int .i64 a, .int .i64 b, .int .i64 c, .int .u32 e])).run Tryz.prog w = .ok (.bool true) w := eql_of (fun d => eqsAns d w a b c e)
theorem neqAns (w : World) (a b c e : Int) : (binOp .neq 56 (.agg #[.int .i64 a, .int .i64 b, .int .i64 c, .int .u32 e]) (.agg #[.int .i64 a, .int .i64 b, .int .i64 c, .int .u32 e])).run Tryz.prog w = .ok (.bool false) w := neq_of (fun d => eqsAns d w a b c e)
theorem eqlOp (w : World) (k a b c e : Int) : (binOp .eql 53 (.agg #[.int .i64 k, .int .i64 a, .int .i64 b, .int .i64 c, .int .u32 e]) (.agg #[.int .i64 k, .int .i64 a, .int .i64 b, .int .i64 c, .int .u32 e])).run Tryz.prog w = .ok (.bool true) w := eql_of (fun d => eqsOp d w k a b c e)
theorem neqOp (w : World) (k a b c e : Int) : (binOp .neq 53 (.agg #[.int .i64 k, .int .i64 a, .int .i64 b, .int .i64 c, .int .u32 e]) (.agg #[.int .i64 k, .int .i64 a, .int .i64 b, .int .i64 c, .int .u32 e])).run Tryz.prog w = .ok (.bool false) w := neq_of (fun d => eqsOp d w k a b c e)
end Go.Proofs.YtadhdjldcpkfiaaGreatDoor
namespace Go.Proofs.YtadhdjldcpkfiaaGreatDoor
set_option linter.unusedVariables false
set_option linter.unusedSimpArgs false
open Go.RowKit
set_option maxRecDepth 100000
set_option maxHeartbeats 3200000

theorem Bare3_c (w : World) : Calls Tryz.prog 77 #[.agg #[.int .i64 3, .int .i64 1, .int .i64 0, .int .i64 2, .int .u32 0]] w (Made w (.agg #[.int .i64 3, .int .i64 1, .int .i64 0, .int .i64 2, .int .u32 0])) := by
  have BZ : Blk (((w.alloc (.cells #[.int .i64 3, .int .i64 1, .int .i64 0, .int .i64 2, .int .u32 0] 53)).alloc (.cells #[.int .i64 3, .int .i64 1, .int .i64 0, .int .i64 2, .int .u32 0] 53)).alloc (.cells #[.int .i64 3, .int .i64 1, .int .i64 0, .int .i64 2, .int .u32 0] 53)) (w.heap.size + 1) 53 #[.int .i64 3, .int .i64 1, .int .i64 0, .int .i64 2, .int .u32 0] := by
    have h := (Blk.new (w.alloc (.cells #[.int .i64 3, .int .i64 1, .int .i64 0, .int .i64 2, .int .u32 0] 53)) 53 #[.int .i64 3, .int .i64 1, .int .i64 0, .int .i64 2, .int .u32 0]).alloc (.cells #[.int .i64 3, .int .i64 1, .int .i64 0, .int .i64 2, .int .u32 0] 53)
    simpa using h
  go_enter Tryz.func77, Tryz.ntmps77
  go_wp2_with fail
  refine bodyPost_ret (results_blk (P := Tryz.prog) (p := 2) (ty := 53) rfl _ _ (w.heap.size + 1) 53 _ _ rfl BZ Tryz.underlying53 rfl (by kernel_rfl)) rfl ?_
  exact ⟨rfl, (((Stays.refl _ _).alloc _).alloc _).alloc _⟩
theorem is3_c (w : World) : Calls Tryz.prog 157 #[.int .i64 3] w fun e w' => e = .returned (.bool true) ∧ w = w' := by
  go_enter Tryz.func157, Tryz.ntmps157
  go_wp2
  go_ret
  exact ⟨rfl, rfl⟩
theorem Plain3_c (w : World) : Calls Tryz.prog 78 #[.agg #[.int .i64 3, .int .i64 1, .int .i64 0, .int .i64 2, .int .u32 0]] w (Made w (.bool true)) := by
  have B := Blk.new w 53 #[.int .i64 3, .int .i64 1, .int .i64 0, .int .i64 2, .int .u32 0]
  have K0 : Stays (fun _ => False) w (w.alloc (.cells #[.int .i64 3, .int .i64 1, .int .i64 0, .int .i64 2, .int .u32 0] 53)) := (Stays.refl _ _).alloc _
  have b0 := B.cell 0
  have b1 := B.cell 1
  have b2 := B.cell 2
  have b3 := B.cell 3
  have b4 := B.cell 4
  have HQ : ∀ w, (binOp .eql 53 (.agg #[.int .i64 3, .int .i64 1, .int .i64 0, .int .i64 2, .int .u32 0]) (.agg #[.int .i64 3, .int .i64 1, .int .i64 0, .int .i64 2, .int .u32 0])).run Tryz.prog w = .ok (.bool true) w := fun w => eqlOp w _ _ _ _ _
  go_enter Tryz.func78, Tryz.ntmps78
  go_wp2_with fail
  go_region_held3 (fun wx => wx.cell? ⟨w.heap.size, 0, none⟩ = some (.int .i64 3) ∧ wx.cell? ⟨w.heap.size, 1, none⟩ = some (.int .i64 1) ∧ wx.cell? ⟨w.heap.size, 2, none⟩ = some (.int .i64 0) ∧ wx.cell? ⟨w.heap.size, 3, none⟩ = some (.int .i64 2) ∧ wx.cell? ⟨w.heap.size, 4, none⟩ = some (.int .u32 0))
    (first | exact ⟨b0, b1, b2, b3, b4⟩ | go_keep)
    (first | (go_at_call 157; (with_reducible refine (is3_c _).mono ?_); (rintro _ _ ⟨rfl, rfl⟩)) | (go_at_call 77; (with_reducible refine (Bare3_c _).mono ?_); (rintro _ w2 ⟨rfl, K2⟩); (have B2 := Blk.stays (Blk.drew B) K2 (fun x => x)); (have b0 := B2.cell 0); (have b1 := B2.cell 1); (have b2 := B2.cell 2); (have b3 := B2.cell 3); (have b4 := B2.cell 4)))
  all_goals
    go_wp2_with fail
    go_ret
    exact ⟨rfl, by
      with_reducible repeat (first | apply zsd | apply zsn)
      refine Stays.trans ?_ K2
      with_reducible repeat (first | exact K0 | apply zsd | apply zsn)⟩
theorem begun22_c (w : World) (h : Name3 w) : Calls Tryz.prog 72 #[] w (Made w (.bool true)) := by
  have HN := Hd.mk h
  clear h
  have K0 : Stays (fun _ => False) w (w.alloc (.cells #[.int .i64 3, .int .i64 1, .int .i64 0, .int .i64 2, .int .u32 0] 53)) := (Stays.refl _ _).alloc _
  have B := Blk.new w 53 #[.int .i64 3, .int .i64 1, .int .i64 0, .int .i64 2, .int .u32 0]
  go_enter Tryz.func72, Tryz.ntmps72
  go_wp2_with fail
  refine (Name3_c _ (HN.out.stays K0 (fun x => x))).mono ?_
  rintro _ _ ⟨rfl, rfl⟩
  have hs : (stS.toList == [115, 116, 111, 114, 101]) = true := by decide +kernel
  go_wp2_with fail
  refine (Slots3_c _).mono ?_
  rintro _ w2 ⟨g, rfl, Bg, K2⟩
  replace B := B.stays K2 (fun x => x)
  have b0 := B.cell 0
  have b1 := B.cell 1
  have b2 := B.cell 2
  have b3 := B.cell 3
  have b4 := B.cell 4
  go_wp2_with fail
  refine (Ints2_c _ g w2.heap.size (Bg.alloc _) (Blk.new _ _ _)).mono ?_
  rintro _ w3 ⟨rfl, K3⟩
  replace B := (B.alloc _).stays K3 (fun x => x)
  have b0 := B.cell 0
  have b1 := B.cell 1
  have b2 := B.cell 2
  have b3 := B.cell 3
  have b4 := B.cell 4
  go_wp2_with fail
  refine (Plain3_c _).mono ?_
  rintro _ w4 ⟨rfl, K4⟩
  go_wp2_with fail
  refine (First2_c _ w4.heap.size (Blk.new _ _ _)).mono ?_
  rintro _ w5 ⟨rfl, K5⟩
  go_wp2_with fail
  go_ret
  exact ⟨rfl, ((((K0.trans K2).alloc _).trans K3).trans K4).alloc _ |>.trans K5⟩
end Go.Proofs.YtadhdjldcpkfiaaGreatDoor
