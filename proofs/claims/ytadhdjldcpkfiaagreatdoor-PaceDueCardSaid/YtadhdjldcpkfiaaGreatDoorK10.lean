/- PaceDue, walked. -/
import Derived.Test.YtadhdjldcpkfiaaGreatDoorDr
import Derived.Test.YtadhdjldcpkfiaaGreatDoorK9
namespace Go.Proofs.YtadhdjldcpkfiaaGreatDoor
set_option linter.unusedVariables false
set_option linter.unusedSimpArgs false
open Go.RowKit
set_option maxRecDepth 100000
set_option maxHeartbeats 1600000

theorem c5 {a b c d e : Prop} (h : a ∧ b ∧ c ∧ d ∧ e) : e := h.2.2.2.2
theorem lawDue_c (N W R K kind b : Int) (w : World) (HZ : NoneZ w) :
    Calls Tryz.prog 9 #[.agg #[.int .i64 N, .int .i64 W, .int .i64 R, .int .i64 K], .int .i64 kind, .int .i64 b] w (Made w (.bool true)) := by
  obtain ⟨v, h1, h2⟩ := due_both N W R K kind b
  obtain ⟨w0, hw0⟩ : ∃ w0, w0 = w.alloc (.cells #[.int .i64 N, .int .i64 W, .int .i64 R, .int .i64 K] 46) := ⟨_, rfl⟩
  have B0 : Blk w0 w.heap.size 46 #[.int .i64 N, .int .i64 W, .int .i64 R, .int .i64 K] := hw0 ▸ Blk.new w _ _
  have KW : Stays (fun _ => False) w w0 := hw0 ▸ (Stays.refl _ _).alloc _
  have HB : Hd (∀ wc, Stays (fun _ => False) w0 wc → Calls Tryz.prog 49 #[] wc (fun e w' => e = .returned (.bool true) ∧ Stays (fun _ => False) w0 w')) := ⟨fun wc H => (begunPace_c wc (HZ.stays (KW.trans H) (fun x => x))).mono fun e w' h => ⟨h.1, H.trans h.2⟩⟩
  have HD : Hd (∀ wc, Stays (fun _ => False) w0 wc → Calls Tryz.prog 50 #[.agg #[.int .i64 N, .int .i64 W, .int .i64 R, .int .i64 K], .int .i64 kind, .int .i64 b] wc (fun e w' => e = .returned (.int .i64 v) ∧ Stays (fun _ => False) w0 w')) := ⟨fun wc H => (h1 wc).mono fun e w' h => ⟨h.1, H.trans h.2⟩⟩
  have HR : Hd (∀ wc, Stays (fun _ => False) w0 wc → Calls Tryz.prog 51 #[.agg #[.int .i64 N, .int .i64 W, .int .i64 R, .int .i64 K], .int .i64 kind, .int .i64 b] wc (fun e w' => e = .returned (.int .i64 v) ∧ Stays (fun _ => False) w0 w')) := ⟨fun wc H => (h2 wc).mono fun e w' h => ⟨h.1, H.trans h.2⟩⟩
  have hv : (v == v) = true := beq_self_eq_true v
  clear h1 h2 HZ
  go_enter Tryz.func9, Tryz.ntmps9
  go_upto_region 1 with fail
  rw [← hw0]
  have HW := Hd.mk hw0
  clear hw0
  go_region_held3 (fun wx => wx.cell? ⟨w.heap.size, 0, none⟩ = some (.int .i64 N) ∧ wx.cell? ⟨w.heap.size, 1, none⟩ = some (.int .i64 W) ∧ wx.cell? ⟨w.heap.size, 2, none⟩ = some (.int .i64 R) ∧ wx.cell? ⟨w.heap.size, 3, none⟩ = some (.int .i64 K) ∧ Stays (fun _ => False) w0 wx)
   (first | with_reducible assumption | (refine ⟨(B0.stays (F := fun _ => False) ?_ (fun x => x)).cell 0, (B0.stays (F := fun _ => False) ?_ (fun x => x)).cell 1, (B0.stays (F := fun _ => False) ?_ (fun x => x)).cell 2, (B0.stays (F := fun _ => False) ?_ (fun x => x)).cell 3, ?_⟩ <;> (first | with_reducible assumption | exact (Stays.refl _ _).drew | (with_reducible refine Stays.drew ?_; with_reducible assumption)); done) | fail)
   (first | (go_at_call 49; refine Calls.mono (HB.out _ ?_) ?_; (focus (first | with_reducible assumption | exact c5 (by assumption))); rintro _ wx ⟨rfl, Kx⟩) | (go_at_call 50; refine Calls.mono (HD.out _ ?_) ?_; (focus (first | with_reducible assumption | exact c5 (by assumption))); rintro _ wx ⟨rfl, Kx⟩) | (go_at_call 51; refine Calls.mono (HR.out _ ?_) ?_; (focus (first | with_reducible assumption | exact c5 (by assumption))); rintro _ wx ⟨rfl, Kx⟩) | fail)
  all_goals
    go_wp2_with fail
    go_ret
    exact ⟨rfl, KW.trans (by first | assumption | (with_reducible refine Stays.drew ?_; assumption))⟩
end Go.Proofs.YtadhdjldcpkfiaaGreatDoor
