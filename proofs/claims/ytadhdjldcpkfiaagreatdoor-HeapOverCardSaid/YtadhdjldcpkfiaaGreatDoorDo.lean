/- One operation on a heap: the law's Do, and op.Do. -/
/- One operation on a heap: op.Do. -/
import Derived.Test.YtadhdjldcpkfiaaGreatDoorHb
import Derived.Test.YtadhdjldcpkfiaaGreatDoorS2
namespace Go.Proofs.YtadhdjldcpkfiaaGreatDoor
set_option linter.unusedVariables false
set_option linter.unusedSimpArgs false
open Go.RowKit
set_option maxRecDepth 100000
set_option maxHeartbeats 8000000

def doK (o : Op5) (other : GM Ans) : GM Ans :=
  if o.kind = 1 then hAlloc o.a o.b o.c >>= fun x => pure (⟨x, 0, 0, 0⟩ : Ans)
  else if o.kind = 2 then hLoad o.a o.b o.c >>= fun x => pure (⟨x, 0, 0, 0⟩ : Ans)
  else if o.kind = 3 then hStore o.a o.b o.c >>= fun x => pure (⟨x, 0, 0, 0⟩ : Ans)
  else if o.kind = 4 then hRead o.a o.b >>= fun ⟨y, x⟩ => pure (⟨x, 0, 0, y⟩ : Ans)
  else if o.kind = 5 then hWrite o.a o.b o.v >>= fun x => pure (⟨x, 0, 0, 0⟩ : Ans)
  else if o.kind = 6 then hCopy o.a o.b >>= fun x => pure (⟨x, 0, 0, 0⟩ : Ans)
  else if o.kind = 7 then hDrop o.a >>= fun x => pure (⟨x, 0, 0, 0⟩ : Ans)
  else if o.kind = 8 then hSame o.a o.b >>= fun ⟨y, x⟩ => pure (⟨x, (if y = true then 1 else 0), 0, 0⟩ : Ans)
  else if o.kind = 9 then hLen o.a >>= fun ⟨y, z, x⟩ => pure (⟨x, y, z, 0⟩ : Ans)
  else other
def doTick : GM Ans := hTick >>= fun x => pure (⟨x, 0, 0, 0⟩ : Ans)
def doL (o : Op5) : GM Ans := doK o doTick
def doO (o : Op5) : GM Ans := doK o (if o.kind = 10 then doTick else pure (⟨9, 0, 0, 0⟩ : Ans))
theorem doO_doL (o : Op5) (h0 : 1 ≤ o.kind) (h1 : o.kind ≤ 10) : doO o = doL o := by
  unfold doO doL doK
  by_cases h : o.kind = 10
  · rw [if_pos h]
  · rw [if_neg h]
    repeat' split
    all_goals first | rfl | omega
theorem doO_none (o : Op5) (h : o.kind < 1 ∨ 10 < o.kind) : doO o = pure (⟨9, 0, 0, 0⟩ : Ans) := by
  unfold doO doK
  repeat' split
  all_goals first | rfl | omega

theorem doL_c {A : GA} {hb : Nat} {S : GS} {w : World} (H : HeapAt A hb S w) {o : Op5} (hv : 0 ≤ o.v ∧ o.v ≤ 4294967295) {x0 : Ans} {T : GS} (e : doL o S = (x0, T)) :
    Calls Tryz.prog 57 #[.pointer (some ⟨hb, 0, none⟩), o.val] w (fun e w' => e = .returned x0.val ∧ HeapAt A hb T w' ∧ Stays A.foot w w') := by
  obtain ⟨kd, a, b, c, v⟩ := o
  obtain ⟨hv0, hv1⟩ := hv
  unfold doL doK at e
  simp only [] at e hv0 hv1
  unfold Op5.val Ans.val
  have hnb : ¬ A.foot w.heap.size := GA.foot_far H.held.top
  have hnb1 : ¬ A.foot (w.heap.size + 1) := GA.foot_far (Nat.le_trans H.held.top (Nat.le_add_right _ 1))
  have hnb2 : ¬ A.foot (w.heap.size + 2) := GA.foot_far (Nat.le_trans H.held.top (Nat.le_add_right _ 2))
  have hne : hb ≠ w.heap.size := Nat.ne_of_lt H.box.lt
  have hne1 : hb ≠ w.heap.size + 1 := by have := H.box.lt; omega
  have hne2 : hb ≠ w.heap.size + 2 := by have := H.box.lt; omega
  by_cases c1 : kd = 1
  · subst c1
    rw [if_pos rfl] at e
    replace e := GM.bind_eq e
    obtain ⟨x, S1, e1, e⟩ := e
    have E1 := Hd.mk e1
    obtain ⟨rfl, rfl⟩ := GM.pure_eq e
    clear e e1
    have Bo : Blk ((w.alloc (.cells #[.int .i64 1, .int .i64 a, .int .i64 b, .int .i64 c, .int .u32 v] 53)).alloc (.cells #[.int .i64 0, .int .i64 0, .int .i64 0, .int .u32 0] 56)) w.heap.size 53 #[.int .i64 1, .int .i64 a, .int .i64 b, .int .i64 c, .int .u32 v] := ((Blk.new w _ _).alloc _)
    have Bz0 : Blk ((w.alloc (.cells #[.int .i64 1, .int .i64 a, .int .i64 b, .int .i64 c, .int .u32 v] 53)).alloc (.cells #[.int .i64 0, .int .i64 0, .int .i64 0, .int .u32 0] 56)) (w.heap.size + 1) 56 #[.int .i64 0, .int .i64 0, .int .i64 0, .int .u32 0] := by
      have h := Blk.new (w.alloc (.cells #[.int .i64 1, .int .i64 a, .int .i64 b, .int .i64 c, .int .u32 v] 53)) 56 #[.int .i64 0, .int .i64 0, .int .i64 0, .int .u32 0]
      simpa using h
    have K0 : Stays (fun _ => False) w ((w.alloc (.cells #[.int .i64 1, .int .i64 a, .int .i64 b, .int .i64 c, .int .u32 v] 53)).alloc (.cells #[.int .i64 0, .int .i64 0, .int .i64 0, .int .u32 0] 56)) := (((Stays.refl (fun _ => False) w).alloc _).alloc _)
    have HH := H.stays K0 (fun _ _ x => x) (fun x => x)
    have co0 := Bo.cell 0
    have co1 := Bo.cell 1
    have co2 := Bo.cell 2
    have co3 := Bo.cell 3
    have co4 := Bo.cell 4
    go_enter Tryz.func57, Tryz.ntmps57
    go_wp2_with fail
    refine (hAlloc_c HH.held HH.far HH.box E1.out).mono ?_
    rintro _ w1 ⟨rfl, H1, K1⟩
    have HA := HH.next H1 K1
    have Bz0 := Bz0.stays K1 hnb1
    go_wp2_with (refine wpList_store_blk rfl _ _ _ rfl (w.heap.size + 1) rfl 56 _ _ rfl Bz0 (by kernel_rfl) rfl (by simp [Value.oneCell']) ?_; intro wz Bz0Z KZ)
    refine bodyPost_ret (results_blk (P := Tryz.prog) (p := 4) (ty := 56) rfl _ _ (w.heap.size + 1) 56 _ _ rfl Bz0Z Tryz.underlying56 rfl (by kernel_rfl)) rfl ?_
    have KA : Stays A.foot w wz := (((K0.mono (fun _ x => x.elim)).trans K1).own KZ (Nat.le_add_right _ 1))
    exact ⟨rfl, (HA.stays KZ (fun _ hb x => GA.far (Nat.le_trans H.held.top (Nat.le_add_right _ 1)) hb x) hne1), KA⟩
  have d1 : (kd == 1) = false := beq_eq_false_iff_ne.2 c1
  by_cases c2 : kd = 2
  · subst c2
    rw [if_neg (by decide), if_pos rfl] at e
    replace e := GM.bind_eq e
    obtain ⟨x, S1, e1, e⟩ := e
    have E1 := Hd.mk e1
    obtain ⟨rfl, rfl⟩ := GM.pure_eq e
    clear e e1
    have Bo : Blk ((w.alloc (.cells #[.int .i64 2, .int .i64 a, .int .i64 b, .int .i64 c, .int .u32 v] 53)).alloc (.cells #[.int .i64 0, .int .i64 0, .int .i64 0, .int .u32 0] 56)) w.heap.size 53 #[.int .i64 2, .int .i64 a, .int .i64 b, .int .i64 c, .int .u32 v] := ((Blk.new w _ _).alloc _)
    have Bz0 : Blk ((w.alloc (.cells #[.int .i64 2, .int .i64 a, .int .i64 b, .int .i64 c, .int .u32 v] 53)).alloc (.cells #[.int .i64 0, .int .i64 0, .int .i64 0, .int .u32 0] 56)) (w.heap.size + 1) 56 #[.int .i64 0, .int .i64 0, .int .i64 0, .int .u32 0] := by
      have h := Blk.new (w.alloc (.cells #[.int .i64 2, .int .i64 a, .int .i64 b, .int .i64 c, .int .u32 v] 53)) 56 #[.int .i64 0, .int .i64 0, .int .i64 0, .int .u32 0]
      simpa using h
    have K0 : Stays (fun _ => False) w ((w.alloc (.cells #[.int .i64 2, .int .i64 a, .int .i64 b, .int .i64 c, .int .u32 v] 53)).alloc (.cells #[.int .i64 0, .int .i64 0, .int .i64 0, .int .u32 0] 56)) := (((Stays.refl (fun _ => False) w).alloc _).alloc _)
    have HH := H.stays K0 (fun _ _ x => x) (fun x => x)
    have co0 := Bo.cell 0
    have co1 := Bo.cell 1
    have co2 := Bo.cell 2
    have co3 := Bo.cell 3
    have co4 := Bo.cell 4
    go_enter Tryz.func57, Tryz.ntmps57
    go_wp2_with fail
    refine (hLoad_c HH.held HH.far HH.box E1.out).mono ?_
    rintro _ w1 ⟨rfl, H1, K1⟩
    have HA := HH.next H1 K1
    have Bz0 := Bz0.stays K1 hnb1
    go_wp2_with (refine wpList_store_blk rfl _ _ _ rfl (w.heap.size + 1) rfl 56 _ _ rfl Bz0 (by kernel_rfl) rfl (by simp [Value.oneCell']) ?_; intro wz Bz0Z KZ)
    refine bodyPost_ret (results_blk (P := Tryz.prog) (p := 4) (ty := 56) rfl _ _ (w.heap.size + 1) 56 _ _ rfl Bz0Z Tryz.underlying56 rfl (by kernel_rfl)) rfl ?_
    have KA : Stays A.foot w wz := (((K0.mono (fun _ x => x.elim)).trans K1).own KZ (Nat.le_add_right _ 1))
    exact ⟨rfl, (HA.stays KZ (fun _ hb x => GA.far (Nat.le_trans H.held.top (Nat.le_add_right _ 1)) hb x) hne1), KA⟩
  have d2 : (kd == 2) = false := beq_eq_false_iff_ne.2 c2
  by_cases c3 : kd = 3
  · subst c3
    rw [if_neg (by decide), if_neg (by decide), if_pos rfl] at e
    replace e := GM.bind_eq e
    obtain ⟨x, S1, e1, e⟩ := e
    have E1 := Hd.mk e1
    obtain ⟨rfl, rfl⟩ := GM.pure_eq e
    clear e e1
    have Bo : Blk ((w.alloc (.cells #[.int .i64 3, .int .i64 a, .int .i64 b, .int .i64 c, .int .u32 v] 53)).alloc (.cells #[.int .i64 0, .int .i64 0, .int .i64 0, .int .u32 0] 56)) w.heap.size 53 #[.int .i64 3, .int .i64 a, .int .i64 b, .int .i64 c, .int .u32 v] := ((Blk.new w _ _).alloc _)
    have Bz0 : Blk ((w.alloc (.cells #[.int .i64 3, .int .i64 a, .int .i64 b, .int .i64 c, .int .u32 v] 53)).alloc (.cells #[.int .i64 0, .int .i64 0, .int .i64 0, .int .u32 0] 56)) (w.heap.size + 1) 56 #[.int .i64 0, .int .i64 0, .int .i64 0, .int .u32 0] := by
      have h := Blk.new (w.alloc (.cells #[.int .i64 3, .int .i64 a, .int .i64 b, .int .i64 c, .int .u32 v] 53)) 56 #[.int .i64 0, .int .i64 0, .int .i64 0, .int .u32 0]
      simpa using h
    have K0 : Stays (fun _ => False) w ((w.alloc (.cells #[.int .i64 3, .int .i64 a, .int .i64 b, .int .i64 c, .int .u32 v] 53)).alloc (.cells #[.int .i64 0, .int .i64 0, .int .i64 0, .int .u32 0] 56)) := (((Stays.refl (fun _ => False) w).alloc _).alloc _)
    have HH := H.stays K0 (fun _ _ x => x) (fun x => x)
    have co0 := Bo.cell 0
    have co1 := Bo.cell 1
    have co2 := Bo.cell 2
    have co3 := Bo.cell 3
    have co4 := Bo.cell 4
    go_enter Tryz.func57, Tryz.ntmps57
    go_wp2_with fail
    refine (hStore_c HH.held HH.far HH.box E1.out).mono ?_
    rintro _ w1 ⟨rfl, H1, K1⟩
    have HA := HH.next H1 K1
    have Bz0 := Bz0.stays K1 hnb1
    go_wp2_with (refine wpList_store_blk rfl _ _ _ rfl (w.heap.size + 1) rfl 56 _ _ rfl Bz0 (by kernel_rfl) rfl (by simp [Value.oneCell']) ?_; intro wz Bz0Z KZ)
    refine bodyPost_ret (results_blk (P := Tryz.prog) (p := 4) (ty := 56) rfl _ _ (w.heap.size + 1) 56 _ _ rfl Bz0Z Tryz.underlying56 rfl (by kernel_rfl)) rfl ?_
    have KA : Stays A.foot w wz := (((K0.mono (fun _ x => x.elim)).trans K1).own KZ (Nat.le_add_right _ 1))
    exact ⟨rfl, (HA.stays KZ (fun _ hb x => GA.far (Nat.le_trans H.held.top (Nat.le_add_right _ 1)) hb x) hne1), KA⟩
  have d3 : (kd == 3) = false := beq_eq_false_iff_ne.2 c3
  by_cases c4 : kd = 4
  · subst c4
    rw [if_neg (by decide), if_neg (by decide), if_neg (by decide), if_pos rfl] at e
    replace e := GM.bind_eq e
    obtain ⟨⟨y, x⟩, S1, e1, e⟩ := e
    have E1 := Hd.mk e1
    obtain ⟨rfl, rfl⟩ := GM.pure_eq e
    clear e e1
    have Bo : Blk ((w.alloc (.cells #[.int .i64 4, .int .i64 a, .int .i64 b, .int .i64 c, .int .u32 v] 53)).alloc (.cells #[.int .i64 0, .int .i64 0, .int .i64 0, .int .u32 0] 56)) w.heap.size 53 #[.int .i64 4, .int .i64 a, .int .i64 b, .int .i64 c, .int .u32 v] := ((Blk.new w _ _).alloc _)
    have Bz0 : Blk ((w.alloc (.cells #[.int .i64 4, .int .i64 a, .int .i64 b, .int .i64 c, .int .u32 v] 53)).alloc (.cells #[.int .i64 0, .int .i64 0, .int .i64 0, .int .u32 0] 56)) (w.heap.size + 1) 56 #[.int .i64 0, .int .i64 0, .int .i64 0, .int .u32 0] := by
      have h := Blk.new (w.alloc (.cells #[.int .i64 4, .int .i64 a, .int .i64 b, .int .i64 c, .int .u32 v] 53)) 56 #[.int .i64 0, .int .i64 0, .int .i64 0, .int .u32 0]
      simpa using h
    have K0 : Stays (fun _ => False) w ((w.alloc (.cells #[.int .i64 4, .int .i64 a, .int .i64 b, .int .i64 c, .int .u32 v] 53)).alloc (.cells #[.int .i64 0, .int .i64 0, .int .i64 0, .int .u32 0] 56)) := (((Stays.refl (fun _ => False) w).alloc _).alloc _)
    have HH := H.stays K0 (fun _ _ x => x) (fun x => x)
    have co0 := Bo.cell 0
    have co1 := Bo.cell 1
    have co2 := Bo.cell 2
    have co3 := Bo.cell 3
    have co4 := Bo.cell 4
    go_enter Tryz.func57, Tryz.ntmps57
    go_wp2_with fail
    refine (hRead_c HH.held HH.far HH.box E1.out).mono ?_
    rintro _ w1 ⟨rfl, H1, K1⟩
    have HA := HH.next H1 K1
    have Bz0 := Bz0.stays K1 hnb1
    go_wp2_with (refine wpList_store_blk rfl _ _ _ rfl (w.heap.size + 1) rfl 56 _ _ rfl Bz0 (by kernel_rfl) rfl (by simp [Value.oneCell']) ?_; intro wz Bz0Z KZ)
    refine bodyPost_ret (results_blk (P := Tryz.prog) (p := 4) (ty := 56) rfl _ _ (w.heap.size + 1) 56 _ _ rfl Bz0Z Tryz.underlying56 rfl (by kernel_rfl)) rfl ?_
    have KA : Stays A.foot w wz := (((K0.mono (fun _ x => x.elim)).trans K1).own KZ (Nat.le_add_right _ 1))
    exact ⟨rfl, (HA.stays KZ (fun _ hb x => GA.far (Nat.le_trans H.held.top (Nat.le_add_right _ 1)) hb x) hne1), KA⟩
  have d4 : (kd == 4) = false := beq_eq_false_iff_ne.2 c4
  by_cases c5 : kd = 5
  · subst c5
    rw [if_neg (by decide), if_neg (by decide), if_neg (by decide), if_neg (by decide), if_pos rfl] at e
    replace e := GM.bind_eq e
    obtain ⟨x, S1, e1, e⟩ := e
    have E1 := Hd.mk e1
    obtain ⟨rfl, rfl⟩ := GM.pure_eq e
    clear e e1
    have Bo : Blk ((w.alloc (.cells #[.int .i64 5, .int .i64 a, .int .i64 b, .int .i64 c, .int .u32 v] 53)).alloc (.cells #[.int .i64 0, .int .i64 0, .int .i64 0, .int .u32 0] 56)) w.heap.size 53 #[.int .i64 5, .int .i64 a, .int .i64 b, .int .i64 c, .int .u32 v] := ((Blk.new w _ _).alloc _)
    have Bz0 : Blk ((w.alloc (.cells #[.int .i64 5, .int .i64 a, .int .i64 b, .int .i64 c, .int .u32 v] 53)).alloc (.cells #[.int .i64 0, .int .i64 0, .int .i64 0, .int .u32 0] 56)) (w.heap.size + 1) 56 #[.int .i64 0, .int .i64 0, .int .i64 0, .int .u32 0] := by
      have h := Blk.new (w.alloc (.cells #[.int .i64 5, .int .i64 a, .int .i64 b, .int .i64 c, .int .u32 v] 53)) 56 #[.int .i64 0, .int .i64 0, .int .i64 0, .int .u32 0]
      simpa using h
    have K0 : Stays (fun _ => False) w ((w.alloc (.cells #[.int .i64 5, .int .i64 a, .int .i64 b, .int .i64 c, .int .u32 v] 53)).alloc (.cells #[.int .i64 0, .int .i64 0, .int .i64 0, .int .u32 0] 56)) := (((Stays.refl (fun _ => False) w).alloc _).alloc _)
    have HH := H.stays K0 (fun _ _ x => x) (fun x => x)
    have co0 := Bo.cell 0
    have co1 := Bo.cell 1
    have co2 := Bo.cell 2
    have co3 := Bo.cell 3
    have co4 := Bo.cell 4
    go_enter Tryz.func57, Tryz.ntmps57
    go_wp2_with fail
    refine (hWrite_c HH.held hv0 hv1 HH.far HH.box E1.out).mono ?_
    rintro _ w1 ⟨rfl, H1, K1⟩
    have HA := HH.next H1 K1
    have Bz0 := Bz0.stays K1 hnb1
    go_wp2_with (refine wpList_store_blk rfl _ _ _ rfl (w.heap.size + 1) rfl 56 _ _ rfl Bz0 (by kernel_rfl) rfl (by simp [Value.oneCell']) ?_; intro wz Bz0Z KZ)
    refine bodyPost_ret (results_blk (P := Tryz.prog) (p := 4) (ty := 56) rfl _ _ (w.heap.size + 1) 56 _ _ rfl Bz0Z Tryz.underlying56 rfl (by kernel_rfl)) rfl ?_
    have KA : Stays A.foot w wz := (((K0.mono (fun _ x => x.elim)).trans K1).own KZ (Nat.le_add_right _ 1))
    exact ⟨rfl, (HA.stays KZ (fun _ hb x => GA.far (Nat.le_trans H.held.top (Nat.le_add_right _ 1)) hb x) hne1), KA⟩
  have d5 : (kd == 5) = false := beq_eq_false_iff_ne.2 c5
  by_cases c6 : kd = 6
  · subst c6
    rw [if_neg (by decide), if_neg (by decide), if_neg (by decide), if_neg (by decide), if_neg (by decide), if_pos rfl] at e
    replace e := GM.bind_eq e
    obtain ⟨x, S1, e1, e⟩ := e
    have E1 := Hd.mk e1
    obtain ⟨rfl, rfl⟩ := GM.pure_eq e
    clear e e1
    have Bo : Blk ((w.alloc (.cells #[.int .i64 6, .int .i64 a, .int .i64 b, .int .i64 c, .int .u32 v] 53)).alloc (.cells #[.int .i64 0, .int .i64 0, .int .i64 0, .int .u32 0] 56)) w.heap.size 53 #[.int .i64 6, .int .i64 a, .int .i64 b, .int .i64 c, .int .u32 v] := ((Blk.new w _ _).alloc _)
    have Bz0 : Blk ((w.alloc (.cells #[.int .i64 6, .int .i64 a, .int .i64 b, .int .i64 c, .int .u32 v] 53)).alloc (.cells #[.int .i64 0, .int .i64 0, .int .i64 0, .int .u32 0] 56)) (w.heap.size + 1) 56 #[.int .i64 0, .int .i64 0, .int .i64 0, .int .u32 0] := by
      have h := Blk.new (w.alloc (.cells #[.int .i64 6, .int .i64 a, .int .i64 b, .int .i64 c, .int .u32 v] 53)) 56 #[.int .i64 0, .int .i64 0, .int .i64 0, .int .u32 0]
      simpa using h
    have K0 : Stays (fun _ => False) w ((w.alloc (.cells #[.int .i64 6, .int .i64 a, .int .i64 b, .int .i64 c, .int .u32 v] 53)).alloc (.cells #[.int .i64 0, .int .i64 0, .int .i64 0, .int .u32 0] 56)) := (((Stays.refl (fun _ => False) w).alloc _).alloc _)
    have HH := H.stays K0 (fun _ _ x => x) (fun x => x)
    have co0 := Bo.cell 0
    have co1 := Bo.cell 1
    have co2 := Bo.cell 2
    have co3 := Bo.cell 3
    have co4 := Bo.cell 4
    go_enter Tryz.func57, Tryz.ntmps57
    go_wp2_with fail
    refine (hCopy_c HH.held HH.far HH.box E1.out).mono ?_
    rintro _ w1 ⟨rfl, H1, K1⟩
    have HA := HH.next H1 K1
    have Bz0 := Bz0.stays K1 hnb1
    go_wp2_with (refine wpList_store_blk rfl _ _ _ rfl (w.heap.size + 1) rfl 56 _ _ rfl Bz0 (by kernel_rfl) rfl (by simp [Value.oneCell']) ?_; intro wz Bz0Z KZ)
    refine bodyPost_ret (results_blk (P := Tryz.prog) (p := 4) (ty := 56) rfl _ _ (w.heap.size + 1) 56 _ _ rfl Bz0Z Tryz.underlying56 rfl (by kernel_rfl)) rfl ?_
    have KA : Stays A.foot w wz := (((K0.mono (fun _ x => x.elim)).trans K1).own KZ (Nat.le_add_right _ 1))
    exact ⟨rfl, (HA.stays KZ (fun _ hb x => GA.far (Nat.le_trans H.held.top (Nat.le_add_right _ 1)) hb x) hne1), KA⟩
  have d6 : (kd == 6) = false := beq_eq_false_iff_ne.2 c6
  by_cases c7 : kd = 7
  · subst c7
    rw [if_neg (by decide), if_neg (by decide), if_neg (by decide), if_neg (by decide), if_neg (by decide), if_neg (by decide), if_pos rfl] at e
    replace e := GM.bind_eq e
    obtain ⟨x, S1, e1, e⟩ := e
    have E1 := Hd.mk e1
    obtain ⟨rfl, rfl⟩ := GM.pure_eq e
    clear e e1
    have Bo : Blk ((w.alloc (.cells #[.int .i64 7, .int .i64 a, .int .i64 b, .int .i64 c, .int .u32 v] 53)).alloc (.cells #[.int .i64 0, .int .i64 0, .int .i64 0, .int .u32 0] 56)) w.heap.size 53 #[.int .i64 7, .int .i64 a, .int .i64 b, .int .i64 c, .int .u32 v] := ((Blk.new w _ _).alloc _)
    have Bz0 : Blk ((w.alloc (.cells #[.int .i64 7, .int .i64 a, .int .i64 b, .int .i64 c, .int .u32 v] 53)).alloc (.cells #[.int .i64 0, .int .i64 0, .int .i64 0, .int .u32 0] 56)) (w.heap.size + 1) 56 #[.int .i64 0, .int .i64 0, .int .i64 0, .int .u32 0] := by
      have h := Blk.new (w.alloc (.cells #[.int .i64 7, .int .i64 a, .int .i64 b, .int .i64 c, .int .u32 v] 53)) 56 #[.int .i64 0, .int .i64 0, .int .i64 0, .int .u32 0]
      simpa using h
    have K0 : Stays (fun _ => False) w ((w.alloc (.cells #[.int .i64 7, .int .i64 a, .int .i64 b, .int .i64 c, .int .u32 v] 53)).alloc (.cells #[.int .i64 0, .int .i64 0, .int .i64 0, .int .u32 0] 56)) := (((Stays.refl (fun _ => False) w).alloc _).alloc _)
    have HH := H.stays K0 (fun _ _ x => x) (fun x => x)
    have co0 := Bo.cell 0
    have co1 := Bo.cell 1
    have co2 := Bo.cell 2
    have co3 := Bo.cell 3
    have co4 := Bo.cell 4
    go_enter Tryz.func57, Tryz.ntmps57
    go_wp2_with fail
    refine (hDrop_c HH.held HH.far HH.box E1.out).mono ?_
    rintro _ w1 ⟨rfl, H1, K1⟩
    have HA := HH.next H1 K1
    have Bz0 := Bz0.stays K1 hnb1
    go_wp2_with (refine wpList_store_blk rfl _ _ _ rfl (w.heap.size + 1) rfl 56 _ _ rfl Bz0 (by kernel_rfl) rfl (by simp [Value.oneCell']) ?_; intro wz Bz0Z KZ)
    refine bodyPost_ret (results_blk (P := Tryz.prog) (p := 4) (ty := 56) rfl _ _ (w.heap.size + 1) 56 _ _ rfl Bz0Z Tryz.underlying56 rfl (by kernel_rfl)) rfl ?_
    have KA : Stays A.foot w wz := (((K0.mono (fun _ x => x.elim)).trans K1).own KZ (Nat.le_add_right _ 1))
    exact ⟨rfl, (HA.stays KZ (fun _ hb x => GA.far (Nat.le_trans H.held.top (Nat.le_add_right _ 1)) hb x) hne1), KA⟩
  have d7 : (kd == 7) = false := beq_eq_false_iff_ne.2 c7
  by_cases c8 : kd = 8
  · subst c8
    rw [if_neg (by decide), if_neg (by decide), if_neg (by decide), if_neg (by decide), if_neg (by decide), if_neg (by decide), if_neg (by decide), if_pos rfl] at e
    replace e := GM.bind_eq e
    obtain ⟨⟨y, x⟩, S1, e1, e⟩ := e
    have E1 := Hd.mk e1
    obtain ⟨rfl, rfl⟩ := GM.pure_eq e
    clear e e1
    have Bo : Blk ((w.alloc (.cells #[.int .i64 8, .int .i64 a, .int .i64 b, .int .i64 c, .int .u32 v] 53)).alloc (.cells #[.int .i64 0, .int .i64 0, .int .i64 0, .int .u32 0] 56)) w.heap.size 53 #[.int .i64 8, .int .i64 a, .int .i64 b, .int .i64 c, .int .u32 v] := ((Blk.new w _ _).alloc _)
    have Bz0 : Blk ((w.alloc (.cells #[.int .i64 8, .int .i64 a, .int .i64 b, .int .i64 c, .int .u32 v] 53)).alloc (.cells #[.int .i64 0, .int .i64 0, .int .i64 0, .int .u32 0] 56)) (w.heap.size + 1) 56 #[.int .i64 0, .int .i64 0, .int .i64 0, .int .u32 0] := by
      have h := Blk.new (w.alloc (.cells #[.int .i64 8, .int .i64 a, .int .i64 b, .int .i64 c, .int .u32 v] 53)) 56 #[.int .i64 0, .int .i64 0, .int .i64 0, .int .u32 0]
      simpa using h
    have K0 : Stays (fun _ => False) w ((w.alloc (.cells #[.int .i64 8, .int .i64 a, .int .i64 b, .int .i64 c, .int .u32 v] 53)).alloc (.cells #[.int .i64 0, .int .i64 0, .int .i64 0, .int .u32 0] 56)) := (((Stays.refl (fun _ => False) w).alloc _).alloc _)
    have HH := H.stays K0 (fun _ _ x => x) (fun x => x)
    have co0 := Bo.cell 0
    have co1 := Bo.cell 1
    have co2 := Bo.cell 2
    have co3 := Bo.cell 3
    have co4 := Bo.cell 4
    cases y
    · go_enter Tryz.func57, Tryz.ntmps57
      go_wp2_with fail
      refine (hSame_c HH.held HH.far HH.box E1.out).mono ?_
      rintro _ w1 ⟨rfl, H1, K1⟩
      have HA := HH.next H1 K1
      have Bz0 := Bz0.stays K1 hnb1
      go_wp2_with (refine wpList_store_blk rfl _ _ _ rfl (w.heap.size + 1) rfl 56 _ _ rfl Bz0 (by kernel_rfl) rfl (by simp [Value.oneCell']) ?_; intro wz Bz0Z KZ)
      refine bodyPost_ret (results_blk (P := Tryz.prog) (p := 4) (ty := 56) rfl _ _ (w.heap.size + 1) 56 _ _ rfl Bz0Z Tryz.underlying56 rfl (by kernel_rfl)) rfl ?_
      have KA : Stays A.foot w wz := (((K0.mono (fun _ x => x.elim)).trans K1).own KZ (Nat.le_add_right _ 1))
      exact ⟨rfl, (HA.stays KZ (fun _ hb x => GA.far (Nat.le_trans H.held.top (Nat.le_add_right _ 1)) hb x) hne1), KA⟩
    · go_enter Tryz.func57, Tryz.ntmps57
      go_wp2_with fail
      refine (hSame_c HH.held HH.far HH.box E1.out).mono ?_
      rintro _ w1 ⟨rfl, H1, K1⟩
      have HA := HH.next H1 K1
      have Bz0 := Bz0.stays K1 hnb1
      go_wp2_with (refine wpList_store_blk rfl _ _ _ rfl (w.heap.size + 1) rfl 56 _ _ rfl Bz0 (by kernel_rfl) rfl (by simp [Value.oneCell']) ?_; intro wz Bz0Z KZ)
      refine bodyPost_ret (results_blk (P := Tryz.prog) (p := 4) (ty := 56) rfl _ _ (w.heap.size + 1) 56 _ _ rfl Bz0Z Tryz.underlying56 rfl (by kernel_rfl)) rfl ?_
      have KA : Stays A.foot w wz := (((K0.mono (fun _ x => x.elim)).trans K1).own KZ (Nat.le_add_right _ 1))
      exact ⟨rfl, (HA.stays KZ (fun _ hb x => GA.far (Nat.le_trans H.held.top (Nat.le_add_right _ 1)) hb x) hne1), KA⟩
  have d8 : (kd == 8) = false := beq_eq_false_iff_ne.2 c8
  by_cases c9 : kd = 9
  · subst c9
    rw [if_neg (by decide), if_neg (by decide), if_neg (by decide), if_neg (by decide), if_neg (by decide), if_neg (by decide), if_neg (by decide), if_neg (by decide), if_pos rfl] at e
    replace e := GM.bind_eq e
    obtain ⟨⟨y, z, x⟩, S1, e1, e⟩ := e
    have E1 := Hd.mk e1
    obtain ⟨rfl, rfl⟩ := GM.pure_eq e
    clear e e1
    have Bo : Blk ((w.alloc (.cells #[.int .i64 9, .int .i64 a, .int .i64 b, .int .i64 c, .int .u32 v] 53)).alloc (.cells #[.int .i64 0, .int .i64 0, .int .i64 0, .int .u32 0] 56)) w.heap.size 53 #[.int .i64 9, .int .i64 a, .int .i64 b, .int .i64 c, .int .u32 v] := ((Blk.new w _ _).alloc _)
    have Bz0 : Blk ((w.alloc (.cells #[.int .i64 9, .int .i64 a, .int .i64 b, .int .i64 c, .int .u32 v] 53)).alloc (.cells #[.int .i64 0, .int .i64 0, .int .i64 0, .int .u32 0] 56)) (w.heap.size + 1) 56 #[.int .i64 0, .int .i64 0, .int .i64 0, .int .u32 0] := by
      have h := Blk.new (w.alloc (.cells #[.int .i64 9, .int .i64 a, .int .i64 b, .int .i64 c, .int .u32 v] 53)) 56 #[.int .i64 0, .int .i64 0, .int .i64 0, .int .u32 0]
      simpa using h
    have K0 : Stays (fun _ => False) w ((w.alloc (.cells #[.int .i64 9, .int .i64 a, .int .i64 b, .int .i64 c, .int .u32 v] 53)).alloc (.cells #[.int .i64 0, .int .i64 0, .int .i64 0, .int .u32 0] 56)) := (((Stays.refl (fun _ => False) w).alloc _).alloc _)
    have HH := H.stays K0 (fun _ _ x => x) (fun x => x)
    have co0 := Bo.cell 0
    have co1 := Bo.cell 1
    have co2 := Bo.cell 2
    have co3 := Bo.cell 3
    have co4 := Bo.cell 4
    go_enter Tryz.func57, Tryz.ntmps57
    go_wp2_with fail
    refine (hLen_c HH.held HH.far HH.box E1.out).mono ?_
    rintro _ w1 ⟨rfl, H1, K1⟩
    have HA := HH.next H1 K1
    have Bz0 := Bz0.stays K1 hnb1
    go_wp2_with (refine wpList_store_blk rfl _ _ _ rfl (w.heap.size + 1) rfl 56 _ _ rfl Bz0 (by kernel_rfl) rfl (by simp [Value.oneCell']) ?_; intro wz Bz0Z KZ)
    refine bodyPost_ret (results_blk (P := Tryz.prog) (p := 4) (ty := 56) rfl _ _ (w.heap.size + 1) 56 _ _ rfl Bz0Z Tryz.underlying56 rfl (by kernel_rfl)) rfl ?_
    have KA : Stays A.foot w wz := (((K0.mono (fun _ x => x.elim)).trans K1).own KZ (Nat.le_add_right _ 1))
    exact ⟨rfl, (HA.stays KZ (fun _ hb x => GA.far (Nat.le_trans H.held.top (Nat.le_add_right _ 1)) hb x) hne1), KA⟩
  have d9 : (kd == 9) = false := beq_eq_false_iff_ne.2 c9
  rw [if_neg c1, if_neg c2, if_neg c3, if_neg c4, if_neg c5, if_neg c6, if_neg c7, if_neg c8, if_neg c9] at e
  unfold doTick at e
  replace e := GM.bind_eq e
  obtain ⟨x, S1, e1, e⟩ := e
  have E1 := Hd.mk e1
  obtain ⟨rfl, rfl⟩ := GM.pure_eq e
  clear e e1
  have Bo : Blk ((w.alloc (.cells #[.int .i64 kd, .int .i64 a, .int .i64 b, .int .i64 c, .int .u32 v] 53)).alloc (.cells #[.int .i64 0, .int .i64 0, .int .i64 0, .int .u32 0] 56)) w.heap.size 53 #[.int .i64 kd, .int .i64 a, .int .i64 b, .int .i64 c, .int .u32 v] := ((Blk.new w _ _).alloc _)
  have Bz0 : Blk ((w.alloc (.cells #[.int .i64 kd, .int .i64 a, .int .i64 b, .int .i64 c, .int .u32 v] 53)).alloc (.cells #[.int .i64 0, .int .i64 0, .int .i64 0, .int .u32 0] 56)) (w.heap.size + 1) 56 #[.int .i64 0, .int .i64 0, .int .i64 0, .int .u32 0] := by
    have h := Blk.new (w.alloc (.cells #[.int .i64 kd, .int .i64 a, .int .i64 b, .int .i64 c, .int .u32 v] 53)) 56 #[.int .i64 0, .int .i64 0, .int .i64 0, .int .u32 0]
    simpa using h
  have K0 : Stays (fun _ => False) w ((w.alloc (.cells #[.int .i64 kd, .int .i64 a, .int .i64 b, .int .i64 c, .int .u32 v] 53)).alloc (.cells #[.int .i64 0, .int .i64 0, .int .i64 0, .int .u32 0] 56)) := (((Stays.refl (fun _ => False) w).alloc _).alloc _)
  have HH := H.stays K0 (fun _ _ x => x) (fun x => x)
  have co0 := Bo.cell 0
  have co1 := Bo.cell 1
  have co2 := Bo.cell 2
  have co3 := Bo.cell 3
  have co4 := Bo.cell 4
  go_enter Tryz.func57, Tryz.ntmps57
  go_wp2_with fail
  refine (hTick_c HH.held HH.far HH.box E1.out).mono ?_
  rintro _ w1 ⟨rfl, H1, K1⟩
  have HA := HH.next H1 K1
  have Bz0 := Bz0.stays K1 hnb1
  go_wp2_with (refine wpList_store_blk rfl _ _ _ rfl (w.heap.size + 1) rfl 56 _ _ rfl Bz0 (by kernel_rfl) rfl (by simp [Value.oneCell']) ?_; intro wz Bz0Z KZ)
  refine bodyPost_ret (results_blk (P := Tryz.prog) (p := 4) (ty := 56) rfl _ _ (w.heap.size + 1) 56 _ _ rfl Bz0Z Tryz.underlying56 rfl (by kernel_rfl)) rfl ?_
  have KA : Stays A.foot w wz := (((K0.mono (fun _ x => x.elim)).trans K1).own KZ (Nat.le_add_right _ 1))
  exact ⟨rfl, (HA.stays KZ (fun _ hb x => GA.far (Nat.le_trans H.held.top (Nat.le_add_right _ 1)) hb x) hne1), KA⟩

theorem failed_c (x : Int) (w : World) :
    Calls Tryz.prog 155 #[.int .i64 x] w (Made w (.agg #[.int .i64 x, .int .i64 0, .int .i64 0, .int .u32 0])) := by
  have Bz := Blk.new w 56 #[.int .i64 0, .int .i64 0, .int .i64 0, .int .u32 0]
  go_enter Tryz.func155, Tryz.ntmps155
  go_wp2_with (refine wpList_store_blk rfl _ _ _ rfl (w.heap.size) rfl 56 _ _ rfl Bz (by kernel_rfl) rfl (by simp [Value.oneCell']) ?_; intro wz BZ KZ)
  refine bodyPost_ret (results_blk (P := Tryz.prog) (p := 2) (ty := 56) rfl _ _ (w.heap.size) 56 _ _ rfl BZ Tryz.underlying56 rfl (by kernel_rfl)) rfl ?_
  exact ⟨rfl, ((Stays.refl _ _).alloc _).own KZ (Nat.le_refl _)⟩

end Go.Proofs.YtadhdjldcpkfiaaGreatDoor
namespace Go.Proofs.YtadhdjldcpkfiaaGreatDoor
set_option linter.unusedVariables false
set_option linter.unusedSimpArgs false
open Go.RowKit
set_option maxRecDepth 100000
set_option maxHeartbeats 8000000

theorem look_c {A : GA} {hb : Nat} {S : GS} {w : World} (H : HeapAt A hb S w) {o : Op5} (hk : o.kind < 1 ∨ o.kind = 4 ∨ o.kind = 5 ∨ 8 ≤ o.kind ∧ o.kind ≠ 10) (hv : 0 ≤ o.v ∧ o.v ≤ 4294967295) {x0 : Ans} {T : GS} (e : doO o S = (x0, T)) :
    Calls Tryz.prog 156 #[.pointer (some ⟨hb, 0, none⟩), o.val] w (fun e w' => e = .returned x0.val ∧ HeapAt A hb T w' ∧ Stays A.foot w w') := by
  obtain ⟨kd, a, b, c, v⟩ := o
  obtain ⟨hv0, hv1⟩ := hv
  unfold doO doK at e
  simp only [] at e hv0 hv1 hk
  unfold Op5.val Ans.val
  have hnb : ¬ A.foot w.heap.size := GA.foot_far H.held.top
  have hnb1 : ¬ A.foot (w.heap.size + 1) := GA.foot_far (Nat.le_trans H.held.top (Nat.le_add_right _ 1))
  have hnb2 : ¬ A.foot (w.heap.size + 2) := GA.foot_far (Nat.le_trans H.held.top (Nat.le_add_right _ 2))
  have hne : hb ≠ w.heap.size := Nat.ne_of_lt H.box.lt
  have hne1 : hb ≠ w.heap.size + 1 := by have := H.box.lt; omega
  have hne2 : hb ≠ w.heap.size + 2 := by have := H.box.lt; omega
  by_cases c4 : kd = 4
  · subst c4
    rw [if_neg (by decide), if_neg (by decide), if_neg (by decide), if_pos rfl] at e
    replace e := GM.bind_eq e
    obtain ⟨⟨y, x⟩, S1, e1, e⟩ := e
    have E1 := Hd.mk e1
    obtain ⟨rfl, rfl⟩ := GM.pure_eq e
    clear e e1
    have Bo : Blk (((w.alloc (.cells #[.int .i64 4, .int .i64 a, .int .i64 b, .int .i64 c, .int .u32 v] 53)).alloc (.cells #[.int .i64 0, .int .i64 0, .int .i64 0, .int .u32 0] 56)).alloc (.cells #[.int .i64 0, .int .i64 0, .int .i64 0, .int .u32 0] 56)) w.heap.size 53 #[.int .i64 4, .int .i64 a, .int .i64 b, .int .i64 c, .int .u32 v] := (((Blk.new w _ _).alloc _).alloc _)
    have Bz0 : Blk (((w.alloc (.cells #[.int .i64 4, .int .i64 a, .int .i64 b, .int .i64 c, .int .u32 v] 53)).alloc (.cells #[.int .i64 0, .int .i64 0, .int .i64 0, .int .u32 0] 56)).alloc (.cells #[.int .i64 0, .int .i64 0, .int .i64 0, .int .u32 0] 56)) (w.heap.size + 1) 56 #[.int .i64 0, .int .i64 0, .int .i64 0, .int .u32 0] := by
      have h := Blk.new (w.alloc (.cells #[.int .i64 4, .int .i64 a, .int .i64 b, .int .i64 c, .int .u32 v] 53)) 56 #[.int .i64 0, .int .i64 0, .int .i64 0, .int .u32 0]
      replace h := h.alloc (.cells #[.int .i64 0, .int .i64 0, .int .i64 0, .int .u32 0] 56)
      simpa using h
    have Bz1 : Blk (((w.alloc (.cells #[.int .i64 4, .int .i64 a, .int .i64 b, .int .i64 c, .int .u32 v] 53)).alloc (.cells #[.int .i64 0, .int .i64 0, .int .i64 0, .int .u32 0] 56)).alloc (.cells #[.int .i64 0, .int .i64 0, .int .i64 0, .int .u32 0] 56)) (w.heap.size + 2) 56 #[.int .i64 0, .int .i64 0, .int .i64 0, .int .u32 0] := by
      have h := Blk.new ((w.alloc (.cells #[.int .i64 4, .int .i64 a, .int .i64 b, .int .i64 c, .int .u32 v] 53)).alloc (.cells #[.int .i64 0, .int .i64 0, .int .i64 0, .int .u32 0] 56)) 56 #[.int .i64 0, .int .i64 0, .int .i64 0, .int .u32 0]
      simpa using h
    have K0 : Stays (fun _ => False) w (((w.alloc (.cells #[.int .i64 4, .int .i64 a, .int .i64 b, .int .i64 c, .int .u32 v] 53)).alloc (.cells #[.int .i64 0, .int .i64 0, .int .i64 0, .int .u32 0] 56)).alloc (.cells #[.int .i64 0, .int .i64 0, .int .i64 0, .int .u32 0] 56)) := ((((Stays.refl (fun _ => False) w).alloc _).alloc _).alloc _)
    have HH := H.stays K0 (fun _ _ x => x) (fun x => x)
    have co0 := Bo.cell 0
    have co1 := Bo.cell 1
    have co2 := Bo.cell 2
    have co3 := Bo.cell 3
    have co4 := Bo.cell 4
    go_enter Tryz.func156, Tryz.ntmps156
    go_wp2_with fail
    refine (hRead_c HH.held HH.far HH.box E1.out).mono ?_
    rintro _ w1 ⟨rfl, H1, K1⟩
    have HA := HH.next H1 K1
    have Bz0 := Bz0.stays K1 hnb1
    have Bz1 := Bz1.stays K1 hnb2
    have cz0 := Bz1.cell 0
    have fz0 := Bz1.frozen 0
    have cz1 := Bz1.cell 1
    have fz1 := Bz1.frozen 1
    have cz2 := Bz1.cell 2
    have fz2 := Bz1.frozen 2
    have cz3 := Bz1.cell 3
    have fz3 := Bz1.frozen 3
    have BS := Bz1
    have BS := ((BS.set_ 3 (.int .u32 y)).set_ 0 (.int .i64 x))
    have KS := ((((K0.mono (fun _ x => x.elim)).trans K1).setCell (p := ⟨w.heap.size + 2, 3, none⟩) (Or.inr (Nat.le_add_right _ 2)) (.int .u32 y)).setCell (p := ⟨w.heap.size + 2, 0, none⟩) (Or.inr (Nat.le_add_right _ 2)) (.int .i64 x))
    have HHA0 := HA.stays ((Stays.refl (fun k => k = w.heap.size + 2) _).setCell (p := ⟨w.heap.size + 2, 3, none⟩) (Or.inl rfl) (.int .u32 y)) (fun _ hb x => GA.far (Nat.le_trans H.held.top (Nat.le_add_right _ 2)) hb x) hne2
    have HHA1 := HHA0.stays ((Stays.refl (fun k => k = w.heap.size + 2) _).setCell (p := ⟨w.heap.size + 2, 0, none⟩) (Or.inl rfl) (.int .i64 x)) (fun _ hb x => GA.far (Nat.le_trans H.held.top (Nat.le_add_right _ 2)) hb x) hne2
    have Bz0 := ((Bz0.far (p := ⟨w.heap.size + 2, 3, none⟩) (by simp) (.int .u32 y)).far (p := ⟨w.heap.size + 2, 0, none⟩) (by simp) (.int .i64 x))
    simp only [List.setIfInBounds_toArray, List.set_cons_zero, List.set_cons_succ] at BS
    have cs0 := BS.cell 0
    have cs1 := BS.cell 1
    have cs2 := BS.cell 2
    have cs3 := BS.cell 3
    go_wp2_with (refine wpList_store_blk rfl _ _ _ rfl (w.heap.size + 1) rfl 56 _ _ rfl Bz0 (by kernel_rfl) rfl (by simp [Value.oneCell']) ?_; intro wz Bz0Z KZ)
    refine bodyPost_ret (results_blk (P := Tryz.prog) (p := 4) (ty := 56) rfl _ _ (w.heap.size + 1) 56 _ _ rfl Bz0Z Tryz.underlying56 rfl (by kernel_rfl)) rfl ?_
    have KA : Stays A.foot w wz := (KS.own KZ (Nat.le_add_right _ 1))
    exact ⟨rfl, (HHA1.stays KZ (fun _ hb x => GA.far (Nat.le_trans H.held.top (Nat.le_add_right _ 1)) hb x) hne1), KA⟩
  have d4 : (kd == 4) = false := beq_eq_false_iff_ne.2 c4
  by_cases c5 : kd = 5
  · subst c5
    rw [if_neg (by decide), if_neg (by decide), if_neg (by decide), if_neg (by decide), if_pos rfl] at e
    replace e := GM.bind_eq e
    obtain ⟨x, S1, e1, e⟩ := e
    have E1 := Hd.mk e1
    obtain ⟨rfl, rfl⟩ := GM.pure_eq e
    clear e e1
    have Bo : Blk (((w.alloc (.cells #[.int .i64 5, .int .i64 a, .int .i64 b, .int .i64 c, .int .u32 v] 53)).alloc (.cells #[.int .i64 0, .int .i64 0, .int .i64 0, .int .u32 0] 56)).alloc (.cells #[.int .i64 0, .int .i64 0, .int .i64 0, .int .u32 0] 56)) w.heap.size 53 #[.int .i64 5, .int .i64 a, .int .i64 b, .int .i64 c, .int .u32 v] := (((Blk.new w _ _).alloc _).alloc _)
    have Bz0 : Blk (((w.alloc (.cells #[.int .i64 5, .int .i64 a, .int .i64 b, .int .i64 c, .int .u32 v] 53)).alloc (.cells #[.int .i64 0, .int .i64 0, .int .i64 0, .int .u32 0] 56)).alloc (.cells #[.int .i64 0, .int .i64 0, .int .i64 0, .int .u32 0] 56)) (w.heap.size + 1) 56 #[.int .i64 0, .int .i64 0, .int .i64 0, .int .u32 0] := by
      have h := Blk.new (w.alloc (.cells #[.int .i64 5, .int .i64 a, .int .i64 b, .int .i64 c, .int .u32 v] 53)) 56 #[.int .i64 0, .int .i64 0, .int .i64 0, .int .u32 0]
      replace h := h.alloc (.cells #[.int .i64 0, .int .i64 0, .int .i64 0, .int .u32 0] 56)
      simpa using h
    have Bz1 : Blk (((w.alloc (.cells #[.int .i64 5, .int .i64 a, .int .i64 b, .int .i64 c, .int .u32 v] 53)).alloc (.cells #[.int .i64 0, .int .i64 0, .int .i64 0, .int .u32 0] 56)).alloc (.cells #[.int .i64 0, .int .i64 0, .int .i64 0, .int .u32 0] 56)) (w.heap.size + 2) 56 #[.int .i64 0, .int .i64 0, .int .i64 0, .int .u32 0] := by
      have h := Blk.new ((w.alloc (.cells #[.int .i64 5, .int .i64 a, .int .i64 b, .int .i64 c, .int .u32 v] 53)).alloc (.cells #[.int .i64 0, .int .i64 0, .int .i64 0, .int .u32 0] 56)) 56 #[.int .i64 0, .int .i64 0, .int .i64 0, .int .u32 0]
      simpa using h
    have K0 : Stays (fun _ => False) w (((w.alloc (.cells #[.int .i64 5, .int .i64 a, .int .i64 b, .int .i64 c, .int .u32 v] 53)).alloc (.cells #[.int .i64 0, .int .i64 0, .int .i64 0, .int .u32 0] 56)).alloc (.cells #[.int .i64 0, .int .i64 0, .int .i64 0, .int .u32 0] 56)) := ((((Stays.refl (fun _ => False) w).alloc _).alloc _).alloc _)
    have HH := H.stays K0 (fun _ _ x => x) (fun x => x)
    have co0 := Bo.cell 0
    have co1 := Bo.cell 1
    have co2 := Bo.cell 2
    have co3 := Bo.cell 3
    have co4 := Bo.cell 4
    go_enter Tryz.func156, Tryz.ntmps156
    go_wp2_with fail
    refine (hWrite_c HH.held hv0 hv1 HH.far HH.box E1.out).mono ?_
    rintro _ w1 ⟨rfl, H1, K1⟩
    have HA := HH.next H1 K1
    have Bz0 := Bz0.stays K1 hnb1
    have Bz1 := Bz1.stays K1 hnb2
    have cz0 := Bz1.cell 0
    have fz0 := Bz1.frozen 0
    have cz1 := Bz1.cell 1
    have fz1 := Bz1.frozen 1
    have cz2 := Bz1.cell 2
    have fz2 := Bz1.frozen 2
    have cz3 := Bz1.cell 3
    have fz3 := Bz1.frozen 3
    have BS := Bz1
    have BS := (BS.set_ 0 (.int .i64 x))
    have KS := (((K0.mono (fun _ x => x.elim)).trans K1).setCell (p := ⟨w.heap.size + 2, 0, none⟩) (Or.inr (Nat.le_add_right _ 2)) (.int .i64 x))
    have HHA0 := HA.stays ((Stays.refl (fun k => k = w.heap.size + 2) _).setCell (p := ⟨w.heap.size + 2, 0, none⟩) (Or.inl rfl) (.int .i64 x)) (fun _ hb x => GA.far (Nat.le_trans H.held.top (Nat.le_add_right _ 2)) hb x) hne2
    have Bz0 := (Bz0.far (p := ⟨w.heap.size + 2, 0, none⟩) (by simp) (.int .i64 x))
    simp only [List.setIfInBounds_toArray, List.set_cons_zero, List.set_cons_succ] at BS
    have cs0 := BS.cell 0
    have cs1 := BS.cell 1
    have cs2 := BS.cell 2
    have cs3 := BS.cell 3
    go_wp2_with (refine wpList_store_blk rfl _ _ _ rfl (w.heap.size + 1) rfl 56 _ _ rfl Bz0 (by kernel_rfl) rfl (by simp [Value.oneCell']) ?_; intro wz Bz0Z KZ)
    refine bodyPost_ret (results_blk (P := Tryz.prog) (p := 4) (ty := 56) rfl _ _ (w.heap.size + 1) 56 _ _ rfl Bz0Z Tryz.underlying56 rfl (by kernel_rfl)) rfl ?_
    have KA : Stays A.foot w wz := (KS.own KZ (Nat.le_add_right _ 1))
    exact ⟨rfl, (HHA0.stays KZ (fun _ hb x => GA.far (Nat.le_trans H.held.top (Nat.le_add_right _ 1)) hb x) hne1), KA⟩
  have d5 : (kd == 5) = false := beq_eq_false_iff_ne.2 c5
  by_cases c8 : kd = 8
  · subst c8
    rw [if_neg (by decide), if_neg (by decide), if_neg (by decide), if_neg (by decide), if_neg (by decide), if_neg (by decide), if_neg (by decide), if_pos rfl] at e
    replace e := GM.bind_eq e
    obtain ⟨⟨y, x⟩, S1, e1, e⟩ := e
    have E1 := Hd.mk e1
    obtain ⟨rfl, rfl⟩ := GM.pure_eq e
    clear e e1
    have Bo : Blk (((w.alloc (.cells #[.int .i64 8, .int .i64 a, .int .i64 b, .int .i64 c, .int .u32 v] 53)).alloc (.cells #[.int .i64 0, .int .i64 0, .int .i64 0, .int .u32 0] 56)).alloc (.cells #[.int .i64 0, .int .i64 0, .int .i64 0, .int .u32 0] 56)) w.heap.size 53 #[.int .i64 8, .int .i64 a, .int .i64 b, .int .i64 c, .int .u32 v] := (((Blk.new w _ _).alloc _).alloc _)
    have Bz0 : Blk (((w.alloc (.cells #[.int .i64 8, .int .i64 a, .int .i64 b, .int .i64 c, .int .u32 v] 53)).alloc (.cells #[.int .i64 0, .int .i64 0, .int .i64 0, .int .u32 0] 56)).alloc (.cells #[.int .i64 0, .int .i64 0, .int .i64 0, .int .u32 0] 56)) (w.heap.size + 1) 56 #[.int .i64 0, .int .i64 0, .int .i64 0, .int .u32 0] := by
      have h := Blk.new (w.alloc (.cells #[.int .i64 8, .int .i64 a, .int .i64 b, .int .i64 c, .int .u32 v] 53)) 56 #[.int .i64 0, .int .i64 0, .int .i64 0, .int .u32 0]
      replace h := h.alloc (.cells #[.int .i64 0, .int .i64 0, .int .i64 0, .int .u32 0] 56)
      simpa using h
    have Bz1 : Blk (((w.alloc (.cells #[.int .i64 8, .int .i64 a, .int .i64 b, .int .i64 c, .int .u32 v] 53)).alloc (.cells #[.int .i64 0, .int .i64 0, .int .i64 0, .int .u32 0] 56)).alloc (.cells #[.int .i64 0, .int .i64 0, .int .i64 0, .int .u32 0] 56)) (w.heap.size + 2) 56 #[.int .i64 0, .int .i64 0, .int .i64 0, .int .u32 0] := by
      have h := Blk.new ((w.alloc (.cells #[.int .i64 8, .int .i64 a, .int .i64 b, .int .i64 c, .int .u32 v] 53)).alloc (.cells #[.int .i64 0, .int .i64 0, .int .i64 0, .int .u32 0] 56)) 56 #[.int .i64 0, .int .i64 0, .int .i64 0, .int .u32 0]
      simpa using h
    have K0 : Stays (fun _ => False) w (((w.alloc (.cells #[.int .i64 8, .int .i64 a, .int .i64 b, .int .i64 c, .int .u32 v] 53)).alloc (.cells #[.int .i64 0, .int .i64 0, .int .i64 0, .int .u32 0] 56)).alloc (.cells #[.int .i64 0, .int .i64 0, .int .i64 0, .int .u32 0] 56)) := ((((Stays.refl (fun _ => False) w).alloc _).alloc _).alloc _)
    have HH := H.stays K0 (fun _ _ x => x) (fun x => x)
    have co0 := Bo.cell 0
    have co1 := Bo.cell 1
    have co2 := Bo.cell 2
    have co3 := Bo.cell 3
    have co4 := Bo.cell 4
    cases y
    · go_enter Tryz.func156, Tryz.ntmps156
      go_wp2_with fail
      refine (hSame_c HH.held HH.far HH.box E1.out).mono ?_
      rintro _ w1 ⟨rfl, H1, K1⟩
      have HA := HH.next H1 K1
      have Bz0 := Bz0.stays K1 hnb1
      have Bz1 := Bz1.stays K1 hnb2
      have cz0 := Bz1.cell 0
      have fz0 := Bz1.frozen 0
      have cz1 := Bz1.cell 1
      have fz1 := Bz1.frozen 1
      have cz2 := Bz1.cell 2
      have fz2 := Bz1.frozen 2
      have cz3 := Bz1.cell 3
      have fz3 := Bz1.frozen 3
      have BS := Bz1
      have BS := (BS.set_ 0 (.int .i64 x))
      have KS := (((K0.mono (fun _ x => x.elim)).trans K1).setCell (p := ⟨w.heap.size + 2, 0, none⟩) (Or.inr (Nat.le_add_right _ 2)) (.int .i64 x))
      have HHA0 := HA.stays ((Stays.refl (fun k => k = w.heap.size + 2) _).setCell (p := ⟨w.heap.size + 2, 0, none⟩) (Or.inl rfl) (.int .i64 x)) (fun _ hb x => GA.far (Nat.le_trans H.held.top (Nat.le_add_right _ 2)) hb x) hne2
      have Bz0 := (Bz0.far (p := ⟨w.heap.size + 2, 0, none⟩) (by simp) (.int .i64 x))
      simp only [List.setIfInBounds_toArray, List.set_cons_zero, List.set_cons_succ] at BS
      have cs0 := BS.cell 0
      have cs1 := BS.cell 1
      have cs2 := BS.cell 2
      have cs3 := BS.cell 3
      go_wp2_with (refine wpList_store_blk rfl _ _ _ rfl (w.heap.size + 1) rfl 56 _ _ rfl Bz0 (by kernel_rfl) rfl (by simp [Value.oneCell']) ?_; intro wz Bz0Z KZ)
      refine bodyPost_ret (results_blk (P := Tryz.prog) (p := 4) (ty := 56) rfl _ _ (w.heap.size + 1) 56 _ _ rfl Bz0Z Tryz.underlying56 rfl (by kernel_rfl)) rfl ?_
      have KA : Stays A.foot w wz := (KS.own KZ (Nat.le_add_right _ 1))
      exact ⟨rfl, (HHA0.stays KZ (fun _ hb x => GA.far (Nat.le_trans H.held.top (Nat.le_add_right _ 1)) hb x) hne1), KA⟩
    · go_enter Tryz.func156, Tryz.ntmps156
      go_wp2_with fail
      refine (hSame_c HH.held HH.far HH.box E1.out).mono ?_
      rintro _ w1 ⟨rfl, H1, K1⟩
      have HA := HH.next H1 K1
      have Bz0 := Bz0.stays K1 hnb1
      have Bz1 := Bz1.stays K1 hnb2
      have cz0 := Bz1.cell 0
      have fz0 := Bz1.frozen 0
      have cz1 := Bz1.cell 1
      have fz1 := Bz1.frozen 1
      have cz2 := Bz1.cell 2
      have fz2 := Bz1.frozen 2
      have cz3 := Bz1.cell 3
      have fz3 := Bz1.frozen 3
      have BS := Bz1
      have BS := ((BS.set_ 0 (.int .i64 x)).set_ 1 (.int .i64 1))
      have KS := ((((K0.mono (fun _ x => x.elim)).trans K1).setCell (p := ⟨w.heap.size + 2, 0, none⟩) (Or.inr (Nat.le_add_right _ 2)) (.int .i64 x)).setCell (p := ⟨w.heap.size + 2, 1, none⟩) (Or.inr (Nat.le_add_right _ 2)) (.int .i64 1))
      have HHA0 := HA.stays ((Stays.refl (fun k => k = w.heap.size + 2) _).setCell (p := ⟨w.heap.size + 2, 0, none⟩) (Or.inl rfl) (.int .i64 x)) (fun _ hb x => GA.far (Nat.le_trans H.held.top (Nat.le_add_right _ 2)) hb x) hne2
      have HHA1 := HHA0.stays ((Stays.refl (fun k => k = w.heap.size + 2) _).setCell (p := ⟨w.heap.size + 2, 1, none⟩) (Or.inl rfl) (.int .i64 1)) (fun _ hb x => GA.far (Nat.le_trans H.held.top (Nat.le_add_right _ 2)) hb x) hne2
      have Bz0 := ((Bz0.far (p := ⟨w.heap.size + 2, 0, none⟩) (by simp) (.int .i64 x)).far (p := ⟨w.heap.size + 2, 1, none⟩) (by simp) (.int .i64 1))
      simp only [List.setIfInBounds_toArray, List.set_cons_zero, List.set_cons_succ] at BS
      have cs0 := BS.cell 0
      have cs1 := BS.cell 1
      have cs2 := BS.cell 2
      have cs3 := BS.cell 3
      go_wp2_with (refine wpList_store_blk rfl _ _ _ rfl (w.heap.size + 1) rfl 56 _ _ rfl Bz0 (by kernel_rfl) rfl (by simp [Value.oneCell']) ?_; intro wz Bz0Z KZ)
      refine bodyPost_ret (results_blk (P := Tryz.prog) (p := 4) (ty := 56) rfl _ _ (w.heap.size + 1) 56 _ _ rfl Bz0Z Tryz.underlying56 rfl (by kernel_rfl)) rfl ?_
      have KA : Stays A.foot w wz := (KS.own KZ (Nat.le_add_right _ 1))
      exact ⟨rfl, (HHA1.stays KZ (fun _ hb x => GA.far (Nat.le_trans H.held.top (Nat.le_add_right _ 1)) hb x) hne1), KA⟩
  have d8 : (kd == 8) = false := beq_eq_false_iff_ne.2 c8
  by_cases c9 : kd = 9
  · subst c9
    rw [if_neg (by decide), if_neg (by decide), if_neg (by decide), if_neg (by decide), if_neg (by decide), if_neg (by decide), if_neg (by decide), if_neg (by decide), if_pos rfl] at e
    replace e := GM.bind_eq e
    obtain ⟨⟨y, z, x⟩, S1, e1, e⟩ := e
    have E1 := Hd.mk e1
    obtain ⟨rfl, rfl⟩ := GM.pure_eq e
    clear e e1
    have Bo : Blk (((w.alloc (.cells #[.int .i64 9, .int .i64 a, .int .i64 b, .int .i64 c, .int .u32 v] 53)).alloc (.cells #[.int .i64 0, .int .i64 0, .int .i64 0, .int .u32 0] 56)).alloc (.cells #[.int .i64 0, .int .i64 0, .int .i64 0, .int .u32 0] 56)) w.heap.size 53 #[.int .i64 9, .int .i64 a, .int .i64 b, .int .i64 c, .int .u32 v] := (((Blk.new w _ _).alloc _).alloc _)
    have Bz0 : Blk (((w.alloc (.cells #[.int .i64 9, .int .i64 a, .int .i64 b, .int .i64 c, .int .u32 v] 53)).alloc (.cells #[.int .i64 0, .int .i64 0, .int .i64 0, .int .u32 0] 56)).alloc (.cells #[.int .i64 0, .int .i64 0, .int .i64 0, .int .u32 0] 56)) (w.heap.size + 1) 56 #[.int .i64 0, .int .i64 0, .int .i64 0, .int .u32 0] := by
      have h := Blk.new (w.alloc (.cells #[.int .i64 9, .int .i64 a, .int .i64 b, .int .i64 c, .int .u32 v] 53)) 56 #[.int .i64 0, .int .i64 0, .int .i64 0, .int .u32 0]
      replace h := h.alloc (.cells #[.int .i64 0, .int .i64 0, .int .i64 0, .int .u32 0] 56)
      simpa using h
    have Bz1 : Blk (((w.alloc (.cells #[.int .i64 9, .int .i64 a, .int .i64 b, .int .i64 c, .int .u32 v] 53)).alloc (.cells #[.int .i64 0, .int .i64 0, .int .i64 0, .int .u32 0] 56)).alloc (.cells #[.int .i64 0, .int .i64 0, .int .i64 0, .int .u32 0] 56)) (w.heap.size + 2) 56 #[.int .i64 0, .int .i64 0, .int .i64 0, .int .u32 0] := by
      have h := Blk.new ((w.alloc (.cells #[.int .i64 9, .int .i64 a, .int .i64 b, .int .i64 c, .int .u32 v] 53)).alloc (.cells #[.int .i64 0, .int .i64 0, .int .i64 0, .int .u32 0] 56)) 56 #[.int .i64 0, .int .i64 0, .int .i64 0, .int .u32 0]
      simpa using h
    have K0 : Stays (fun _ => False) w (((w.alloc (.cells #[.int .i64 9, .int .i64 a, .int .i64 b, .int .i64 c, .int .u32 v] 53)).alloc (.cells #[.int .i64 0, .int .i64 0, .int .i64 0, .int .u32 0] 56)).alloc (.cells #[.int .i64 0, .int .i64 0, .int .i64 0, .int .u32 0] 56)) := ((((Stays.refl (fun _ => False) w).alloc _).alloc _).alloc _)
    have HH := H.stays K0 (fun _ _ x => x) (fun x => x)
    have co0 := Bo.cell 0
    have co1 := Bo.cell 1
    have co2 := Bo.cell 2
    have co3 := Bo.cell 3
    have co4 := Bo.cell 4
    go_enter Tryz.func156, Tryz.ntmps156
    go_wp2_with fail
    refine (hLen_c HH.held HH.far HH.box E1.out).mono ?_
    rintro _ w1 ⟨rfl, H1, K1⟩
    have HA := HH.next H1 K1
    have Bz0 := Bz0.stays K1 hnb1
    have Bz1 := Bz1.stays K1 hnb2
    have cz0 := Bz1.cell 0
    have fz0 := Bz1.frozen 0
    have cz1 := Bz1.cell 1
    have fz1 := Bz1.frozen 1
    have cz2 := Bz1.cell 2
    have fz2 := Bz1.frozen 2
    have cz3 := Bz1.cell 3
    have fz3 := Bz1.frozen 3
    have BS := Bz1
    have BS := (((BS.set_ 1 (.int .i64 y)).set_ 2 (.int .i64 z)).set_ 0 (.int .i64 x))
    have KS := (((((K0.mono (fun _ x => x.elim)).trans K1).setCell (p := ⟨w.heap.size + 2, 1, none⟩) (Or.inr (Nat.le_add_right _ 2)) (.int .i64 y)).setCell (p := ⟨w.heap.size + 2, 2, none⟩) (Or.inr (Nat.le_add_right _ 2)) (.int .i64 z)).setCell (p := ⟨w.heap.size + 2, 0, none⟩) (Or.inr (Nat.le_add_right _ 2)) (.int .i64 x))
    have HHA0 := HA.stays ((Stays.refl (fun k => k = w.heap.size + 2) _).setCell (p := ⟨w.heap.size + 2, 1, none⟩) (Or.inl rfl) (.int .i64 y)) (fun _ hb x => GA.far (Nat.le_trans H.held.top (Nat.le_add_right _ 2)) hb x) hne2
    have HHA1 := HHA0.stays ((Stays.refl (fun k => k = w.heap.size + 2) _).setCell (p := ⟨w.heap.size + 2, 2, none⟩) (Or.inl rfl) (.int .i64 z)) (fun _ hb x => GA.far (Nat.le_trans H.held.top (Nat.le_add_right _ 2)) hb x) hne2
    have HHA2 := HHA1.stays ((Stays.refl (fun k => k = w.heap.size + 2) _).setCell (p := ⟨w.heap.size + 2, 0, none⟩) (Or.inl rfl) (.int .i64 x)) (fun _ hb x => GA.far (Nat.le_trans H.held.top (Nat.le_add_right _ 2)) hb x) hne2
    have Bz0 := (((Bz0.far (p := ⟨w.heap.size + 2, 1, none⟩) (by simp) (.int .i64 y)).far (p := ⟨w.heap.size + 2, 2, none⟩) (by simp) (.int .i64 z)).far (p := ⟨w.heap.size + 2, 0, none⟩) (by simp) (.int .i64 x))
    simp only [List.setIfInBounds_toArray, List.set_cons_zero, List.set_cons_succ] at BS
    have cs0 := BS.cell 0
    have cs1 := BS.cell 1
    have cs2 := BS.cell 2
    have cs3 := BS.cell 3
    go_wp2_with (refine wpList_store_blk rfl _ _ _ rfl (w.heap.size + 1) rfl 56 _ _ rfl Bz0 (by kernel_rfl) rfl (by simp [Value.oneCell']) ?_; intro wz Bz0Z KZ)
    refine bodyPost_ret (results_blk (P := Tryz.prog) (p := 4) (ty := 56) rfl _ _ (w.heap.size + 1) 56 _ _ rfl Bz0Z Tryz.underlying56 rfl (by kernel_rfl)) rfl ?_
    have KA : Stays A.foot w wz := (KS.own KZ (Nat.le_add_right _ 1))
    exact ⟨rfl, (HHA2.stays KZ (fun _ hb x => GA.far (Nat.le_trans H.held.top (Nat.le_add_right _ 1)) hb x) hne1), KA⟩
  have d9 : (kd == 9) = false := beq_eq_false_iff_ne.2 c9
  have e' : (⟨9, 0, 0, 0⟩ : Ans) = x0 ∧ S = T := by
    rw [if_neg (by omega), if_neg (by omega), if_neg (by omega), if_neg (by omega), if_neg (by omega), if_neg (by omega), if_neg (by omega), if_neg (by omega), if_neg (by omega), if_neg (by omega)] at e
    exact GM.pure_eq e
  obtain ⟨rfl, rfl⟩ := e'
  clear e
  have Bo : Blk (((w.alloc (.cells #[.int .i64 kd, .int .i64 a, .int .i64 b, .int .i64 c, .int .u32 v] 53)).alloc (.cells #[.int .i64 0, .int .i64 0, .int .i64 0, .int .u32 0] 56)).alloc (.cells #[.int .i64 0, .int .i64 0, .int .i64 0, .int .u32 0] 56)) w.heap.size 53 #[.int .i64 kd, .int .i64 a, .int .i64 b, .int .i64 c, .int .u32 v] := (((Blk.new w _ _).alloc _).alloc _)
  have Bz0 : Blk (((w.alloc (.cells #[.int .i64 kd, .int .i64 a, .int .i64 b, .int .i64 c, .int .u32 v] 53)).alloc (.cells #[.int .i64 0, .int .i64 0, .int .i64 0, .int .u32 0] 56)).alloc (.cells #[.int .i64 0, .int .i64 0, .int .i64 0, .int .u32 0] 56)) (w.heap.size + 1) 56 #[.int .i64 0, .int .i64 0, .int .i64 0, .int .u32 0] := by
    have h := Blk.new (w.alloc (.cells #[.int .i64 kd, .int .i64 a, .int .i64 b, .int .i64 c, .int .u32 v] 53)) 56 #[.int .i64 0, .int .i64 0, .int .i64 0, .int .u32 0]
    replace h := h.alloc (.cells #[.int .i64 0, .int .i64 0, .int .i64 0, .int .u32 0] 56)
    simpa using h
  have Bz1 : Blk (((w.alloc (.cells #[.int .i64 kd, .int .i64 a, .int .i64 b, .int .i64 c, .int .u32 v] 53)).alloc (.cells #[.int .i64 0, .int .i64 0, .int .i64 0, .int .u32 0] 56)).alloc (.cells #[.int .i64 0, .int .i64 0, .int .i64 0, .int .u32 0] 56)) (w.heap.size + 2) 56 #[.int .i64 0, .int .i64 0, .int .i64 0, .int .u32 0] := by
    have h := Blk.new ((w.alloc (.cells #[.int .i64 kd, .int .i64 a, .int .i64 b, .int .i64 c, .int .u32 v] 53)).alloc (.cells #[.int .i64 0, .int .i64 0, .int .i64 0, .int .u32 0] 56)) 56 #[.int .i64 0, .int .i64 0, .int .i64 0, .int .u32 0]
    simpa using h
  have K0 : Stays (fun _ => False) w (((w.alloc (.cells #[.int .i64 kd, .int .i64 a, .int .i64 b, .int .i64 c, .int .u32 v] 53)).alloc (.cells #[.int .i64 0, .int .i64 0, .int .i64 0, .int .u32 0] 56)).alloc (.cells #[.int .i64 0, .int .i64 0, .int .i64 0, .int .u32 0] 56)) := ((((Stays.refl (fun _ => False) w).alloc _).alloc _).alloc _)
  have HH := H.stays K0 (fun _ _ x => x) (fun x => x)
  have co0 := Bo.cell 0
  have co1 := Bo.cell 1
  have co2 := Bo.cell 2
  have co3 := Bo.cell 3
  have co4 := Bo.cell 4
  have cz0 := Bz1.cell 0
  have fz0 := Bz1.frozen 0
  have cz1 := Bz1.cell 1
  have fz1 := Bz1.frozen 1
  have cz2 := Bz1.cell 2
  have fz2 := Bz1.frozen 2
  have cz3 := Bz1.cell 3
  have fz3 := Bz1.frozen 3
  go_enter Tryz.func156, Tryz.ntmps156
  go_wp2_with fail
  have BZ : Blk (((w.alloc (.cells #[.int .i64 kd, .int .i64 a, .int .i64 b, .int .i64 c, .int .u32 v] 53)).alloc (.cells #[.int .i64 9, .int .i64 0, .int .i64 0, .int .u32 0] 56)).alloc (.cells #[.int .i64 9, .int .i64 0, .int .i64 0, .int .u32 0] 56)) (w.heap.size + 1) 56 #[.int .i64 9, .int .i64 0, .int .i64 0, .int .u32 0] := by
    have h := (Blk.new (w.alloc (.cells #[.int .i64 kd, .int .i64 a, .int .i64 b, .int .i64 c, .int .u32 v] 53)) 56 #[.int .i64 9, .int .i64 0, .int .i64 0, .int .u32 0]).alloc (.cells #[.int .i64 9, .int .i64 0, .int .i64 0, .int .u32 0] 56)
    simpa using h
  have K9 : Stays (fun _ => False) w (((w.alloc (.cells #[.int .i64 kd, .int .i64 a, .int .i64 b, .int .i64 c, .int .u32 v] 53)).alloc (.cells #[.int .i64 9, .int .i64 0, .int .i64 0, .int .u32 0] 56)).alloc (.cells #[.int .i64 9, .int .i64 0, .int .i64 0, .int .u32 0] 56)) := (((Stays.refl (fun _ => False) w).alloc _).alloc _).alloc _
  refine bodyPost_ret (results_blk (P := Tryz.prog) (p := 4) (ty := 56) rfl _ _ (w.heap.size + 1) 56 _ _ rfl BZ Tryz.underlying56 rfl (by kernel_rfl)) rfl ?_
  exact ⟨rfl, H.stays K9 (fun _ _ x => x) (fun x => x), K9.mono (fun _ x => x.elim)⟩

theorem doO_c {A : GA} {hb : Nat} {S : GS} {w : World} (H : HeapAt A hb S w) {o : Op5} (hv : 0 ≤ o.v ∧ o.v ≤ 4294967295) {x0 : Ans} {T : GS} (e : doO o S = (x0, T)) :
    Calls Tryz.prog 73 #[.pointer (some ⟨hb, 0, none⟩), o.val] w (fun e w' => e = .returned x0.val ∧ HeapAt A hb T w' ∧ Stays A.foot w w') := by
  obtain ⟨kd, a, b, c, v⟩ := o
  obtain ⟨hv0, hv1⟩ := hv
  unfold doO doK at e
  simp only [] at e hv0 hv1
  unfold Op5.val Ans.val
  have hnb : ¬ A.foot w.heap.size := GA.foot_far H.held.top
  have hnb1 : ¬ A.foot (w.heap.size + 1) := GA.foot_far (Nat.le_trans H.held.top (Nat.le_add_right _ 1))
  have hnb2 : ¬ A.foot (w.heap.size + 2) := GA.foot_far (Nat.le_trans H.held.top (Nat.le_add_right _ 2))
  have hne : hb ≠ w.heap.size := Nat.ne_of_lt H.box.lt
  have hne1 : hb ≠ w.heap.size + 1 := by have := H.box.lt; omega
  have hne2 : hb ≠ w.heap.size + 2 := by have := H.box.lt; omega
  by_cases c1 : kd = 1
  · subst c1
    rw [if_pos rfl] at e
    replace e := GM.bind_eq e
    obtain ⟨x, S1, e1, e⟩ := e
    have E1 := Hd.mk e1
    obtain ⟨rfl, rfl⟩ := GM.pure_eq e
    clear e e1
    have Bo : Blk ((w.alloc (.cells #[.int .i64 1, .int .i64 a, .int .i64 b, .int .i64 c, .int .u32 v] 53)).alloc (.cells #[.int .i64 0, .int .i64 0, .int .i64 0, .int .u32 0] 56)) w.heap.size 53 #[.int .i64 1, .int .i64 a, .int .i64 b, .int .i64 c, .int .u32 v] := ((Blk.new w _ _).alloc _)
    have Bz0 : Blk ((w.alloc (.cells #[.int .i64 1, .int .i64 a, .int .i64 b, .int .i64 c, .int .u32 v] 53)).alloc (.cells #[.int .i64 0, .int .i64 0, .int .i64 0, .int .u32 0] 56)) (w.heap.size + 1) 56 #[.int .i64 0, .int .i64 0, .int .i64 0, .int .u32 0] := by
      have h := Blk.new (w.alloc (.cells #[.int .i64 1, .int .i64 a, .int .i64 b, .int .i64 c, .int .u32 v] 53)) 56 #[.int .i64 0, .int .i64 0, .int .i64 0, .int .u32 0]
      simpa using h
    have K0 : Stays (fun _ => False) w ((w.alloc (.cells #[.int .i64 1, .int .i64 a, .int .i64 b, .int .i64 c, .int .u32 v] 53)).alloc (.cells #[.int .i64 0, .int .i64 0, .int .i64 0, .int .u32 0] 56)) := (((Stays.refl (fun _ => False) w).alloc _).alloc _)
    have HH := H.stays K0 (fun _ _ x => x) (fun x => x)
    have co0 := Bo.cell 0
    have co1 := Bo.cell 1
    have co2 := Bo.cell 2
    have co3 := Bo.cell 3
    have co4 := Bo.cell 4
    go_enter Tryz.func73, Tryz.ntmps73
    go_wp2_with fail
    refine (hAlloc_c HH.held HH.far HH.box E1.out).mono ?_
    rintro _ w1 ⟨rfl, H1, K1⟩
    have HA := HH.next H1 K1
    go_wp2_with fail
    refine (failed_c _ _).mono ?_
    rintro _ w2 ⟨rfl, K2⟩
    have HA := HA.stays K2 (fun _ _ x => x) (fun x => x)
    have Bz0 := (Bz0.stays K1 hnb1).stays K2 (fun x => x)
    go_wp2_with (refine wpList_store_blk rfl _ _ _ rfl (w.heap.size + 1) rfl 56 _ _ rfl Bz0 (by kernel_rfl) rfl (by simp [Value.oneCell']) ?_; intro wz Bz0Z KZ)
    refine bodyPost_ret (results_blk (P := Tryz.prog) (p := 4) (ty := 56) rfl _ _ (w.heap.size + 1) 56 _ _ rfl Bz0Z Tryz.underlying56 rfl (by kernel_rfl)) rfl ?_
    have KA : Stays A.foot w wz := ((((K0.mono (fun _ x => x.elim)).trans K1).trans (K2.mono (fun _ x => x.elim))).own KZ (Nat.le_add_right _ 1))
    exact ⟨rfl, (HA.stays KZ (fun _ hb x => GA.far (Nat.le_trans H.held.top (Nat.le_add_right _ 1)) hb x) hne1), KA⟩
  have d1 : (kd == 1) = false := beq_eq_false_iff_ne.2 c1
  by_cases c2 : kd = 2
  · subst c2
    rw [if_neg (by decide), if_pos rfl] at e
    replace e := GM.bind_eq e
    obtain ⟨x, S1, e1, e⟩ := e
    have E1 := Hd.mk e1
    obtain ⟨rfl, rfl⟩ := GM.pure_eq e
    clear e e1
    have Bo : Blk ((w.alloc (.cells #[.int .i64 2, .int .i64 a, .int .i64 b, .int .i64 c, .int .u32 v] 53)).alloc (.cells #[.int .i64 0, .int .i64 0, .int .i64 0, .int .u32 0] 56)) w.heap.size 53 #[.int .i64 2, .int .i64 a, .int .i64 b, .int .i64 c, .int .u32 v] := ((Blk.new w _ _).alloc _)
    have Bz0 : Blk ((w.alloc (.cells #[.int .i64 2, .int .i64 a, .int .i64 b, .int .i64 c, .int .u32 v] 53)).alloc (.cells #[.int .i64 0, .int .i64 0, .int .i64 0, .int .u32 0] 56)) (w.heap.size + 1) 56 #[.int .i64 0, .int .i64 0, .int .i64 0, .int .u32 0] := by
      have h := Blk.new (w.alloc (.cells #[.int .i64 2, .int .i64 a, .int .i64 b, .int .i64 c, .int .u32 v] 53)) 56 #[.int .i64 0, .int .i64 0, .int .i64 0, .int .u32 0]
      simpa using h
    have K0 : Stays (fun _ => False) w ((w.alloc (.cells #[.int .i64 2, .int .i64 a, .int .i64 b, .int .i64 c, .int .u32 v] 53)).alloc (.cells #[.int .i64 0, .int .i64 0, .int .i64 0, .int .u32 0] 56)) := (((Stays.refl (fun _ => False) w).alloc _).alloc _)
    have HH := H.stays K0 (fun _ _ x => x) (fun x => x)
    have co0 := Bo.cell 0
    have co1 := Bo.cell 1
    have co2 := Bo.cell 2
    have co3 := Bo.cell 3
    have co4 := Bo.cell 4
    go_enter Tryz.func73, Tryz.ntmps73
    go_wp2_with fail
    refine (hLoad_c HH.held HH.far HH.box E1.out).mono ?_
    rintro _ w1 ⟨rfl, H1, K1⟩
    have HA := HH.next H1 K1
    go_wp2_with fail
    refine (failed_c _ _).mono ?_
    rintro _ w2 ⟨rfl, K2⟩
    have HA := HA.stays K2 (fun _ _ x => x) (fun x => x)
    have Bz0 := (Bz0.stays K1 hnb1).stays K2 (fun x => x)
    go_wp2_with (refine wpList_store_blk rfl _ _ _ rfl (w.heap.size + 1) rfl 56 _ _ rfl Bz0 (by kernel_rfl) rfl (by simp [Value.oneCell']) ?_; intro wz Bz0Z KZ)
    refine bodyPost_ret (results_blk (P := Tryz.prog) (p := 4) (ty := 56) rfl _ _ (w.heap.size + 1) 56 _ _ rfl Bz0Z Tryz.underlying56 rfl (by kernel_rfl)) rfl ?_
    have KA : Stays A.foot w wz := ((((K0.mono (fun _ x => x.elim)).trans K1).trans (K2.mono (fun _ x => x.elim))).own KZ (Nat.le_add_right _ 1))
    exact ⟨rfl, (HA.stays KZ (fun _ hb x => GA.far (Nat.le_trans H.held.top (Nat.le_add_right _ 1)) hb x) hne1), KA⟩
  have d2 : (kd == 2) = false := beq_eq_false_iff_ne.2 c2
  by_cases c3 : kd = 3
  · subst c3
    rw [if_neg (by decide), if_neg (by decide), if_pos rfl] at e
    replace e := GM.bind_eq e
    obtain ⟨x, S1, e1, e⟩ := e
    have E1 := Hd.mk e1
    obtain ⟨rfl, rfl⟩ := GM.pure_eq e
    clear e e1
    have Bo : Blk ((w.alloc (.cells #[.int .i64 3, .int .i64 a, .int .i64 b, .int .i64 c, .int .u32 v] 53)).alloc (.cells #[.int .i64 0, .int .i64 0, .int .i64 0, .int .u32 0] 56)) w.heap.size 53 #[.int .i64 3, .int .i64 a, .int .i64 b, .int .i64 c, .int .u32 v] := ((Blk.new w _ _).alloc _)
    have Bz0 : Blk ((w.alloc (.cells #[.int .i64 3, .int .i64 a, .int .i64 b, .int .i64 c, .int .u32 v] 53)).alloc (.cells #[.int .i64 0, .int .i64 0, .int .i64 0, .int .u32 0] 56)) (w.heap.size + 1) 56 #[.int .i64 0, .int .i64 0, .int .i64 0, .int .u32 0] := by
      have h := Blk.new (w.alloc (.cells #[.int .i64 3, .int .i64 a, .int .i64 b, .int .i64 c, .int .u32 v] 53)) 56 #[.int .i64 0, .int .i64 0, .int .i64 0, .int .u32 0]
      simpa using h
    have K0 : Stays (fun _ => False) w ((w.alloc (.cells #[.int .i64 3, .int .i64 a, .int .i64 b, .int .i64 c, .int .u32 v] 53)).alloc (.cells #[.int .i64 0, .int .i64 0, .int .i64 0, .int .u32 0] 56)) := (((Stays.refl (fun _ => False) w).alloc _).alloc _)
    have HH := H.stays K0 (fun _ _ x => x) (fun x => x)
    have co0 := Bo.cell 0
    have co1 := Bo.cell 1
    have co2 := Bo.cell 2
    have co3 := Bo.cell 3
    have co4 := Bo.cell 4
    go_enter Tryz.func73, Tryz.ntmps73
    go_wp2_with fail
    refine (hStore_c HH.held HH.far HH.box E1.out).mono ?_
    rintro _ w1 ⟨rfl, H1, K1⟩
    have HA := HH.next H1 K1
    go_wp2_with fail
    refine (failed_c _ _).mono ?_
    rintro _ w2 ⟨rfl, K2⟩
    have HA := HA.stays K2 (fun _ _ x => x) (fun x => x)
    have Bz0 := (Bz0.stays K1 hnb1).stays K2 (fun x => x)
    go_wp2_with (refine wpList_store_blk rfl _ _ _ rfl (w.heap.size + 1) rfl 56 _ _ rfl Bz0 (by kernel_rfl) rfl (by simp [Value.oneCell']) ?_; intro wz Bz0Z KZ)
    refine bodyPost_ret (results_blk (P := Tryz.prog) (p := 4) (ty := 56) rfl _ _ (w.heap.size + 1) 56 _ _ rfl Bz0Z Tryz.underlying56 rfl (by kernel_rfl)) rfl ?_
    have KA : Stays A.foot w wz := ((((K0.mono (fun _ x => x.elim)).trans K1).trans (K2.mono (fun _ x => x.elim))).own KZ (Nat.le_add_right _ 1))
    exact ⟨rfl, (HA.stays KZ (fun _ hb x => GA.far (Nat.le_trans H.held.top (Nat.le_add_right _ 1)) hb x) hne1), KA⟩
  have d3 : (kd == 3) = false := beq_eq_false_iff_ne.2 c3
  by_cases c6 : kd = 6
  · subst c6
    rw [if_neg (by decide), if_neg (by decide), if_neg (by decide), if_neg (by decide), if_neg (by decide), if_pos rfl] at e
    replace e := GM.bind_eq e
    obtain ⟨x, S1, e1, e⟩ := e
    have E1 := Hd.mk e1
    obtain ⟨rfl, rfl⟩ := GM.pure_eq e
    clear e e1
    have Bo : Blk ((w.alloc (.cells #[.int .i64 6, .int .i64 a, .int .i64 b, .int .i64 c, .int .u32 v] 53)).alloc (.cells #[.int .i64 0, .int .i64 0, .int .i64 0, .int .u32 0] 56)) w.heap.size 53 #[.int .i64 6, .int .i64 a, .int .i64 b, .int .i64 c, .int .u32 v] := ((Blk.new w _ _).alloc _)
    have Bz0 : Blk ((w.alloc (.cells #[.int .i64 6, .int .i64 a, .int .i64 b, .int .i64 c, .int .u32 v] 53)).alloc (.cells #[.int .i64 0, .int .i64 0, .int .i64 0, .int .u32 0] 56)) (w.heap.size + 1) 56 #[.int .i64 0, .int .i64 0, .int .i64 0, .int .u32 0] := by
      have h := Blk.new (w.alloc (.cells #[.int .i64 6, .int .i64 a, .int .i64 b, .int .i64 c, .int .u32 v] 53)) 56 #[.int .i64 0, .int .i64 0, .int .i64 0, .int .u32 0]
      simpa using h
    have K0 : Stays (fun _ => False) w ((w.alloc (.cells #[.int .i64 6, .int .i64 a, .int .i64 b, .int .i64 c, .int .u32 v] 53)).alloc (.cells #[.int .i64 0, .int .i64 0, .int .i64 0, .int .u32 0] 56)) := (((Stays.refl (fun _ => False) w).alloc _).alloc _)
    have HH := H.stays K0 (fun _ _ x => x) (fun x => x)
    have co0 := Bo.cell 0
    have co1 := Bo.cell 1
    have co2 := Bo.cell 2
    have co3 := Bo.cell 3
    have co4 := Bo.cell 4
    go_enter Tryz.func73, Tryz.ntmps73
    go_wp2_with fail
    refine (hCopy_c HH.held HH.far HH.box E1.out).mono ?_
    rintro _ w1 ⟨rfl, H1, K1⟩
    have HA := HH.next H1 K1
    go_wp2_with fail
    refine (failed_c _ _).mono ?_
    rintro _ w2 ⟨rfl, K2⟩
    have HA := HA.stays K2 (fun _ _ x => x) (fun x => x)
    have Bz0 := (Bz0.stays K1 hnb1).stays K2 (fun x => x)
    go_wp2_with (refine wpList_store_blk rfl _ _ _ rfl (w.heap.size + 1) rfl 56 _ _ rfl Bz0 (by kernel_rfl) rfl (by simp [Value.oneCell']) ?_; intro wz Bz0Z KZ)
    refine bodyPost_ret (results_blk (P := Tryz.prog) (p := 4) (ty := 56) rfl _ _ (w.heap.size + 1) 56 _ _ rfl Bz0Z Tryz.underlying56 rfl (by kernel_rfl)) rfl ?_
    have KA : Stays A.foot w wz := ((((K0.mono (fun _ x => x.elim)).trans K1).trans (K2.mono (fun _ x => x.elim))).own KZ (Nat.le_add_right _ 1))
    exact ⟨rfl, (HA.stays KZ (fun _ hb x => GA.far (Nat.le_trans H.held.top (Nat.le_add_right _ 1)) hb x) hne1), KA⟩
  have d6 : (kd == 6) = false := beq_eq_false_iff_ne.2 c6
  by_cases c7 : kd = 7
  · subst c7
    rw [if_neg (by decide), if_neg (by decide), if_neg (by decide), if_neg (by decide), if_neg (by decide), if_neg (by decide), if_pos rfl] at e
    replace e := GM.bind_eq e
    obtain ⟨x, S1, e1, e⟩ := e
    have E1 := Hd.mk e1
    obtain ⟨rfl, rfl⟩ := GM.pure_eq e
    clear e e1
    have Bo : Blk ((w.alloc (.cells #[.int .i64 7, .int .i64 a, .int .i64 b, .int .i64 c, .int .u32 v] 53)).alloc (.cells #[.int .i64 0, .int .i64 0, .int .i64 0, .int .u32 0] 56)) w.heap.size 53 #[.int .i64 7, .int .i64 a, .int .i64 b, .int .i64 c, .int .u32 v] := ((Blk.new w _ _).alloc _)
    have Bz0 : Blk ((w.alloc (.cells #[.int .i64 7, .int .i64 a, .int .i64 b, .int .i64 c, .int .u32 v] 53)).alloc (.cells #[.int .i64 0, .int .i64 0, .int .i64 0, .int .u32 0] 56)) (w.heap.size + 1) 56 #[.int .i64 0, .int .i64 0, .int .i64 0, .int .u32 0] := by
      have h := Blk.new (w.alloc (.cells #[.int .i64 7, .int .i64 a, .int .i64 b, .int .i64 c, .int .u32 v] 53)) 56 #[.int .i64 0, .int .i64 0, .int .i64 0, .int .u32 0]
      simpa using h
    have K0 : Stays (fun _ => False) w ((w.alloc (.cells #[.int .i64 7, .int .i64 a, .int .i64 b, .int .i64 c, .int .u32 v] 53)).alloc (.cells #[.int .i64 0, .int .i64 0, .int .i64 0, .int .u32 0] 56)) := (((Stays.refl (fun _ => False) w).alloc _).alloc _)
    have HH := H.stays K0 (fun _ _ x => x) (fun x => x)
    have co0 := Bo.cell 0
    have co1 := Bo.cell 1
    have co2 := Bo.cell 2
    have co3 := Bo.cell 3
    have co4 := Bo.cell 4
    go_enter Tryz.func73, Tryz.ntmps73
    go_wp2_with fail
    refine (hDrop_c HH.held HH.far HH.box E1.out).mono ?_
    rintro _ w1 ⟨rfl, H1, K1⟩
    have HA := HH.next H1 K1
    go_wp2_with fail
    refine (failed_c _ _).mono ?_
    rintro _ w2 ⟨rfl, K2⟩
    have HA := HA.stays K2 (fun _ _ x => x) (fun x => x)
    have Bz0 := (Bz0.stays K1 hnb1).stays K2 (fun x => x)
    go_wp2_with (refine wpList_store_blk rfl _ _ _ rfl (w.heap.size + 1) rfl 56 _ _ rfl Bz0 (by kernel_rfl) rfl (by simp [Value.oneCell']) ?_; intro wz Bz0Z KZ)
    refine bodyPost_ret (results_blk (P := Tryz.prog) (p := 4) (ty := 56) rfl _ _ (w.heap.size + 1) 56 _ _ rfl Bz0Z Tryz.underlying56 rfl (by kernel_rfl)) rfl ?_
    have KA : Stays A.foot w wz := ((((K0.mono (fun _ x => x.elim)).trans K1).trans (K2.mono (fun _ x => x.elim))).own KZ (Nat.le_add_right _ 1))
    exact ⟨rfl, (HA.stays KZ (fun _ hb x => GA.far (Nat.le_trans H.held.top (Nat.le_add_right _ 1)) hb x) hne1), KA⟩
  have d7 : (kd == 7) = false := beq_eq_false_iff_ne.2 c7
  by_cases c10 : kd = 10
  · subst c10
    rw [if_neg (by decide), if_neg (by decide), if_neg (by decide), if_neg (by decide), if_neg (by decide), if_neg (by decide), if_neg (by decide), if_neg (by decide), if_neg (by decide), if_pos rfl] at e
    unfold doTick at e
    replace e := GM.bind_eq e
    obtain ⟨x, S1, e1, e⟩ := e
    have E1 := Hd.mk e1
    obtain ⟨rfl, rfl⟩ := GM.pure_eq e
    clear e e1
    have Bo : Blk ((w.alloc (.cells #[.int .i64 10, .int .i64 a, .int .i64 b, .int .i64 c, .int .u32 v] 53)).alloc (.cells #[.int .i64 0, .int .i64 0, .int .i64 0, .int .u32 0] 56)) w.heap.size 53 #[.int .i64 10, .int .i64 a, .int .i64 b, .int .i64 c, .int .u32 v] := ((Blk.new w _ _).alloc _)
    have Bz0 : Blk ((w.alloc (.cells #[.int .i64 10, .int .i64 a, .int .i64 b, .int .i64 c, .int .u32 v] 53)).alloc (.cells #[.int .i64 0, .int .i64 0, .int .i64 0, .int .u32 0] 56)) (w.heap.size + 1) 56 #[.int .i64 0, .int .i64 0, .int .i64 0, .int .u32 0] := by
      have h := Blk.new (w.alloc (.cells #[.int .i64 10, .int .i64 a, .int .i64 b, .int .i64 c, .int .u32 v] 53)) 56 #[.int .i64 0, .int .i64 0, .int .i64 0, .int .u32 0]
      simpa using h
    have K0 : Stays (fun _ => False) w ((w.alloc (.cells #[.int .i64 10, .int .i64 a, .int .i64 b, .int .i64 c, .int .u32 v] 53)).alloc (.cells #[.int .i64 0, .int .i64 0, .int .i64 0, .int .u32 0] 56)) := (((Stays.refl (fun _ => False) w).alloc _).alloc _)
    have HH := H.stays K0 (fun _ _ x => x) (fun x => x)
    have co0 := Bo.cell 0
    have co1 := Bo.cell 1
    have co2 := Bo.cell 2
    have co3 := Bo.cell 3
    have co4 := Bo.cell 4
    go_enter Tryz.func73, Tryz.ntmps73
    go_wp2_with fail
    refine (hTick_c HH.held HH.far HH.box E1.out).mono ?_
    rintro _ w1 ⟨rfl, H1, K1⟩
    have HA := HH.next H1 K1
    go_wp2_with fail
    refine (failed_c _ _).mono ?_
    rintro _ w2 ⟨rfl, K2⟩
    have HA := HA.stays K2 (fun _ _ x => x) (fun x => x)
    have Bz0 := (Bz0.stays K1 hnb1).stays K2 (fun x => x)
    go_wp2_with (refine wpList_store_blk rfl _ _ _ rfl (w.heap.size + 1) rfl 56 _ _ rfl Bz0 (by kernel_rfl) rfl (by simp [Value.oneCell']) ?_; intro wz Bz0Z KZ)
    refine bodyPost_ret (results_blk (P := Tryz.prog) (p := 4) (ty := 56) rfl _ _ (w.heap.size + 1) 56 _ _ rfl Bz0Z Tryz.underlying56 rfl (by kernel_rfl)) rfl ?_
    have KA : Stays A.foot w wz := ((((K0.mono (fun _ x => x.elim)).trans K1).trans (K2.mono (fun _ x => x.elim))).own KZ (Nat.le_add_right _ 1))
    exact ⟨rfl, (HA.stays KZ (fun _ hb x => GA.far (Nat.le_trans H.held.top (Nat.le_add_right _ 1)) hb x) hne1), KA⟩
  have d10 : (kd == 10) = false := beq_eq_false_iff_ne.2 c10
  have E1 : Hd (doO ⟨kd, a, b, c, v⟩ S = (x0, T)) := ⟨e⟩
  have hk : Hd (kd < 1 ∨ kd = 4 ∨ kd = 5 ∨ 8 ≤ kd ∧ kd ≠ 10) := ⟨by omega⟩
  clear e
  have Bo : Blk ((w.alloc (.cells #[.int .i64 kd, .int .i64 a, .int .i64 b, .int .i64 c, .int .u32 v] 53)).alloc (.cells #[.int .i64 0, .int .i64 0, .int .i64 0, .int .u32 0] 56)) w.heap.size 53 #[.int .i64 kd, .int .i64 a, .int .i64 b, .int .i64 c, .int .u32 v] := ((Blk.new w _ _).alloc _)
  have Bz0 : Blk ((w.alloc (.cells #[.int .i64 kd, .int .i64 a, .int .i64 b, .int .i64 c, .int .u32 v] 53)).alloc (.cells #[.int .i64 0, .int .i64 0, .int .i64 0, .int .u32 0] 56)) (w.heap.size + 1) 56 #[.int .i64 0, .int .i64 0, .int .i64 0, .int .u32 0] := by
    have h := Blk.new (w.alloc (.cells #[.int .i64 kd, .int .i64 a, .int .i64 b, .int .i64 c, .int .u32 v] 53)) 56 #[.int .i64 0, .int .i64 0, .int .i64 0, .int .u32 0]
    simpa using h
  have K0 : Stays (fun _ => False) w ((w.alloc (.cells #[.int .i64 kd, .int .i64 a, .int .i64 b, .int .i64 c, .int .u32 v] 53)).alloc (.cells #[.int .i64 0, .int .i64 0, .int .i64 0, .int .u32 0] 56)) := (((Stays.refl (fun _ => False) w).alloc _).alloc _)
  have HH := H.stays K0 (fun _ _ x => x) (fun x => x)
  have co0 := Bo.cell 0
  have co1 := Bo.cell 1
  have co2 := Bo.cell 2
  have co3 := Bo.cell 3
  have co4 := Bo.cell 4
  go_enter Tryz.func73, Tryz.ntmps73
  go_wp2_with fail
  refine (look_c HH (o := ⟨kd, a, b, c, v⟩) hk.out ⟨hv0, hv1⟩ E1.out).mono ?_
  rintro _ w1 ⟨rfl, HA, K1⟩
  have Bz0 := Bz0.stays K1 hnb1
  unfold Ans.val
  go_wp2_with (refine wpList_store_blk rfl _ _ _ rfl (w.heap.size + 1) rfl 56 _ _ rfl Bz0 (by kernel_rfl) rfl (by simp [Value.oneCell']) ?_; intro wz Bz0Z KZ)
  refine bodyPost_ret (results_blk (P := Tryz.prog) (p := 4) (ty := 56) rfl _ _ (w.heap.size + 1) 56 _ _ rfl Bz0Z Tryz.underlying56 rfl (by kernel_rfl)) rfl ?_
  have KA : Stays A.foot w wz := (((K0.mono (fun _ x => x.elim)).trans K1).own KZ (Nat.le_add_right _ 1))
  exact ⟨rfl, (HA.stays KZ (fun _ hb x => GA.far (Nat.le_trans H.held.top (Nat.le_add_right _ 1)) hb x) hne1), KA⟩
end Go.Proofs.YtadhdjldcpkfiaaGreatDoor
