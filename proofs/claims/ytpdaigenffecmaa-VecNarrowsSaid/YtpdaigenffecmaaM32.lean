/-
  Package vec: Cross, Unit.
-/
import Derived.Test.YtpdaigenffecmaaM29
set_option linter.all false
namespace Go.Proofs.Ytpdaigenffecmaa
open Go.RowKit Go.Shelf

set_option maxHeartbeats 2000000 in
theorem c_vecCross (x0 x1 x2 x3 x4 x5 y0 y1 y2 y3 y4 y5 : Int) (w : World) :
    Calls Try.prog 15 #[.agg #[.int .i64 x0, .int .i64 x1, .int .i64 x2, .int .i64 x3, .int .i64 x4, .int .i64 x5], .agg #[.int .i64 y0, .int .i64 y1, .int .i64 y2, .int .i64 y3, .int .i64 y4, .int .i64 y5]] w fun e w' => e = .returned (vRes (errTo (errTo (errTo (chk3 (chk3 0 x0 x1 x2 x3 x4 x5 3) y0 y1 y2 y3 y4 y5 3) (spMul (x2, x3) (y4, y5)).2.2 (spMul (x4, x5) (y0, y1)).2.2 (spMul (x0, x1) (y2, y3)).2.2 3) (spMul (x4, x5) (y2, y3)).2.2 (spMul (x0, x1) (y4, y5)).2.2 (spMul (x2, x3) (y0, y1)).2.2 3) (spSub (ivl (spMul (x2, x3) (y4, y5))) (ivl (spMul (x4, x5) (y2, y3)))).2.2 (spSub (ivl (spMul (x4, x5) (y0, y1))) (ivl (spMul (x0, x1) (y4, y5)))).2.2 (spSub (ivl (spMul (x0, x1) (y2, y3))) (ivl (spMul (x2, x3) (y0, y1)))).2.2 3) (spSub (ivl (spMul (x2, x3) (y4, y5))) (ivl (spMul (x4, x5) (y2, y3)))) (spSub (ivl (spMul (x4, x5) (y0, y1))) (ivl (spMul (x0, x1) (y4, y5)))) (spSub (ivl (spMul (x0, x1) (y2, y3))) (ivl (spMul (x2, x3) (y0, y1))))) ∧ Below w.heap.size w w' := by
  obtain ⟨pa, hpa⟩ : ∃ r, r = spMul (x2, x3) (y4, y5) := ⟨_, rfl⟩
  obtain ⟨pb, hpb⟩ : ∃ r, r = spMul (x4, x5) (y0, y1) := ⟨_, rfl⟩
  obtain ⟨pc, hpc⟩ : ∃ r, r = spMul (x0, x1) (y2, y3) := ⟨_, rfl⟩
  obtain ⟨qa, hqa⟩ : ∃ r, r = spMul (x4, x5) (y2, y3) := ⟨_, rfl⟩
  obtain ⟨qb, hqb⟩ : ∃ r, r = spMul (x0, x1) (y4, y5) := ⟨_, rfl⟩
  obtain ⟨qc, hqc⟩ : ∃ r, r = spMul (x2, x3) (y0, y1) := ⟨_, rfl⟩
  obtain ⟨e0, he0⟩ : ∃ e, e = chk3 (chk3 0 x0 x1 x2 x3 x4 x5 3) y0 y1 y2 y3 y4 y5 3 := ⟨_, rfl⟩
  rw [← hpa, ← hpb, ← hpc, ← hqa, ← hqb, ← hqc, ← he0]
  obtain ⟨ra, hra⟩ : ∃ r, r = spSub (pa.1, pa.2.1) (qa.1, qa.2.1) := ⟨_, rfl⟩
  rw [show spSub (ivl pa) (ivl qa) = ra from hra.symm]
  obtain ⟨rb, hrb⟩ : ∃ r, r = spSub (pb.1, pb.2.1) (qb.1, qb.2.1) := ⟨_, rfl⟩
  rw [show spSub (ivl pb) (ivl qb) = rb from hrb.symm]
  obtain ⟨rc, hrc⟩ : ∃ r, r = spSub (pc.1, pc.2.1) (qc.1, qc.2.1) := ⟨_, rfl⟩
  rw [show spSub (ivl pc) (ivl qc) = rc from hrc.symm]
  obtain ⟨em1, hem1⟩ : ∃ e, e = errTo e0 pa.2.2 pb.2.2 pc.2.2 3 := ⟨_, rfl⟩
  obtain ⟨em2, hem2⟩ : ∃ e, e = errTo em1 qa.2.2 qb.2.2 qc.2.2 3 := ⟨_, rfl⟩
  rw [← hem1, ← hem2]
  obtain ⟨ek, hek⟩ : ∃ ek, ek = errTo em2 ra.2.2 rb.2.2 rc.2.2 3 := ⟨_, rfl⟩
  rw [← hek]
  obtain ⟨n0, n1, n2, n3, n4, n5, hn⟩ := vRes_form ek ra rb rc
  rw [hn]
  have HN := Lib.hid hn; clear hn
  have HEK := Lib.hid hek; clear hek
  have HE0 := Lib.hid he0; clear he0
  have HEM1 := Lib.hid hem1; clear hem1
  have HEM2 := Lib.hid hem2; clear hem2
  have HPA := Lib.hid hpa; clear hpa
  have HPB := Lib.hid hpb; clear hpb
  have HPC := Lib.hid hpc; clear hpc
  have HQA := Lib.hid hqa; clear hqa
  have HQB := Lib.hid hqb; clear hqb
  have HQC := Lib.hid hqc; clear hqc
  have HRA := Lib.hid hra; clear hra
  have HRB := Lib.hid hrb; clear hrb
  have HRC := Lib.hid hrc; clear hrc

  obtain ⟨W, hW⟩ : ∃ W, W = (((w.alloc (Obj.cells #[Value.int IntKind.i64 x0, Value.int IntKind.i64 x1, Value.int IntKind.i64 x2, Value.int IntKind.i64 x3, Value.int IntKind.i64 x4, Value.int IntKind.i64 x5] 25)).alloc (Obj.cells #[Value.int IntKind.i64 y0, Value.int IntKind.i64 y1, Value.int IntKind.i64 y2, Value.int IntKind.i64 y3, Value.int IntKind.i64 y4, Value.int IntKind.i64 y5] 25)).alloc (Obj.cells #[Value.int IntKind.i64 0, Value.int IntKind.i64 0, Value.int IntKind.i64 0, Value.int IntKind.i64 0, Value.int IntKind.i64 0, Value.int IntKind.i64 0] 25)).alloc (Obj.cells #[Value.int IntKind.i64 x0, Value.int IntKind.i64 x1, Value.int IntKind.i64 x2, Value.int IntKind.i64 x3, Value.int IntKind.i64 x4, Value.int IntKind.i64 x5, Value.int IntKind.i64 y0, Value.int IntKind.i64 y1, Value.int IntKind.i64 y2, Value.int IntKind.i64 y3, Value.int IntKind.i64 y4, Value.int IntKind.i64 y5] 25) := ⟨_, rfl⟩
  have hsW : w.heap.size + 1 + 1 + 1 < W.heap.size := by rw [hW]; simp
  have hB : Hid (Below w.heap.size w W) := by rw [hW]; unfold Hid; (repeat' (first | (with_reducible exact Below.refl _ _) | (with_reducible refine Below.setCell ?_ ?_ _) | (with_reducible refine Below.alloc ?_ ?_ _) | (with_reducible refine Below.drew ?_) | (with_reducible refine below_drewN ?_ _) | (with_reducible assumption) | (with_reducible refine Below.trans ?_ (Below.mono (by with_reducible assumption) ?_)) | omega | (simp; done) | (simp; omega) | (simp [World.setCell]; omega)))
  have hT : Hid (Tab12 W (w.heap.size + 1 + 1 + 1) (six x0 x1 x2 x3 x4 x5) (six y0 y1 y2 y3 y4 y5)) := by
    rw [hW]; constructor
    · intro j hj; rcases (by omega : j = 0 ∨ j = 1 ∨ j = 2 ∨ j = 3 ∨ j = 4 ∨ j = 5) with rfl | rfl | rfl | rfl | rfl | rfl <;> simp [go_sem, six]
    · intro j hj; rcases (by omega : j = 0 ∨ j = 1 ∨ j = 2 ∨ j = 3 ∨ j = 4 ∨ j = 5) with rfl | rfl | rfl | rfl | rfl | rfl <;> simp [go_sem, six]
  have a0 : W.cell? ⟨w.heap.size, 0, none⟩ = some (.int .i64 x0) := by rw [hW]; simp [go_sem]
  have a1 : W.cell? ⟨w.heap.size, 1, none⟩ = some (.int .i64 x1) := by rw [hW]; simp [go_sem]
  have a2 : W.cell? ⟨w.heap.size, 2, none⟩ = some (.int .i64 x2) := by rw [hW]; simp [go_sem]
  have a3 : W.cell? ⟨w.heap.size, 3, none⟩ = some (.int .i64 x3) := by rw [hW]; simp [go_sem]
  have a4 : W.cell? ⟨w.heap.size, 4, none⟩ = some (.int .i64 x4) := by rw [hW]; simp [go_sem]
  have a5 : W.cell? ⟨w.heap.size, 5, none⟩ = some (.int .i64 x5) := by rw [hW]; simp [go_sem]
  have b0 : W.cell? ⟨w.heap.size + 1, 0, none⟩ = some (.int .i64 y0) := by rw [hW]; simp [go_sem]
  have b1 : W.cell? ⟨w.heap.size + 1, 1, none⟩ = some (.int .i64 y1) := by rw [hW]; simp [go_sem]
  have b2 : W.cell? ⟨w.heap.size + 1, 2, none⟩ = some (.int .i64 y2) := by rw [hW]; simp [go_sem]
  have b3 : W.cell? ⟨w.heap.size + 1, 3, none⟩ = some (.int .i64 y3) := by rw [hW]; simp [go_sem]
  have b4 : W.cell? ⟨w.heap.size + 1, 4, none⟩ = some (.int .i64 y4) := by rw [hW]; simp [go_sem]
  have b5 : W.cell? ⟨w.heap.size + 1, 5, none⟩ = some (.int .i64 y5) := by rw [hW]; simp [go_sem]
  have z0 : W.cell? ⟨w.heap.size + 1 + 1, 0, none⟩ = some (.int .i64 0) := by rw [hW]; simp [go_sem]
  have z1 : W.cell? ⟨w.heap.size + 1 + 1, 1, none⟩ = some (.int .i64 0) := by rw [hW]; simp [go_sem]
  have z2 : W.cell? ⟨w.heap.size + 1 + 1, 2, none⟩ = some (.int .i64 0) := by rw [hW]; simp [go_sem]
  have z3 : W.cell? ⟨w.heap.size + 1 + 1, 3, none⟩ = some (.int .i64 0) := by rw [hW]; simp [go_sem]
  have z4 : W.cell? ⟨w.heap.size + 1 + 1, 4, none⟩ = some (.int .i64 0) := by rw [hW]; simp [go_sem]
  have z5 : W.cell? ⟨w.heap.size + 1 + 1, 5, none⟩ = some (.int .i64 0) := by rw [hW]; simp [go_sem]
  have s0 : W.frozen? ⟨w.heap.size + 1 + 1, 0, none⟩ = false := by rw [hW]; simp [go_sem]
  have s1 : W.frozen? ⟨w.heap.size + 1 + 1, 1, none⟩ = false := by rw [hW]; simp [go_sem]
  have s2 : W.frozen? ⟨w.heap.size + 1 + 1, 2, none⟩ = false := by rw [hW]; simp [go_sem]
  have s3 : W.frozen? ⟨w.heap.size + 1 + 1, 3, none⟩ = false := by rw [hW]; simp [go_sem]
  have s4 : W.frozen? ⟨w.heap.size + 1 + 1, 4, none⟩ = false := by rw [hW]; simp [go_sem]
  have s5 : W.frozen? ⟨w.heap.size + 1 + 1, 5, none⟩ = false := by rw [hW]; simp [go_sem]
  go_enter Try.func15, Try.ntmps15
  go_wp2_with (fail)
  rw [← hW]
  clear hW
  go_at_call 62
  refine Calls.mono (c_all2 _ _ x0 x1 x2 x3 x4 x5 y0 y1 y2 y3 y4 y5 W (by omega) hT) ?_
  rintro e w1 ⟨rfl, hb1, hz1, hcP, hfP⟩
  rw [← HE0.out] at hcP
  have hs1 := hb1.size
  (replace a0 := kp hb1 (by omega) a0); (replace a1 := kp hb1 (by omega) a1); (replace a2 := kp hb1 (by omega) a2); (replace a3 := kp hb1 (by omega) a3); (replace a4 := kp hb1 (by omega) a4); (replace a5 := kp hb1 (by omega) a5); (replace b0 := kp hb1 (by omega) b0); (replace b1 := kp hb1 (by omega) b1); (replace b2 := kp hb1 (by omega) b2); (replace b3 := kp hb1 (by omega) b3); (replace b4 := kp hb1 (by omega) b4); (replace b5 := kp hb1 (by omega) b5); (replace z0 := kp hb1 (by omega) z0); (replace z1 := kp hb1 (by omega) z1); (replace z2 := kp hb1 (by omega) z2); (replace z3 := kp hb1 (by omega) z3); (replace z4 := kp hb1 (by omega) z4); (replace z5 := kp hb1 (by omega) z5); (replace s0 := kf hb1 (by omega) s0); (replace s1 := kf hb1 (by omega) s1); (replace s2 := kf hb1 (by omega) s2); (replace s3 := kf hb1 (by omega) s3); (replace s4 := kf hb1 (by omega) s4); (replace s5 := kf hb1 (by omega) s5)
  go_wp2_with (fail)
  refine wp_region_held_drew (S := (fun w' => w'.cell? ⟨w.heap.size, 0, none⟩ = some (.int .i64 x0) ∧ w'.cell? ⟨w.heap.size, 1, none⟩ = some (.int .i64 x1) ∧ w'.cell? ⟨w.heap.size, 2, none⟩ = some (.int .i64 x2) ∧ w'.cell? ⟨w.heap.size, 3, none⟩ = some (.int .i64 x3) ∧ w'.cell? ⟨w.heap.size, 4, none⟩ = some (.int .i64 x4) ∧ w'.cell? ⟨w.heap.size, 5, none⟩ = some (.int .i64 x5) ∧ w'.cell? ⟨w.heap.size + 1, 0, none⟩ = some (.int .i64 y0) ∧ w'.cell? ⟨w.heap.size + 1, 1, none⟩ = some (.int .i64 y1) ∧ w'.cell? ⟨w.heap.size + 1, 2, none⟩ = some (.int .i64 y2) ∧ w'.cell? ⟨w.heap.size + 1, 3, none⟩ = some (.int .i64 y3) ∧ w'.cell? ⟨w.heap.size + 1, 4, none⟩ = some (.int .i64 y4) ∧ w'.cell? ⟨w.heap.size + 1, 5, none⟩ = some (.int .i64 y5))) (by kernel_rfl) ?_ (fun hHeld => ?_)
  · (try dsimp only); with_reducible exact ⟨cell_drew a0, cell_drew a1, cell_drew a2, cell_drew a3, cell_drew a4, cell_drew a5, cell_drew b0, cell_drew b1, cell_drew b2, cell_drew b3, cell_drew b4, cell_drew b5⟩
  refine wpAnyH_take (i := 0) (oi := _) (v := ?_) rfl (by kernel_rfl) (by kernel_rfl) (by kernel_rfl) (fun _ _ _ h => h) (Or.inl ⟨by rfl, ?_⟩) (by assumption) ?_
  rotate_left
  · intro w hSw; (try dsimp only at hSw); go_simp; (first | done | with_reducible rfl)
  (try simp only [List.getElem_toArray, List.getElem_cons_succ, List.getElem_cons_zero, Act.put, List.setIfInBounds_toArray, List.set_cons_zero, List.set_cons_succ])
  refine wpAnyH_take (i := 1) (oi := _) (v := ?_) rfl (by kernel_rfl) (by kernel_rfl) (by kernel_rfl) (fun _ _ _ h => h) (Or.inl ⟨by rfl, ?_⟩) (by assumption) ?_
  rotate_left
  · intro w hSw; (try dsimp only at hSw); go_simp; (first | done | with_reducible rfl)
  (try simp only [List.getElem_toArray, List.getElem_cons_succ, List.getElem_cons_zero, Act.put, List.setIfInBounds_toArray, List.set_cons_zero, List.set_cons_succ])
  refine wpAnyH_take (i := 3) (oi := _) (v := ?_) rfl (by kernel_rfl) (by kernel_rfl) (by kernel_rfl) (fun _ _ _ h => h) (Or.inl ⟨by rfl, ?_⟩) (by assumption) ?_
  rotate_left
  · intro w hSw; (try dsimp only at hSw); go_simp; (first | done | with_reducible rfl)
  (try simp only [List.getElem_toArray, List.getElem_cons_succ, List.getElem_cons_zero, Act.put, List.setIfInBounds_toArray, List.set_cons_zero, List.set_cons_succ])
  refine wpAnyH_take (i := 6) (oi := _) (v := ?_) rfl (by kernel_rfl) (by kernel_rfl) (by kernel_rfl) (fun _ _ _ h => h) (Or.inl ⟨by rfl, ?_⟩) (by assumption) ?_
  rotate_left
  · intro w hSw; (try dsimp only at hSw); go_simp; (first | done | with_reducible rfl)
  (try simp only [List.getElem_toArray, List.getElem_cons_succ, List.getElem_cons_zero, Act.put, List.setIfInBounds_toArray, List.set_cons_zero, List.set_cons_succ])
  refine wpAnyH_take (i := 7) (oi := _) (v := ?_) rfl (by kernel_rfl) (by kernel_rfl) (by kernel_rfl) (fun _ _ _ h => h) (Or.inl ⟨by rfl, ?_⟩) (by assumption) ?_
  rotate_left
  · intro w hSw; (try dsimp only at hSw); go_simp; (first | done | with_reducible rfl)
  (try simp only [List.getElem_toArray, List.getElem_cons_succ, List.getElem_cons_zero, Act.put, List.setIfInBounds_toArray, List.set_cons_zero, List.set_cons_succ])
  refine wpAnyH_take (i := 9) (oi := _) (v := ?_) rfl (by kernel_rfl) (by kernel_rfl) (by kernel_rfl) (fun _ _ _ h => h) (Or.inl ⟨by rfl, ?_⟩) (by assumption) ?_
  rotate_left
  · intro w hSw; (try dsimp only at hSw); go_simp; (first | done | with_reducible rfl)
  (try simp only [List.getElem_toArray, List.getElem_cons_succ, List.getElem_cons_zero, Act.put, List.setIfInBounds_toArray, List.set_cons_zero, List.set_cons_succ])
  refine wpAnyH_take (i := 12) (oi := _) (v := ?_) rfl (by kernel_rfl) (by kernel_rfl) (by kernel_rfl) (fun _ _ _ h => h) (Or.inl ⟨by rfl, ?_⟩) (by assumption) ?_
  rotate_left
  · intro w hSw; (try dsimp only at hSw); go_simp; (first | done | with_reducible rfl)
  (try simp only [List.getElem_toArray, List.getElem_cons_succ, List.getElem_cons_zero, Act.put, List.setIfInBounds_toArray, List.set_cons_zero, List.set_cons_succ])
  refine wpAnyH_take (i := 14) (oi := _) (v := ?_) rfl (by kernel_rfl) (by kernel_rfl) (by kernel_rfl) (fun _ _ _ h => h) (Or.inl ⟨by rfl, ?_⟩) (by assumption) ?_
  rotate_left
  · intro w hSw; (try dsimp only at hSw); go_simp; (first | done | with_reducible rfl)
  (try simp only [List.getElem_toArray, List.getElem_cons_succ, List.getElem_cons_zero, Act.put, List.setIfInBounds_toArray, List.set_cons_zero, List.set_cons_succ])
  refine wpAnyH_take (i := 15) (oi := _) (v := ?_) rfl (by kernel_rfl) (by kernel_rfl) (by kernel_rfl) (fun _ _ _ h => h) (Or.inl ⟨by rfl, ?_⟩) (by assumption) ?_
  rotate_left
  · intro w hSw; (try dsimp only at hSw); go_simp; (first | done | with_reducible rfl)
  (try simp only [List.getElem_toArray, List.getElem_cons_succ, List.getElem_cons_zero, Act.put, List.setIfInBounds_toArray, List.set_cons_zero, List.set_cons_succ])
  refine wpAnyH_take (i := 17) (oi := _) (v := ?_) rfl (by kernel_rfl) (by kernel_rfl) (by kernel_rfl) (fun _ _ _ h => h) (Or.inl ⟨by rfl, ?_⟩) (by assumption) ?_
  rotate_left
  · intro w hSw; (try dsimp only at hSw); go_simp; (first | done | with_reducible rfl)
  (try simp only [List.getElem_toArray, List.getElem_cons_succ, List.getElem_cons_zero, Act.put, List.setIfInBounds_toArray, List.set_cons_zero, List.set_cons_succ])
  refine wpAnyH_take (i := 18) (oi := _) (v := ?_) rfl (by kernel_rfl) (by kernel_rfl) (by kernel_rfl) (fun _ _ _ h => h) (Or.inl ⟨by rfl, ?_⟩) (by assumption) ?_
  rotate_left
  · intro w hSw; (try dsimp only at hSw); go_simp; (first | done | with_reducible rfl)
  (try simp only [List.getElem_toArray, List.getElem_cons_succ, List.getElem_cons_zero, Act.put, List.setIfInBounds_toArray, List.set_cons_zero, List.set_cons_succ])
  refine wpAnyH_ready (rs := [2]) (by kernel_rfl) (by simp) ?_
  refine AllReadyH.cons (o := _) rfl (fun K hK => ?_) AllReadyH.nil
  go_simp
  (go_at_call 67; refine (c_turned x0 x1 x2 x3 x4 x5 w1.drew).mono ?_; rintro e w2 ⟨rfl, hb2⟩; (replace hb2 : Below w1.heap.size w1 w2 := Below.undrew hb2); (have hs2 := hb2.size); (replace hcP : w2.cell? ⟨W.heap.size, 0, none⟩ = some (.int .i64 (e0)) := ((bcell hb2).1 _ _ (by omega)).trans hcP); (replace hfP : w2.frozen? ⟨W.heap.size, 0, none⟩ = false := ((bcell hb2).2 _ _ (by omega)).trans hfP); (replace a0 := kp hb2 (by omega) a0); (replace a1 := kp hb2 (by omega) a1); (replace a2 := kp hb2 (by omega) a2); (replace a3 := kp hb2 (by omega) a3); (replace a4 := kp hb2 (by omega) a4); (replace a5 := kp hb2 (by omega) a5); (replace b0 := kp hb2 (by omega) b0); (replace b1 := kp hb2 (by omega) b1); (replace b2 := kp hb2 (by omega) b2); (replace b3 := kp hb2 (by omega) b3); (replace b4 := kp hb2 (by omega) b4); (replace b5 := kp hb2 (by omega) b5); (replace z0 := kp hb2 (by omega) z0); (replace z1 := kp hb2 (by omega) z1); (replace z2 := kp hb2 (by omega) z2); (replace z3 := kp hb2 (by omega) z3); (replace z4 := kp hb2 (by omega) z4); (replace z5 := kp hb2 (by omega) z5); (replace s0 := kf hb2 (by omega) s0); (replace s1 := kf hb2 (by omega) s1); (replace s2 := kf hb2 (by omega) s2); (replace s3 := kf hb2 (by omega) s3); (replace s4 := kf hb2 (by omega) s4); (replace s5 := kf hb2 (by omega) s5))
  (try go_wp2_with (fail))
  refine hK.out _ _ ?_ (fun hHeld => ?_)
  · (try dsimp only); with_reducible exact ⟨a0, a1, a2, a3, a4, a5, b0, b1, b2, b3, b4, b5⟩
  clear hK K
  (try simp only [List.getElem_toArray, List.getElem_cons_succ, List.getElem_cons_zero, Act.put, List.setIfInBounds_toArray, List.set_cons_zero, List.set_cons_succ])
  refine wpAnyH_ready (rs := [4]) (by kernel_rfl) (by simp) ?_
  refine AllReadyH.cons (o := _) rfl (fun K hK => ?_) AllReadyH.nil
  go_simp
  (go_at_call 67; refine (c_turned y0 y1 y2 y3 y4 y5 w2).mono ?_; rintro e w3 ⟨rfl, hb3⟩; (have hs3 := hb3.size); (replace hcP : w3.cell? ⟨W.heap.size, 0, none⟩ = some (.int .i64 (e0)) := ((bcell hb3).1 _ _ (by omega)).trans hcP); (replace hfP : w3.frozen? ⟨W.heap.size, 0, none⟩ = false := ((bcell hb3).2 _ _ (by omega)).trans hfP); (replace a0 := kp hb3 (by omega) a0); (replace a1 := kp hb3 (by omega) a1); (replace a2 := kp hb3 (by omega) a2); (replace a3 := kp hb3 (by omega) a3); (replace a4 := kp hb3 (by omega) a4); (replace a5 := kp hb3 (by omega) a5); (replace b0 := kp hb3 (by omega) b0); (replace b1 := kp hb3 (by omega) b1); (replace b2 := kp hb3 (by omega) b2); (replace b3 := kp hb3 (by omega) b3); (replace b4 := kp hb3 (by omega) b4); (replace b5 := kp hb3 (by omega) b5); (replace z0 := kp hb3 (by omega) z0); (replace z1 := kp hb3 (by omega) z1); (replace z2 := kp hb3 (by omega) z2); (replace z3 := kp hb3 (by omega) z3); (replace z4 := kp hb3 (by omega) z4); (replace z5 := kp hb3 (by omega) z5); (replace s0 := kf hb3 (by omega) s0); (replace s1 := kf hb3 (by omega) s1); (replace s2 := kf hb3 (by omega) s2); (replace s3 := kf hb3 (by omega) s3); (replace s4 := kf hb3 (by omega) s4); (replace s5 := kf hb3 (by omega) s5))
  (try go_wp2_with (fail))
  refine hK.out _ _ ?_ (fun hHeld => ?_)
  · (try dsimp only); with_reducible exact ⟨a0, a1, a2, a3, a4, a5, b0, b1, b2, b3, b4, b5⟩
  clear hK K
  (try simp only [List.getElem_toArray, List.getElem_cons_succ, List.getElem_cons_zero, Act.put, List.setIfInBounds_toArray, List.set_cons_zero, List.set_cons_succ])
  refine wpAnyH_ready (rs := [5]) (by kernel_rfl) (by simp) ?_
  refine AllReadyH.cons (o := _) rfl (fun K hK => ?_) AllReadyH.nil
  go_simp
  (go_at_call 67; refine (c_turned y2 y3 y4 y5 y0 y1 w3).mono ?_; rintro e w4 ⟨rfl, hb4⟩; (have hs4 := hb4.size); (replace hcP : w4.cell? ⟨W.heap.size, 0, none⟩ = some (.int .i64 (e0)) := ((bcell hb4).1 _ _ (by omega)).trans hcP); (replace hfP : w4.frozen? ⟨W.heap.size, 0, none⟩ = false := ((bcell hb4).2 _ _ (by omega)).trans hfP); (replace a0 := kp hb4 (by omega) a0); (replace a1 := kp hb4 (by omega) a1); (replace a2 := kp hb4 (by omega) a2); (replace a3 := kp hb4 (by omega) a3); (replace a4 := kp hb4 (by omega) a4); (replace a5 := kp hb4 (by omega) a5); (replace b0 := kp hb4 (by omega) b0); (replace b1 := kp hb4 (by omega) b1); (replace b2 := kp hb4 (by omega) b2); (replace b3 := kp hb4 (by omega) b3); (replace b4 := kp hb4 (by omega) b4); (replace b5 := kp hb4 (by omega) b5); (replace z0 := kp hb4 (by omega) z0); (replace z1 := kp hb4 (by omega) z1); (replace z2 := kp hb4 (by omega) z2); (replace z3 := kp hb4 (by omega) z3); (replace z4 := kp hb4 (by omega) z4); (replace z5 := kp hb4 (by omega) z5); (replace s0 := kf hb4 (by omega) s0); (replace s1 := kf hb4 (by omega) s1); (replace s2 := kf hb4 (by omega) s2); (replace s3 := kf hb4 (by omega) s3); (replace s4 := kf hb4 (by omega) s4); (replace s5 := kf hb4 (by omega) s5))
  (try go_wp2_with (fail))
  refine hK.out _ _ ?_ (fun hHeld => ?_)
  · (try dsimp only); with_reducible exact ⟨a0, a1, a2, a3, a4, a5, b0, b1, b2, b3, b4, b5⟩
  clear hK K
  (try simp only [List.getElem_toArray, List.getElem_cons_succ, List.getElem_cons_zero, Act.put, List.setIfInBounds_toArray, List.set_cons_zero, List.set_cons_succ])
  refine wpAnyH_ready (rs := [8]) (by kernel_rfl) (by simp) ?_
  refine AllReadyH.cons (o := _) rfl (fun K hK => ?_) AllReadyH.nil
  go_simp
  (go_at_call 64; refine (c_each_mul W.heap.size x2 x3 x4 x5 x0 x1 y4 y5 y0 y1 y2 y3 e0 w4 (show W.heap.size < w4.heap.size by omega) hcP hfP).mono ?_; rw [← HPA.out, ← HPB.out, ← HPC.out, ← HEM1.out]; rintro e w5 ⟨rfl, ho5, hcN, hfN⟩; (replace hcP := hcN); (replace hfP := hfN); (have hs5 := ho5.size); (have HB5 : Below w.heap.size w4 w5 := ho5.toBelow (by omega) (by omega)); (replace a0 := ko ho5 (by omega) (by omega) a0); (replace a1 := ko ho5 (by omega) (by omega) a1); (replace a2 := ko ho5 (by omega) (by omega) a2); (replace a3 := ko ho5 (by omega) (by omega) a3); (replace a4 := ko ho5 (by omega) (by omega) a4); (replace a5 := ko ho5 (by omega) (by omega) a5); (replace b0 := ko ho5 (by omega) (by omega) b0); (replace b1 := ko ho5 (by omega) (by omega) b1); (replace b2 := ko ho5 (by omega) (by omega) b2); (replace b3 := ko ho5 (by omega) (by omega) b3); (replace b4 := ko ho5 (by omega) (by omega) b4); (replace b5 := ko ho5 (by omega) (by omega) b5); (replace z0 := ko ho5 (by omega) (by omega) z0); (replace z1 := ko ho5 (by omega) (by omega) z1); (replace z2 := ko ho5 (by omega) (by omega) z2); (replace z3 := ko ho5 (by omega) (by omega) z3); (replace z4 := ko ho5 (by omega) (by omega) z4); (replace z5 := ko ho5 (by omega) (by omega) z5); (replace s0 := kof ho5 (by omega) (by omega) s0); (replace s1 := kof ho5 (by omega) (by omega) s1); (replace s2 := kof ho5 (by omega) (by omega) s2); (replace s3 := kof ho5 (by omega) (by omega) s3); (replace s4 := kof ho5 (by omega) (by omega) s4); (replace s5 := kof ho5 (by omega) (by omega) s5))
  (try go_wp2_with (fail))
  refine hK.out _ _ ?_ (fun hHeld => ?_)
  · (try dsimp only); with_reducible exact ⟨a0, a1, a2, a3, a4, a5, b0, b1, b2, b3, b4, b5⟩
  clear hK K
  (try simp only [List.getElem_toArray, List.getElem_cons_succ, List.getElem_cons_zero, Act.put, List.setIfInBounds_toArray, List.set_cons_zero, List.set_cons_succ])
  refine wpAnyH_ready (rs := [10]) (by kernel_rfl) (by simp) ?_
  refine AllReadyH.cons (o := _) rfl (fun K hK => ?_) AllReadyH.nil
  go_simp
  (go_at_call 67; refine (c_turned x0 x1 x2 x3 x4 x5 w5).mono ?_; rintro e w6 ⟨rfl, hb6⟩; (have hs6 := hb6.size); (replace hcP : w6.cell? ⟨W.heap.size, 0, none⟩ = some (.int .i64 (em1)) := ((bcell hb6).1 _ _ (by omega)).trans hcP); (replace hfP : w6.frozen? ⟨W.heap.size, 0, none⟩ = false := ((bcell hb6).2 _ _ (by omega)).trans hfP); (replace a0 := kp hb6 (by omega) a0); (replace a1 := kp hb6 (by omega) a1); (replace a2 := kp hb6 (by omega) a2); (replace a3 := kp hb6 (by omega) a3); (replace a4 := kp hb6 (by omega) a4); (replace a5 := kp hb6 (by omega) a5); (replace b0 := kp hb6 (by omega) b0); (replace b1 := kp hb6 (by omega) b1); (replace b2 := kp hb6 (by omega) b2); (replace b3 := kp hb6 (by omega) b3); (replace b4 := kp hb6 (by omega) b4); (replace b5 := kp hb6 (by omega) b5); (replace z0 := kp hb6 (by omega) z0); (replace z1 := kp hb6 (by omega) z1); (replace z2 := kp hb6 (by omega) z2); (replace z3 := kp hb6 (by omega) z3); (replace z4 := kp hb6 (by omega) z4); (replace z5 := kp hb6 (by omega) z5); (replace s0 := kf hb6 (by omega) s0); (replace s1 := kf hb6 (by omega) s1); (replace s2 := kf hb6 (by omega) s2); (replace s3 := kf hb6 (by omega) s3); (replace s4 := kf hb6 (by omega) s4); (replace s5 := kf hb6 (by omega) s5))
  (try go_wp2_with (fail))
  refine hK.out _ _ ?_ (fun hHeld => ?_)
  · (try dsimp only); with_reducible exact ⟨a0, a1, a2, a3, a4, a5, b0, b1, b2, b3, b4, b5⟩
  clear hK K
  (try simp only [List.getElem_toArray, List.getElem_cons_succ, List.getElem_cons_zero, Act.put, List.setIfInBounds_toArray, List.set_cons_zero, List.set_cons_succ])
  refine wpAnyH_ready (rs := [11]) (by kernel_rfl) (by simp) ?_
  refine AllReadyH.cons (o := _) rfl (fun K hK => ?_) AllReadyH.nil
  go_simp
  (go_at_call 67; refine (c_turned x2 x3 x4 x5 x0 x1 w6).mono ?_; rintro e w7 ⟨rfl, hb7⟩; (have hs7 := hb7.size); (replace hcP : w7.cell? ⟨W.heap.size, 0, none⟩ = some (.int .i64 (em1)) := ((bcell hb7).1 _ _ (by omega)).trans hcP); (replace hfP : w7.frozen? ⟨W.heap.size, 0, none⟩ = false := ((bcell hb7).2 _ _ (by omega)).trans hfP); (replace a0 := kp hb7 (by omega) a0); (replace a1 := kp hb7 (by omega) a1); (replace a2 := kp hb7 (by omega) a2); (replace a3 := kp hb7 (by omega) a3); (replace a4 := kp hb7 (by omega) a4); (replace a5 := kp hb7 (by omega) a5); (replace b0 := kp hb7 (by omega) b0); (replace b1 := kp hb7 (by omega) b1); (replace b2 := kp hb7 (by omega) b2); (replace b3 := kp hb7 (by omega) b3); (replace b4 := kp hb7 (by omega) b4); (replace b5 := kp hb7 (by omega) b5); (replace z0 := kp hb7 (by omega) z0); (replace z1 := kp hb7 (by omega) z1); (replace z2 := kp hb7 (by omega) z2); (replace z3 := kp hb7 (by omega) z3); (replace z4 := kp hb7 (by omega) z4); (replace z5 := kp hb7 (by omega) z5); (replace s0 := kf hb7 (by omega) s0); (replace s1 := kf hb7 (by omega) s1); (replace s2 := kf hb7 (by omega) s2); (replace s3 := kf hb7 (by omega) s3); (replace s4 := kf hb7 (by omega) s4); (replace s5 := kf hb7 (by omega) s5))
  (try go_wp2_with (fail))
  refine hK.out _ _ ?_ (fun hHeld => ?_)
  · (try dsimp only); with_reducible exact ⟨a0, a1, a2, a3, a4, a5, b0, b1, b2, b3, b4, b5⟩
  clear hK K
  (try simp only [List.getElem_toArray, List.getElem_cons_succ, List.getElem_cons_zero, Act.put, List.setIfInBounds_toArray, List.set_cons_zero, List.set_cons_succ])
  refine wpAnyH_ready (rs := [13]) (by kernel_rfl) (by simp) ?_
  refine AllReadyH.cons (o := _) rfl (fun K hK => ?_) AllReadyH.nil
  go_simp
  (go_at_call 67; refine (c_turned y0 y1 y2 y3 y4 y5 w7).mono ?_; rintro e w8 ⟨rfl, hb8⟩; (have hs8 := hb8.size); (replace hcP : w8.cell? ⟨W.heap.size, 0, none⟩ = some (.int .i64 (em1)) := ((bcell hb8).1 _ _ (by omega)).trans hcP); (replace hfP : w8.frozen? ⟨W.heap.size, 0, none⟩ = false := ((bcell hb8).2 _ _ (by omega)).trans hfP); (replace a0 := kp hb8 (by omega) a0); (replace a1 := kp hb8 (by omega) a1); (replace a2 := kp hb8 (by omega) a2); (replace a3 := kp hb8 (by omega) a3); (replace a4 := kp hb8 (by omega) a4); (replace a5 := kp hb8 (by omega) a5); (replace b0 := kp hb8 (by omega) b0); (replace b1 := kp hb8 (by omega) b1); (replace b2 := kp hb8 (by omega) b2); (replace b3 := kp hb8 (by omega) b3); (replace b4 := kp hb8 (by omega) b4); (replace b5 := kp hb8 (by omega) b5); (replace z0 := kp hb8 (by omega) z0); (replace z1 := kp hb8 (by omega) z1); (replace z2 := kp hb8 (by omega) z2); (replace z3 := kp hb8 (by omega) z3); (replace z4 := kp hb8 (by omega) z4); (replace z5 := kp hb8 (by omega) z5); (replace s0 := kf hb8 (by omega) s0); (replace s1 := kf hb8 (by omega) s1); (replace s2 := kf hb8 (by omega) s2); (replace s3 := kf hb8 (by omega) s3); (replace s4 := kf hb8 (by omega) s4); (replace s5 := kf hb8 (by omega) s5))
  (try go_wp2_with (fail))
  refine hK.out _ _ ?_ (fun hHeld => ?_)
  · (try dsimp only); with_reducible exact ⟨a0, a1, a2, a3, a4, a5, b0, b1, b2, b3, b4, b5⟩
  clear hK K
  (try simp only [List.getElem_toArray, List.getElem_cons_succ, List.getElem_cons_zero, Act.put, List.setIfInBounds_toArray, List.set_cons_zero, List.set_cons_succ])
  refine wpAnyH_ready (rs := [16]) (by kernel_rfl) (by simp) ?_
  refine AllReadyH.cons (o := _) rfl (fun K hK => ?_) AllReadyH.nil
  go_simp
  (go_at_call 64; refine (c_each_mul W.heap.size x4 x5 x0 x1 x2 x3 y2 y3 y4 y5 y0 y1 em1 w8 (show W.heap.size < w8.heap.size by omega) hcP hfP).mono ?_; rw [← HQA.out, ← HQB.out, ← HQC.out, ← HEM2.out]; rintro e w9 ⟨rfl, ho9, hcN, hfN⟩; (replace hcP := hcN); (replace hfP := hfN); (have hs9 := ho9.size); (have HB9 : Below w.heap.size w8 w9 := ho9.toBelow (by omega) (by omega)); (replace a0 := ko ho9 (by omega) (by omega) a0); (replace a1 := ko ho9 (by omega) (by omega) a1); (replace a2 := ko ho9 (by omega) (by omega) a2); (replace a3 := ko ho9 (by omega) (by omega) a3); (replace a4 := ko ho9 (by omega) (by omega) a4); (replace a5 := ko ho9 (by omega) (by omega) a5); (replace b0 := ko ho9 (by omega) (by omega) b0); (replace b1 := ko ho9 (by omega) (by omega) b1); (replace b2 := ko ho9 (by omega) (by omega) b2); (replace b3 := ko ho9 (by omega) (by omega) b3); (replace b4 := ko ho9 (by omega) (by omega) b4); (replace b5 := ko ho9 (by omega) (by omega) b5); (replace z0 := ko ho9 (by omega) (by omega) z0); (replace z1 := ko ho9 (by omega) (by omega) z1); (replace z2 := ko ho9 (by omega) (by omega) z2); (replace z3 := ko ho9 (by omega) (by omega) z3); (replace z4 := ko ho9 (by omega) (by omega) z4); (replace z5 := ko ho9 (by omega) (by omega) z5); (replace s0 := kof ho9 (by omega) (by omega) s0); (replace s1 := kof ho9 (by omega) (by omega) s1); (replace s2 := kof ho9 (by omega) (by omega) s2); (replace s3 := kof ho9 (by omega) (by omega) s3); (replace s4 := kof ho9 (by omega) (by omega) s4); (replace s5 := kof ho9 (by omega) (by omega) s5))
  (try go_wp2_with (fail))
  refine hK.out _ _ ?_ (fun hHeld => ?_)
  · (try dsimp only); with_reducible exact ⟨a0, a1, a2, a3, a4, a5, b0, b1, b2, b3, b4, b5⟩
  clear hK K
  (try simp only [List.getElem_toArray, List.getElem_cons_succ, List.getElem_cons_zero, Act.put, List.setIfInBounds_toArray, List.set_cons_zero, List.set_cons_succ])
  refine wpAnyH_ready (rs := [19]) (by kernel_rfl) (by simp) ?_
  refine AllReadyH.cons (o := _) rfl (fun K hK => ?_) AllReadyH.nil
  go_simp
  (go_at_call 64; refine (c_each_sub W.heap.size pa.1 pa.2.1 pb.1 pb.2.1 pc.1 pc.2.1 qa.1 qa.2.1 qb.1 qb.2.1 qc.1 qc.2.1 em2 w9 (show W.heap.size < w9.heap.size by omega) hcP hfP).mono ?_; rw [← HRA.out, ← HRB.out, ← HRC.out, ← HEK.out]; rintro e w10 ⟨rfl, ho10, hcN, hfN⟩; (replace hcP := hcN); (replace hfP := hfN); (have hs10 := ho10.size); (have HB10 : Below w.heap.size w9 w10 := ho10.toBelow (by omega) (by omega)); (replace a0 := ko ho10 (by omega) (by omega) a0); (replace a1 := ko ho10 (by omega) (by omega) a1); (replace a2 := ko ho10 (by omega) (by omega) a2); (replace a3 := ko ho10 (by omega) (by omega) a3); (replace a4 := ko ho10 (by omega) (by omega) a4); (replace a5 := ko ho10 (by omega) (by omega) a5); (replace b0 := ko ho10 (by omega) (by omega) b0); (replace b1 := ko ho10 (by omega) (by omega) b1); (replace b2 := ko ho10 (by omega) (by omega) b2); (replace b3 := ko ho10 (by omega) (by omega) b3); (replace b4 := ko ho10 (by omega) (by omega) b4); (replace b5 := ko ho10 (by omega) (by omega) b5); (replace z0 := ko ho10 (by omega) (by omega) z0); (replace z1 := ko ho10 (by omega) (by omega) z1); (replace z2 := ko ho10 (by omega) (by omega) z2); (replace z3 := ko ho10 (by omega) (by omega) z3); (replace z4 := ko ho10 (by omega) (by omega) z4); (replace z5 := ko ho10 (by omega) (by omega) z5); (replace s0 := kof ho10 (by omega) (by omega) s0); (replace s1 := kof ho10 (by omega) (by omega) s1); (replace s2 := kof ho10 (by omega) (by omega) s2); (replace s3 := kof ho10 (by omega) (by omega) s3); (replace s4 := kof ho10 (by omega) (by omega) s4); (replace s5 := kof ho10 (by omega) (by omega) s5))
  (try go_wp2_with (fail))
  refine hK.out _ _ ?_ (fun hHeld => ?_)
  · (try dsimp only); with_reducible exact ⟨a0, a1, a2, a3, a4, a5, b0, b1, b2, b3, b4, b5⟩
  clear hK K
  (try simp only [List.getElem_toArray, List.getElem_cons_succ, List.getElem_cons_zero, Act.put, List.setIfInBounds_toArray, List.set_cons_zero, List.set_cons_succ])
  refine wpAnyH_ready (rs := [20]) (by kernel_rfl) (by simp) ?_
  refine AllReadyH.cons (o := _) rfl (fun K hK => ?_) AllReadyH.nil
  go_simp
  (go_at_call 63; refine (c_toldV W.heap.size ra rb rc ek w10 (show W.heap.size < w10.heap.size by omega) hcP).mono ?_; rw [HN.out]; rintro e w11 ⟨rfl, hb11⟩; (have hs11 := hb11.size); (replace hcP : w11.cell? ⟨W.heap.size, 0, none⟩ = some (.int .i64 (ek)) := ((bcell hb11).1 _ _ (by omega)).trans hcP); (replace hfP : w11.frozen? ⟨W.heap.size, 0, none⟩ = false := ((bcell hb11).2 _ _ (by omega)).trans hfP); (replace a0 := kp hb11 (by omega) a0); (replace a1 := kp hb11 (by omega) a1); (replace a2 := kp hb11 (by omega) a2); (replace a3 := kp hb11 (by omega) a3); (replace a4 := kp hb11 (by omega) a4); (replace a5 := kp hb11 (by omega) a5); (replace b0 := kp hb11 (by omega) b0); (replace b1 := kp hb11 (by omega) b1); (replace b2 := kp hb11 (by omega) b2); (replace b3 := kp hb11 (by omega) b3); (replace b4 := kp hb11 (by omega) b4); (replace b5 := kp hb11 (by omega) b5); (replace z0 := kp hb11 (by omega) z0); (replace z1 := kp hb11 (by omega) z1); (replace z2 := kp hb11 (by omega) z2); (replace z3 := kp hb11 (by omega) z3); (replace z4 := kp hb11 (by omega) z4); (replace z5 := kp hb11 (by omega) z5); (replace s0 := kf hb11 (by omega) s0); (replace s1 := kf hb11 (by omega) s1); (replace s2 := kf hb11 (by omega) s2); (replace s3 := kf hb11 (by omega) s3); (replace s4 := kf hb11 (by omega) s4); (replace s5 := kf hb11 (by omega) s5))
  (try go_wp2_with (fail))
  refine hK.out _ _ ?_ (fun hHeld => ?_)
  · (try dsimp only); with_reducible exact ⟨a0, a1, a2, a3, a4, a5, b0, b1, b2, b3, b4, b5⟩
  clear hK K
  (try simp only [List.getElem_toArray, List.getElem_cons_succ, List.getElem_cons_zero, Act.put, List.setIfInBounds_toArray, List.set_cons_zero, List.set_cons_succ])
  refine wpAnyH_take (i := 21) (oi := _) (v := ?_) rfl (by kernel_rfl) (by kernel_rfl) (by kernel_rfl) (fun _ _ _ h => h) (Or.inl ⟨by rfl, ?_⟩) (by assumption) ?_
  rotate_left
  · intro w hSw; (try dsimp only at hSw); go_simp; (first | done | with_reducible rfl)
  (try simp only [List.getElem_toArray, List.getElem_cons_succ, List.getElem_cons_zero, Act.put, List.setIfInBounds_toArray, List.set_cons_zero, List.set_cons_succ])
  refine wpAnyH_take (i := 22) (oi := _) (v := ?_) rfl (by kernel_rfl) (by kernel_rfl) (by kernel_rfl) (fun _ _ _ h => h) (Or.inl ⟨by rfl, ?_⟩) (by assumption) ?_
  rotate_left
  · intro w hSw; (try dsimp only at hSw); go_simp; (first | done | with_reducible rfl)
  (try simp only [List.getElem_toArray, List.getElem_cons_succ, List.getElem_cons_zero, Act.put, List.setIfInBounds_toArray, List.set_cons_zero, List.set_cons_succ])
  refine wpAnyH_ready (rs := [23]) (by kernel_rfl) (by simp) ?_
  refine AllReadyH.cons (o := _) rfl (fun K hK => ?_) AllReadyH.nil
  go_simp
  refine hK.out _ _ ?_ (fun hHeld => ?_)
  · (try dsimp only); ((with_reducible refine ⟨kfar ?_ (kfar ?_ (kfar ?_ (kfar ?_ (kfar ?_ (kfar ?_ a0))))), kfar ?_ (kfar ?_ (kfar ?_ (kfar ?_ (kfar ?_ (kfar ?_ a1))))), kfar ?_ (kfar ?_ (kfar ?_ (kfar ?_ (kfar ?_ (kfar ?_ a2))))), kfar ?_ (kfar ?_ (kfar ?_ (kfar ?_ (kfar ?_ (kfar ?_ a3))))), kfar ?_ (kfar ?_ (kfar ?_ (kfar ?_ (kfar ?_ (kfar ?_ a4))))), kfar ?_ (kfar ?_ (kfar ?_ (kfar ?_ (kfar ?_ (kfar ?_ a5))))), kfar ?_ (kfar ?_ (kfar ?_ (kfar ?_ (kfar ?_ (kfar ?_ b0))))), kfar ?_ (kfar ?_ (kfar ?_ (kfar ?_ (kfar ?_ (kfar ?_ b1))))), kfar ?_ (kfar ?_ (kfar ?_ (kfar ?_ (kfar ?_ (kfar ?_ b2))))), kfar ?_ (kfar ?_ (kfar ?_ (kfar ?_ (kfar ?_ (kfar ?_ b3))))), kfar ?_ (kfar ?_ (kfar ?_ (kfar ?_ (kfar ?_ (kfar ?_ b4))))), kfar ?_ (kfar ?_ (kfar ?_ (kfar ?_ (kfar ?_ (kfar ?_ b5)))))⟩) <;> (first | omega | (simp only; omega)))
  clear hK K
  (try simp only [List.getElem_toArray, List.getElem_cons_succ, List.getElem_cons_zero, Act.put, List.setIfInBounds_toArray, List.set_cons_zero, List.set_cons_succ])
  refine wpAnyH_take (i := 24) (oi := _) (v := ?_) rfl (by kernel_rfl) (by kernel_rfl) (by kernel_rfl) (fun _ _ _ h => h) (Or.inl ⟨by rfl, ?_⟩) (by assumption) ?_
  rotate_left
  · intro w hSw; (try dsimp only at hSw); go_simp; (first | done | with_reducible rfl)
  (try simp only [List.getElem_toArray, List.getElem_cons_succ, List.getElem_cons_zero, Act.put, List.setIfInBounds_toArray, List.set_cons_zero, List.set_cons_succ])
  refine wpAnyH_done (by kernel_rfl) ?_ _
  go_wp2_with (fail)
  have HB := hB.out
  obtain ⟨F, hF⟩ : ∃ F, F = ((((((w11.setCell ⟨w.heap.size + 1 + 1, 0, none⟩ (Value.int IntKind.i64 n0)).setCell ⟨w.heap.size + 1 + 1, 1, none⟩ (Value.int IntKind.i64 n1)).setCell ⟨w.heap.size + 1 + 1, 2, none⟩ (Value.int IntKind.i64 n2)).setCell ⟨w.heap.size + 1 + 1, 3, none⟩ (Value.int IntKind.i64 n3)).setCell ⟨w.heap.size + 1 + 1, 4, none⟩ (Value.int IntKind.i64 n4)).setCell ⟨w.heap.size + 1 + 1, 5, none⟩ (Value.int IntKind.i64 n5)) := ⟨_, rfl⟩
  have g := st6 w11 (w.heap.size + 1 + 1) (n0) (n1) (n2) (n3) (n4) (n5) z0 z1 z2 z3 z4 z5
  rw [← hF] at g
  have g0 : F.cell? ⟨w.heap.size + 1 + 1, 0, none⟩ = some (.int .i64 (n0)) := g 0 (by decide)
  have g1 : F.cell? ⟨w.heap.size + 1 + 1, 1, none⟩ = some (.int .i64 (n1)) := g 1 (by decide)
  have g2 : F.cell? ⟨w.heap.size + 1 + 1, 2, none⟩ = some (.int .i64 (n2)) := g 2 (by decide)
  have g3 : F.cell? ⟨w.heap.size + 1 + 1, 3, none⟩ = some (.int .i64 (n3)) := g 3 (by decide)
  have g4 : F.cell? ⟨w.heap.size + 1 + 1, 4, none⟩ = some (.int .i64 (n4)) := g 4 (by decide)
  have g5 : F.cell? ⟨w.heap.size + 1 + 1, 5, none⟩ = some (.int .i64 (n5)) := g 5 (by decide)
  clear g
  have hFB : Hid (Below w.heap.size w F) := by rw [hF]; unfold Hid; (repeat' (first | (with_reducible exact Below.refl _ _) | (with_reducible refine Below.setCell ?_ ?_ _) | (with_reducible refine Below.alloc ?_ ?_ _) | (with_reducible refine Below.drew ?_) | (with_reducible refine below_drewN ?_ _) | (with_reducible assumption) | (with_reducible refine Below.trans ?_ (Below.mono (by with_reducible assumption) ?_)) | omega | (simp; done) | (simp; omega) | (simp [World.setCell]; omega)))
  rw [← hF]
  clear hF
  refine bodyPost_ret (v := .tuple #[.agg #[.int .i64 n0, .int .i64 n1, .int .i64 n2, .int .i64 n3, .int .i64 n4, .int .i64 n5], .int .i64 ek]) (by simp [results, Try.results15, go_sem, g0, g1, g2, g3, g4, g5]) rfl ⟨rfl, hFB.out⟩


set_option maxHeartbeats 2000000 in
theorem c_vecUnit (x0 x1 x2 x3 x4 x5 : Int) (w : World) :
    Calls Try.prog 17 #[.agg #[.int .i64 x0, .int .i64 x1, .int .i64 x2, .int .i64 x3, .int .i64 x4, .int .i64 x5]] w fun e w' => e = .returned (vRes (errTo (normE (chk3 0 x0 x1 x2 x3 x4 x5 3) (spPow (x0, x1) 2) (spPow (x2, x3) 2) (spPow (x4, x5) 2)) (spDiv (x0, x1) (ivl (norm3 (spPow (x0, x1) 2) (spPow (x2, x3) 2) (spPow (x4, x5) 2)))).2.2 (spDiv (x2, x3) (ivl (norm3 (spPow (x0, x1) 2) (spPow (x2, x3) 2) (spPow (x4, x5) 2)))).2.2 (spDiv (x4, x5) (ivl (norm3 (spPow (x0, x1) 2) (spPow (x2, x3) 2) (spPow (x4, x5) 2)))).2.2 3) (spDiv (x0, x1) (ivl (norm3 (spPow (x0, x1) 2) (spPow (x2, x3) 2) (spPow (x4, x5) 2)))) (spDiv (x2, x3) (ivl (norm3 (spPow (x0, x1) 2) (spPow (x2, x3) 2) (spPow (x4, x5) 2)))) (spDiv (x4, x5) (ivl (norm3 (spPow (x0, x1) 2) (spPow (x2, x3) 2) (spPow (x4, x5) 2))))) ∧ Below w.heap.size w w' := by
  obtain ⟨ra, hra⟩ : ∃ r, r = spPow (x0, x1) 2 := ⟨_, rfl⟩
  obtain ⟨rb, hrb⟩ : ∃ r, r = spPow (x2, x3) 2 := ⟨_, rfl⟩
  obtain ⟨rc, hrc⟩ : ∃ r, r = spPow (x4, x5) 2 := ⟨_, rfl⟩
  obtain ⟨e0, he0⟩ : ∃ e, e = chk3 0 x0 x1 x2 x3 x4 x5 3 := ⟨_, rfl⟩
  rw [← hra, ← hrb, ← hrc, ← he0]
  obtain ⟨rd, hrd⟩ : ∃ r, r = norm3 ra rb rc := ⟨_, rfl⟩
  obtain ⟨en, hen⟩ : ∃ e, e = normE e0 ra rb rc := ⟨_, rfl⟩
  rw [← hrd, ← hen]
  obtain ⟨ua, hua⟩ : ∃ r, r = spDiv (x0, x1) (rd.1, rd.2.1) := ⟨_, rfl⟩
  rw [show spDiv (x0, x1) (ivl rd) = ua from hua.symm]
  obtain ⟨ub, hub⟩ : ∃ r, r = spDiv (x2, x3) (rd.1, rd.2.1) := ⟨_, rfl⟩
  rw [show spDiv (x2, x3) (ivl rd) = ub from hub.symm]
  obtain ⟨uc, huc⟩ : ∃ r, r = spDiv (x4, x5) (rd.1, rd.2.1) := ⟨_, rfl⟩
  rw [show spDiv (x4, x5) (ivl rd) = uc from huc.symm]
  obtain ⟨ek, hek⟩ : ∃ ek, ek = errTo en ua.2.2 ub.2.2 uc.2.2 3 := ⟨_, rfl⟩
  rw [← hek]
  obtain ⟨n0, n1, n2, n3, n4, n5, hn⟩ := vRes_form ek ua ub uc
  rw [hn]
  have HN := Lib.hid hn; clear hn
  have HEK := Lib.hid hek; clear hek
  have HE0 := Lib.hid he0; clear he0
  have HEN := Lib.hid hen; clear hen
  have HRD := Lib.hid hrd; clear hrd
  have HRA := Lib.hid hra; clear hra
  have HRB := Lib.hid hrb; clear hrb
  have HRC := Lib.hid hrc; clear hrc
  have HUA := Lib.hid hua; clear hua
  have HUB := Lib.hid hub; clear hub
  have HUC := Lib.hid huc; clear huc

  obtain ⟨W, hW⟩ : ∃ W, W = ((w.alloc (Obj.cells #[Value.int IntKind.i64 x0, Value.int IntKind.i64 x1, Value.int IntKind.i64 x2, Value.int IntKind.i64 x3, Value.int IntKind.i64 x4, Value.int IntKind.i64 x5] 25)).alloc (Obj.cells #[Value.int IntKind.i64 0, Value.int IntKind.i64 0, Value.int IntKind.i64 0, Value.int IntKind.i64 0, Value.int IntKind.i64 0, Value.int IntKind.i64 0] 25)).alloc (Obj.cells #[Value.int IntKind.i64 x0, Value.int IntKind.i64 x1, Value.int IntKind.i64 x2, Value.int IntKind.i64 x3, Value.int IntKind.i64 x4, Value.int IntKind.i64 x5] 25) := ⟨_, rfl⟩
  have hsW : w.heap.size + 1 + 1 < W.heap.size := by rw [hW]; simp
  have hB : Hid (Below w.heap.size w W) := by rw [hW]; unfold Hid; (repeat' (first | (with_reducible exact Below.refl _ _) | (with_reducible refine Below.setCell ?_ ?_ _) | (with_reducible refine Below.alloc ?_ ?_ _) | (with_reducible refine Below.drew ?_) | (with_reducible refine below_drewN ?_ _) | (with_reducible assumption) | (with_reducible refine Below.trans ?_ (Below.mono (by with_reducible assumption) ?_)) | omega | (simp; done) | (simp; omega) | (simp [World.setCell]; omega)))
  have hT : Hid (Tab6 W (w.heap.size + 1 + 1) (six x0 x1 x2 x3 x4 x5)) := by
    rw [hW]; intro j hj; rcases (by omega : j = 0 ∨ j = 1 ∨ j = 2 ∨ j = 3 ∨ j = 4 ∨ j = 5) with rfl | rfl | rfl | rfl | rfl | rfl <;> simp [go_sem, six]
  have a0 : W.cell? ⟨w.heap.size, 0, none⟩ = some (.int .i64 x0) := by rw [hW]; simp [go_sem]
  have a1 : W.cell? ⟨w.heap.size, 1, none⟩ = some (.int .i64 x1) := by rw [hW]; simp [go_sem]
  have a2 : W.cell? ⟨w.heap.size, 2, none⟩ = some (.int .i64 x2) := by rw [hW]; simp [go_sem]
  have a3 : W.cell? ⟨w.heap.size, 3, none⟩ = some (.int .i64 x3) := by rw [hW]; simp [go_sem]
  have a4 : W.cell? ⟨w.heap.size, 4, none⟩ = some (.int .i64 x4) := by rw [hW]; simp [go_sem]
  have a5 : W.cell? ⟨w.heap.size, 5, none⟩ = some (.int .i64 x5) := by rw [hW]; simp [go_sem]
  have z0 : W.cell? ⟨w.heap.size + 1, 0, none⟩ = some (.int .i64 0) := by rw [hW]; simp [go_sem]
  have z1 : W.cell? ⟨w.heap.size + 1, 1, none⟩ = some (.int .i64 0) := by rw [hW]; simp [go_sem]
  have z2 : W.cell? ⟨w.heap.size + 1, 2, none⟩ = some (.int .i64 0) := by rw [hW]; simp [go_sem]
  have z3 : W.cell? ⟨w.heap.size + 1, 3, none⟩ = some (.int .i64 0) := by rw [hW]; simp [go_sem]
  have z4 : W.cell? ⟨w.heap.size + 1, 4, none⟩ = some (.int .i64 0) := by rw [hW]; simp [go_sem]
  have z5 : W.cell? ⟨w.heap.size + 1, 5, none⟩ = some (.int .i64 0) := by rw [hW]; simp [go_sem]
  have s0 : W.frozen? ⟨w.heap.size + 1, 0, none⟩ = false := by rw [hW]; simp [go_sem]
  have s1 : W.frozen? ⟨w.heap.size + 1, 1, none⟩ = false := by rw [hW]; simp [go_sem]
  have s2 : W.frozen? ⟨w.heap.size + 1, 2, none⟩ = false := by rw [hW]; simp [go_sem]
  have s3 : W.frozen? ⟨w.heap.size + 1, 3, none⟩ = false := by rw [hW]; simp [go_sem]
  have s4 : W.frozen? ⟨w.heap.size + 1, 4, none⟩ = false := by rw [hW]; simp [go_sem]
  have s5 : W.frozen? ⟨w.heap.size + 1, 5, none⟩ = false := by rw [hW]; simp [go_sem]
  go_enter Try.func17, Try.ntmps17
  go_wp2_with (fail)
  rw [← hW]
  clear hW
  go_at_call 62
  refine Calls.mono (c_all1' _ _ x0 x1 x2 x3 x4 x5 W (by omega) hT) ?_
  rintro e w1 ⟨rfl, hb1, hz1, hcP, hfP⟩
  rw [← HE0.out] at hcP
  have hs1 := hb1.size
  (replace a0 := kp hb1 (by omega) a0); (replace a1 := kp hb1 (by omega) a1); (replace a2 := kp hb1 (by omega) a2); (replace a3 := kp hb1 (by omega) a3); (replace a4 := kp hb1 (by omega) a4); (replace a5 := kp hb1 (by omega) a5); (replace z0 := kp hb1 (by omega) z0); (replace z1 := kp hb1 (by omega) z1); (replace z2 := kp hb1 (by omega) z2); (replace z3 := kp hb1 (by omega) z3); (replace z4 := kp hb1 (by omega) z4); (replace z5 := kp hb1 (by omega) z5); (replace s0 := kf hb1 (by omega) s0); (replace s1 := kf hb1 (by omega) s1); (replace s2 := kf hb1 (by omega) s2); (replace s3 := kf hb1 (by omega) s3); (replace s4 := kf hb1 (by omega) s4); (replace s5 := kf hb1 (by omega) s5)
  go_wp2_with (fail)
  refine wp_region_held_drew (S := (fun w' => w'.cell? ⟨w.heap.size, 0, none⟩ = some (.int .i64 x0) ∧ w'.cell? ⟨w.heap.size, 1, none⟩ = some (.int .i64 x1) ∧ w'.cell? ⟨w.heap.size, 2, none⟩ = some (.int .i64 x2) ∧ w'.cell? ⟨w.heap.size, 3, none⟩ = some (.int .i64 x3) ∧ w'.cell? ⟨w.heap.size, 4, none⟩ = some (.int .i64 x4) ∧ w'.cell? ⟨w.heap.size, 5, none⟩ = some (.int .i64 x5))) (by kernel_rfl) ?_ (fun hHeld => ?_)
  · (try dsimp only); with_reducible exact ⟨cell_drew a0, cell_drew a1, cell_drew a2, cell_drew a3, cell_drew a4, cell_drew a5⟩
  refine wpAnyH_take (i := 0) (oi := _) (v := ?_) rfl (by kernel_rfl) (by kernel_rfl) (by kernel_rfl) (fun _ _ _ h => h) (Or.inl ⟨by rfl, ?_⟩) (by assumption) ?_
  rotate_left
  · intro w hSw; (try dsimp only at hSw); go_simp; (first | done | with_reducible rfl)
  (try simp only [List.getElem_toArray, List.getElem_cons_succ, List.getElem_cons_zero, Act.put, List.setIfInBounds_toArray, List.set_cons_zero, List.set_cons_succ])
  refine wpAnyH_take (i := 1) (oi := _) (v := ?_) rfl (by kernel_rfl) (by kernel_rfl) (by kernel_rfl) (fun _ _ _ h => h) (Or.inl ⟨by rfl, ?_⟩) (by assumption) ?_
  rotate_left
  · intro w hSw; (try dsimp only at hSw); go_simp; (first | done | with_reducible rfl)
  (try simp only [List.getElem_toArray, List.getElem_cons_succ, List.getElem_cons_zero, Act.put, List.setIfInBounds_toArray, List.set_cons_zero, List.set_cons_succ])
  refine wpAnyH_take (i := 2) (oi := _) (v := ?_) rfl (by kernel_rfl) (by kernel_rfl) (by kernel_rfl) (fun _ _ _ h => h) (Or.inl ⟨by rfl, ?_⟩) (by assumption) ?_
  rotate_left
  · intro w hSw; (try dsimp only at hSw); go_simp; (first | done | with_reducible rfl)
  (try simp only [List.getElem_toArray, List.getElem_cons_succ, List.getElem_cons_zero, Act.put, List.setIfInBounds_toArray, List.set_cons_zero, List.set_cons_succ])
  refine wpAnyH_take (i := 3) (oi := _) (v := ?_) rfl (by kernel_rfl) (by kernel_rfl) (by kernel_rfl) (fun _ _ _ h => h) (Or.inl ⟨by rfl, ?_⟩) (by assumption) ?_
  rotate_left
  · intro w hSw; (try dsimp only at hSw); go_simp; (first | done | with_reducible rfl)
  (try simp only [List.getElem_toArray, List.getElem_cons_succ, List.getElem_cons_zero, Act.put, List.setIfInBounds_toArray, List.set_cons_zero, List.set_cons_succ])
  refine wpAnyH_take (i := 6) (oi := _) (v := ?_) rfl (by kernel_rfl) (by kernel_rfl) (by kernel_rfl) (fun _ _ _ h => h) (Or.inl ⟨by rfl, ?_⟩) (by assumption) ?_
  rotate_left
  · intro w hSw; (try dsimp only at hSw); go_simp; (first | done | with_reducible rfl)
  (try simp only [List.getElem_toArray, List.getElem_cons_succ, List.getElem_cons_zero, Act.put, List.setIfInBounds_toArray, List.set_cons_zero, List.set_cons_succ])
  refine wpAnyH_take (i := 7) (oi := _) (v := ?_) rfl (by kernel_rfl) (by kernel_rfl) (by kernel_rfl) (fun _ _ _ h => h) (Or.inl ⟨by rfl, ?_⟩) (by assumption) ?_
  rotate_left
  · intro w hSw; (try dsimp only at hSw); go_simp; (first | done | with_reducible rfl)
  (try simp only [List.getElem_toArray, List.getElem_cons_succ, List.getElem_cons_zero, Act.put, List.setIfInBounds_toArray, List.set_cons_zero, List.set_cons_succ])
  refine wpAnyH_ready (rs := [4]) (by kernel_rfl) (by simp) ?_
  refine AllReadyH.cons (o := _) rfl (fun K hK => ?_) AllReadyH.nil
  go_simp
  (go_at_call 70; refine (c_norm W.heap.size x0 x1 x2 x3 x4 x5 e0 w1.drew (show W.heap.size < w1.heap.size by omega) hcP hfP).mono ?_; rw [← HRA.out, ← HRB.out, ← HRC.out, ← HRD.out, ← HEN.out]; rintro e w2 ⟨rfl, ho2, hcN, hfN⟩; (replace ho2 := OnlyB.undrew ho2); (replace hcP := hcN); (replace hfP := hfN); (have hs2 := ho2.size); (have HB2 : Below w.heap.size w1 w2 := ho2.toBelow (by omega) (by omega)); (replace a0 := ko ho2 (by omega) (by omega) a0); (replace a1 := ko ho2 (by omega) (by omega) a1); (replace a2 := ko ho2 (by omega) (by omega) a2); (replace a3 := ko ho2 (by omega) (by omega) a3); (replace a4 := ko ho2 (by omega) (by omega) a4); (replace a5 := ko ho2 (by omega) (by omega) a5); (replace z0 := ko ho2 (by omega) (by omega) z0); (replace z1 := ko ho2 (by omega) (by omega) z1); (replace z2 := ko ho2 (by omega) (by omega) z2); (replace z3 := ko ho2 (by omega) (by omega) z3); (replace z4 := ko ho2 (by omega) (by omega) z4); (replace z5 := ko ho2 (by omega) (by omega) z5); (replace s0 := kof ho2 (by omega) (by omega) s0); (replace s1 := kof ho2 (by omega) (by omega) s1); (replace s2 := kof ho2 (by omega) (by omega) s2); (replace s3 := kof ho2 (by omega) (by omega) s3); (replace s4 := kof ho2 (by omega) (by omega) s4); (replace s5 := kof ho2 (by omega) (by omega) s5))
  (try go_wp2_with (fail))
  refine hK.out _ _ ?_ (fun hHeld => ?_)
  · (try dsimp only); with_reducible exact ⟨a0, a1, a2, a3, a4, a5⟩
  clear hK K
  (try simp only [List.getElem_toArray, List.getElem_cons_succ, List.getElem_cons_zero, Act.put, List.setIfInBounds_toArray, List.set_cons_zero, List.set_cons_succ])
  refine wpAnyH_ready (rs := [5]) (by kernel_rfl) (by simp) ?_
  refine AllReadyH.cons (o := _) rfl (fun K hK => ?_) AllReadyH.nil
  go_simp
  (go_at_call 69; refine (c_alike rd.1 rd.2.1 w2).mono ?_; rintro e w3 ⟨rfl, hb3⟩; (have hs3 := hb3.size); (replace hcP : w3.cell? ⟨W.heap.size, 0, none⟩ = some (.int .i64 (en)) := ((bcell hb3).1 _ _ (by omega)).trans hcP); (replace hfP : w3.frozen? ⟨W.heap.size, 0, none⟩ = false := ((bcell hb3).2 _ _ (by omega)).trans hfP); (replace a0 := kp hb3 (by omega) a0); (replace a1 := kp hb3 (by omega) a1); (replace a2 := kp hb3 (by omega) a2); (replace a3 := kp hb3 (by omega) a3); (replace a4 := kp hb3 (by omega) a4); (replace a5 := kp hb3 (by omega) a5); (replace z0 := kp hb3 (by omega) z0); (replace z1 := kp hb3 (by omega) z1); (replace z2 := kp hb3 (by omega) z2); (replace z3 := kp hb3 (by omega) z3); (replace z4 := kp hb3 (by omega) z4); (replace z5 := kp hb3 (by omega) z5); (replace s0 := kf hb3 (by omega) s0); (replace s1 := kf hb3 (by omega) s1); (replace s2 := kf hb3 (by omega) s2); (replace s3 := kf hb3 (by omega) s3); (replace s4 := kf hb3 (by omega) s4); (replace s5 := kf hb3 (by omega) s5))
  (try go_wp2_with (fail))
  refine hK.out _ _ ?_ (fun hHeld => ?_)
  · (try dsimp only); with_reducible exact ⟨a0, a1, a2, a3, a4, a5⟩
  clear hK K
  (try simp only [List.getElem_toArray, List.getElem_cons_succ, List.getElem_cons_zero, Act.put, List.setIfInBounds_toArray, List.set_cons_zero, List.set_cons_succ])
  refine wpAnyH_ready (rs := [8]) (by kernel_rfl) (by simp) ?_
  refine AllReadyH.cons (o := _) rfl (fun K hK => ?_) AllReadyH.nil
  go_simp
  (go_at_call 64; refine (c_each_div W.heap.size x0 x1 x2 x3 x4 x5 rd.1 rd.2.1 rd.1 rd.2.1 rd.1 rd.2.1 en w3 (show W.heap.size < w3.heap.size by omega) hcP hfP).mono ?_; rw [← HUA.out, ← HUB.out, ← HUC.out, ← HEK.out]; rintro e w4 ⟨rfl, ho4, hcN, hfN⟩; (replace hcP := hcN); (replace hfP := hfN); (have hs4 := ho4.size); (have HB4 : Below w.heap.size w3 w4 := ho4.toBelow (by omega) (by omega)); (replace a0 := ko ho4 (by omega) (by omega) a0); (replace a1 := ko ho4 (by omega) (by omega) a1); (replace a2 := ko ho4 (by omega) (by omega) a2); (replace a3 := ko ho4 (by omega) (by omega) a3); (replace a4 := ko ho4 (by omega) (by omega) a4); (replace a5 := ko ho4 (by omega) (by omega) a5); (replace z0 := ko ho4 (by omega) (by omega) z0); (replace z1 := ko ho4 (by omega) (by omega) z1); (replace z2 := ko ho4 (by omega) (by omega) z2); (replace z3 := ko ho4 (by omega) (by omega) z3); (replace z4 := ko ho4 (by omega) (by omega) z4); (replace z5 := ko ho4 (by omega) (by omega) z5); (replace s0 := kof ho4 (by omega) (by omega) s0); (replace s1 := kof ho4 (by omega) (by omega) s1); (replace s2 := kof ho4 (by omega) (by omega) s2); (replace s3 := kof ho4 (by omega) (by omega) s3); (replace s4 := kof ho4 (by omega) (by omega) s4); (replace s5 := kof ho4 (by omega) (by omega) s5))
  (try go_wp2_with (fail))
  refine hK.out _ _ ?_ (fun hHeld => ?_)
  · (try dsimp only); with_reducible exact ⟨a0, a1, a2, a3, a4, a5⟩
  clear hK K
  (try simp only [List.getElem_toArray, List.getElem_cons_succ, List.getElem_cons_zero, Act.put, List.setIfInBounds_toArray, List.set_cons_zero, List.set_cons_succ])
  refine wpAnyH_ready (rs := [9]) (by kernel_rfl) (by simp) ?_
  refine AllReadyH.cons (o := _) rfl (fun K hK => ?_) AllReadyH.nil
  go_simp
  (go_at_call 63; refine (c_toldV W.heap.size ua ub uc ek w4 (show W.heap.size < w4.heap.size by omega) hcP).mono ?_; rw [HN.out]; rintro e w5 ⟨rfl, hb5⟩; (have hs5 := hb5.size); (replace hcP : w5.cell? ⟨W.heap.size, 0, none⟩ = some (.int .i64 (ek)) := ((bcell hb5).1 _ _ (by omega)).trans hcP); (replace hfP : w5.frozen? ⟨W.heap.size, 0, none⟩ = false := ((bcell hb5).2 _ _ (by omega)).trans hfP); (replace a0 := kp hb5 (by omega) a0); (replace a1 := kp hb5 (by omega) a1); (replace a2 := kp hb5 (by omega) a2); (replace a3 := kp hb5 (by omega) a3); (replace a4 := kp hb5 (by omega) a4); (replace a5 := kp hb5 (by omega) a5); (replace z0 := kp hb5 (by omega) z0); (replace z1 := kp hb5 (by omega) z1); (replace z2 := kp hb5 (by omega) z2); (replace z3 := kp hb5 (by omega) z3); (replace z4 := kp hb5 (by omega) z4); (replace z5 := kp hb5 (by omega) z5); (replace s0 := kf hb5 (by omega) s0); (replace s1 := kf hb5 (by omega) s1); (replace s2 := kf hb5 (by omega) s2); (replace s3 := kf hb5 (by omega) s3); (replace s4 := kf hb5 (by omega) s4); (replace s5 := kf hb5 (by omega) s5))
  (try go_wp2_with (fail))
  refine hK.out _ _ ?_ (fun hHeld => ?_)
  · (try dsimp only); with_reducible exact ⟨a0, a1, a2, a3, a4, a5⟩
  clear hK K
  (try simp only [List.getElem_toArray, List.getElem_cons_succ, List.getElem_cons_zero, Act.put, List.setIfInBounds_toArray, List.set_cons_zero, List.set_cons_succ])
  refine wpAnyH_take (i := 10) (oi := _) (v := ?_) rfl (by kernel_rfl) (by kernel_rfl) (by kernel_rfl) (fun _ _ _ h => h) (Or.inl ⟨by rfl, ?_⟩) (by assumption) ?_
  rotate_left
  · intro w hSw; (try dsimp only at hSw); go_simp; (first | done | with_reducible rfl)
  (try simp only [List.getElem_toArray, List.getElem_cons_succ, List.getElem_cons_zero, Act.put, List.setIfInBounds_toArray, List.set_cons_zero, List.set_cons_succ])
  refine wpAnyH_take (i := 11) (oi := _) (v := ?_) rfl (by kernel_rfl) (by kernel_rfl) (by kernel_rfl) (fun _ _ _ h => h) (Or.inl ⟨by rfl, ?_⟩) (by assumption) ?_
  rotate_left
  · intro w hSw; (try dsimp only at hSw); go_simp; (first | done | with_reducible rfl)
  (try simp only [List.getElem_toArray, List.getElem_cons_succ, List.getElem_cons_zero, Act.put, List.setIfInBounds_toArray, List.set_cons_zero, List.set_cons_succ])
  refine wpAnyH_ready (rs := [12]) (by kernel_rfl) (by simp) ?_
  refine AllReadyH.cons (o := _) rfl (fun K hK => ?_) AllReadyH.nil
  go_simp
  refine hK.out _ _ ?_ (fun hHeld => ?_)
  · (try dsimp only); ((with_reducible refine ⟨kfar ?_ (kfar ?_ (kfar ?_ (kfar ?_ (kfar ?_ (kfar ?_ a0))))), kfar ?_ (kfar ?_ (kfar ?_ (kfar ?_ (kfar ?_ (kfar ?_ a1))))), kfar ?_ (kfar ?_ (kfar ?_ (kfar ?_ (kfar ?_ (kfar ?_ a2))))), kfar ?_ (kfar ?_ (kfar ?_ (kfar ?_ (kfar ?_ (kfar ?_ a3))))), kfar ?_ (kfar ?_ (kfar ?_ (kfar ?_ (kfar ?_ (kfar ?_ a4))))), kfar ?_ (kfar ?_ (kfar ?_ (kfar ?_ (kfar ?_ (kfar ?_ a5)))))⟩) <;> (first | omega | (simp only; omega)))
  clear hK K
  (try simp only [List.getElem_toArray, List.getElem_cons_succ, List.getElem_cons_zero, Act.put, List.setIfInBounds_toArray, List.set_cons_zero, List.set_cons_succ])
  refine wpAnyH_take (i := 13) (oi := _) (v := ?_) rfl (by kernel_rfl) (by kernel_rfl) (by kernel_rfl) (fun _ _ _ h => h) (Or.inl ⟨by rfl, ?_⟩) (by assumption) ?_
  rotate_left
  · intro w hSw; (try dsimp only at hSw); go_simp; (first | done | with_reducible rfl)
  (try simp only [List.getElem_toArray, List.getElem_cons_succ, List.getElem_cons_zero, Act.put, List.setIfInBounds_toArray, List.set_cons_zero, List.set_cons_succ])
  refine wpAnyH_done (by kernel_rfl) ?_ _
  go_wp2_with (fail)
  have HB := hB.out
  obtain ⟨F, hF⟩ : ∃ F, F = ((((((w5.setCell ⟨w.heap.size + 1, 0, none⟩ (Value.int IntKind.i64 n0)).setCell ⟨w.heap.size + 1, 1, none⟩ (Value.int IntKind.i64 n1)).setCell ⟨w.heap.size + 1, 2, none⟩ (Value.int IntKind.i64 n2)).setCell ⟨w.heap.size + 1, 3, none⟩ (Value.int IntKind.i64 n3)).setCell ⟨w.heap.size + 1, 4, none⟩ (Value.int IntKind.i64 n4)).setCell ⟨w.heap.size + 1, 5, none⟩ (Value.int IntKind.i64 n5)) := ⟨_, rfl⟩
  have g := st6 w5 (w.heap.size + 1) (n0) (n1) (n2) (n3) (n4) (n5) z0 z1 z2 z3 z4 z5
  rw [← hF] at g
  have g0 : F.cell? ⟨w.heap.size + 1, 0, none⟩ = some (.int .i64 (n0)) := g 0 (by decide)
  have g1 : F.cell? ⟨w.heap.size + 1, 1, none⟩ = some (.int .i64 (n1)) := g 1 (by decide)
  have g2 : F.cell? ⟨w.heap.size + 1, 2, none⟩ = some (.int .i64 (n2)) := g 2 (by decide)
  have g3 : F.cell? ⟨w.heap.size + 1, 3, none⟩ = some (.int .i64 (n3)) := g 3 (by decide)
  have g4 : F.cell? ⟨w.heap.size + 1, 4, none⟩ = some (.int .i64 (n4)) := g 4 (by decide)
  have g5 : F.cell? ⟨w.heap.size + 1, 5, none⟩ = some (.int .i64 (n5)) := g 5 (by decide)
  clear g
  have hFB : Hid (Below w.heap.size w F) := by rw [hF]; unfold Hid; (repeat' (first | (with_reducible exact Below.refl _ _) | (with_reducible refine Below.setCell ?_ ?_ _) | (with_reducible refine Below.alloc ?_ ?_ _) | (with_reducible refine Below.drew ?_) | (with_reducible refine below_drewN ?_ _) | (with_reducible assumption) | (with_reducible refine Below.trans ?_ (Below.mono (by with_reducible assumption) ?_)) | omega | (simp; done) | (simp; omega) | (simp [World.setCell]; omega)))
  rw [← hF]
  clear hF
  refine bodyPost_ret (v := .tuple #[.agg #[.int .i64 n0, .int .i64 n1, .int .i64 n2, .int .i64 n3, .int .i64 n4, .int .i64 n5], .int .i64 ek]) (by simp [results, Try.results17, go_sem, g0, g1, g2, g3, g4, g5]) rfl ⟨rfl, hFB.out⟩


end Go.Proofs.Ytpdaigenffecmaa
