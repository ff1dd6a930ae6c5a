/-
  Package vec: Scale, Cross, Unit. Plain: what the results of intervals contain. Plain: quotients, powers and roots of intervals: what they contain; within others.
-/
import Derived.Test.YtpdaigenffecmaaM18
import Derived.Test.YtpdaigenffecmaaM25
import Derived.Test.YtpdaigenffecmaaM27
import Derived.Test.YtpdaigenffecmaaM28
set_option linter.all false
namespace Go.Proofs.Ytpdaigenffecmaa
open Go.RowKit Go.Shelf
theorem cell_drew {w : World} {a : Addr} {v : Option Value} (h : w.cell? a = v) : w.drew.cell? a = v := h

set_option maxHeartbeats 2000000 in
theorem c_vecScale (x0 x1 x2 x3 x4 x5 y0 y1 : Int) (w : World) :
    Calls Try.prog 36 #[.agg #[.int .i64 x0, .int .i64 x1, .int .i64 x2, .int .i64 x3, .int .i64 x4, .int .i64 x5], .agg #[.int .i64 y0, .int .i64 y1]] w fun e w' => e = .returned (vRes (errTo (chk3 (chk3 0 x0 x1 x2 x3 x4 x5 3) y0 y1 y0 y1 y0 y1 3) (spMul (x0, x1) (y0, y1)).2.2 (spMul (x2, x3) (y0, y1)).2.2 (spMul (x4, x5) (y0, y1)).2.2 3) (spMul (x0, x1) (y0, y1)) (spMul (x2, x3) (y0, y1)) (spMul (x4, x5) (y0, y1))) ∧ Below w.heap.size w w' := by
  obtain ⟨ra, hra⟩ : ∃ r, r = spMul (x0, x1) (y0, y1) := ⟨_, rfl⟩
  obtain ⟨rb, hrb⟩ : ∃ r, r = spMul (x2, x3) (y0, y1) := ⟨_, rfl⟩
  obtain ⟨rc, hrc⟩ : ∃ r, r = spMul (x4, x5) (y0, y1) := ⟨_, rfl⟩
  obtain ⟨e0, he0⟩ : ∃ e, e = chk3 (chk3 0 x0 x1 x2 x3 x4 x5 3) y0 y1 y0 y1 y0 y1 3 := ⟨_, rfl⟩
  rw [← hra, ← hrb, ← hrc, ← he0]
  obtain ⟨ek, hek⟩ : ∃ ek, ek = errTo e0 ra.2.2 rb.2.2 rc.2.2 3 := ⟨_, rfl⟩
  rw [← hek]
  obtain ⟨n0, n1, n2, n3, n4, n5, hn⟩ := vRes_form ek ra rb rc
  rw [hn]
  have HN := Lib.hid hn; clear hn
  have HEK := Lib.hid hek; clear hek
  have HE0 := Lib.hid he0; clear he0
  have HRA := Lib.hid hra; clear hra
  have HRB := Lib.hid hrb; clear hrb
  have HRC := Lib.hid hrc; clear hrc

  obtain ⟨W, hW⟩ : ∃ W, W = (((w.alloc (Obj.cells #[Value.int IntKind.i64 x0, Value.int IntKind.i64 x1, Value.int IntKind.i64 x2, Value.int IntKind.i64 x3, Value.int IntKind.i64 x4, Value.int IntKind.i64 x5] 25)).alloc (Obj.cells #[Value.int IntKind.i64 y0, Value.int IntKind.i64 y1] 23)).alloc (Obj.cells #[Value.int IntKind.i64 0, Value.int IntKind.i64 0, Value.int IntKind.i64 0, Value.int IntKind.i64 0, Value.int IntKind.i64 0, Value.int IntKind.i64 0] 25)) := ⟨_, rfl⟩
  have hsW : w.heap.size + 1 + 1 < W.heap.size := by rw [hW]; simp
  have hB : Hid (Below w.heap.size w W) := by rw [hW]; unfold Hid; (repeat' (first | (with_reducible exact Below.refl _ _) | (with_reducible refine Below.setCell ?_ ?_ _) | (with_reducible refine Below.alloc ?_ ?_ _) | (with_reducible refine Below.drew ?_) | (with_reducible refine below_drewN ?_ _) | (with_reducible assumption) | (with_reducible refine Below.trans ?_ (Below.mono (by with_reducible assumption) ?_)) | omega | (simp; done) | (simp; omega) | (simp [World.setCell]; omega)))
  have a0 : W.cell? ⟨w.heap.size, 0, none⟩ = some (.int .i64 x0) := by rw [hW]; simp [go_sem]
  have a1 : W.cell? ⟨w.heap.size, 1, none⟩ = some (.int .i64 x1) := by rw [hW]; simp [go_sem]
  have a2 : W.cell? ⟨w.heap.size, 2, none⟩ = some (.int .i64 x2) := by rw [hW]; simp [go_sem]
  have a3 : W.cell? ⟨w.heap.size, 3, none⟩ = some (.int .i64 x3) := by rw [hW]; simp [go_sem]
  have a4 : W.cell? ⟨w.heap.size, 4, none⟩ = some (.int .i64 x4) := by rw [hW]; simp [go_sem]
  have a5 : W.cell? ⟨w.heap.size, 5, none⟩ = some (.int .i64 x5) := by rw [hW]; simp [go_sem]
  have b0 : W.cell? ⟨w.heap.size + 1, 0, none⟩ = some (.int .i64 y0) := by rw [hW]; simp [go_sem]
  have b1 : W.cell? ⟨w.heap.size + 1, 1, none⟩ = some (.int .i64 y1) := by rw [hW]; simp [go_sem]
  have z0 : W.cell? ⟨w.heap.size + 1 + 1, 0, none⟩ = some (.int .i64 0) := by rw [hW]; simp [go_sem]
  have z1 : W.cell? ⟨w.heap.size + 1 + 1, 1, none⟩ = some (.int .i64 0) := by rw [hW]; simp [go_sem]
  have z2 : W.cell? ⟨w.heap.size + 1 + 1, 2, none⟩ = some (.int .i64 0) := by rw [hW]; simp [go_sem]
  have z3 : W.cell? ⟨w.heap.size + 1 + 1, 3, none⟩ = some (.int .i64 0) := by rw [hW]; simp [go_sem]
  have z4 : W.cell? ⟨w.heap.size + 1 + 1, 4, none⟩ = some (.int .i64 0) := by rw [hW]; simp [go_sem]
  have z5 : W.cell? ⟨w.heap.size + 1 + 1, 5, none⟩ = some (.int .i64 0) := by rw [hW]; simp [go_sem]
  have s0 : W.frozen? ⟨w.heap.size + 1 + 1, 0, none⟩ = false := by rw [hW]; simp [go_sem]
  have s1 : W.frozen? ⟨w.heap.size + 1 + 1, 1, none⟩ = false := by rw [hW]; simp [go_sem]
  have s2 : W.frozen? ⟨w.heap.size + 1 + 1, 2, none⟩ = false := by rw [hW]; simp [go_sem]
  have s3 : W.frozen? ⟨w.heap.size + 1 + 1, 3, none⟩ = false := by rw [hW]; simp [go_sem]
  have s4 : W.frozen? ⟨w.heap.size + 1 + 1, 4, none⟩ = false := by rw [hW]; simp [go_sem]
  have s5 : W.frozen? ⟨w.heap.size + 1 + 1, 5, none⟩ = false := by rw [hW]; simp [go_sem]
  go_enter Try.func36, Try.ntmps36
  go_wp2_with (fail)
  rw [← hW]
  clear hW
  go_region_held3 (fun w' => w'.cell? ⟨w.heap.size, 0, none⟩ = some (.int .i64 x0) ∧ w'.cell? ⟨w.heap.size, 1, none⟩ = some (.int .i64 x1) ∧ w'.cell? ⟨w.heap.size, 2, none⟩ = some (.int .i64 x2) ∧ w'.cell? ⟨w.heap.size, 3, none⟩ = some (.int .i64 x3) ∧ w'.cell? ⟨w.heap.size, 4, none⟩ = some (.int .i64 x4) ∧ w'.cell? ⟨w.heap.size, 5, none⟩ = some (.int .i64 x5) ∧ w'.cell? ⟨w.heap.size + 1, 0, none⟩ = some (.int .i64 y0) ∧ w'.cell? ⟨w.heap.size + 1, 1, none⟩ = some (.int .i64 y1)) (first | exact ⟨a0, a1, a2, a3, a4, a5, b0, b1⟩ | exact ⟨(World.cell?_alloc_past _ _ _ (by first | omega | (simp [go_sem]; done) | (simp [go_sem]; omega))).trans (a0), (World.cell?_alloc_past _ _ _ (by first | omega | (simp [go_sem]; done) | (simp [go_sem]; omega))).trans (a1), (World.cell?_alloc_past _ _ _ (by first | omega | (simp [go_sem]; done) | (simp [go_sem]; omega))).trans (a2), (World.cell?_alloc_past _ _ _ (by first | omega | (simp [go_sem]; done) | (simp [go_sem]; omega))).trans (a3), (World.cell?_alloc_past _ _ _ (by first | omega | (simp [go_sem]; done) | (simp [go_sem]; omega))).trans (a4), (World.cell?_alloc_past _ _ _ (by first | omega | (simp [go_sem]; done) | (simp [go_sem]; omega))).trans (a5), (World.cell?_alloc_past _ _ _ (by first | omega | (simp [go_sem]; done) | (simp [go_sem]; omega))).trans (b0), (World.cell?_alloc_past _ _ _ (by first | omega | (simp [go_sem]; done) | (simp [go_sem]; omega))).trans (b1)⟩) (first | (go_at_call 62; (have hT : Hid (Tab12 (w1.alloc (Obj.cells #[Value.int IntKind.i64 x0, Value.int IntKind.i64 x1, Value.int IntKind.i64 x2, Value.int IntKind.i64 x3, Value.int IntKind.i64 x4, Value.int IntKind.i64 x5, Value.int IntKind.i64 y0, Value.int IntKind.i64 y1, Value.int IntKind.i64 y0, Value.int IntKind.i64 y1, Value.int IntKind.i64 y0, Value.int IntKind.i64 y1] 25)) w1.heap.size (six x0 x1 x2 x3 x4 x5) (six y0 y1 y0 y1 y0 y1)) := by (constructor; (intro j hj; (rcases (by omega : j = 0 ∨ j = 1 ∨ j = 2 ∨ j = 3 ∨ j = 4 ∨ j = 5) with rfl | rfl | rfl | rfl | rfl | rfl <;> simp [six])); (intro j hj; (rcases (by omega : j = 0 ∨ j = 1 ∨ j = 2 ∨ j = 3 ∨ j = 4 ∨ j = 5) with rfl | rfl | rfl | rfl | rfl | rfl <;> simp [six])))); (have hBa : Below w.heap.size w1 (w1.alloc (Obj.cells #[Value.int IntKind.i64 x0, Value.int IntKind.i64 x1, Value.int IntKind.i64 x2, Value.int IntKind.i64 x3, Value.int IntKind.i64 x4, Value.int IntKind.i64 x5, Value.int IntKind.i64 y0, Value.int IntKind.i64 y1, Value.int IntKind.i64 y0, Value.int IntKind.i64 y1, Value.int IntKind.i64 y0, Value.int IntKind.i64 y1] 25)) := (Below.refl _ _).alloc (by omega) _); refine (c_all2 _ _ x0 x1 x2 x3 x4 x5 y0 y1 y0 y1 y0 y1 (w1.alloc (Obj.cells #[Value.int IntKind.i64 x0, Value.int IntKind.i64 x1, Value.int IntKind.i64 x2, Value.int IntKind.i64 x3, Value.int IntKind.i64 x4, Value.int IntKind.i64 x5, Value.int IntKind.i64 y0, Value.int IntKind.i64 y1, Value.int IntKind.i64 y0, Value.int IntKind.i64 y1, Value.int IntKind.i64 y0, Value.int IntKind.i64 y1] 25)) (by simp) hT).mono ?_; rintro e w2 ⟨rfl, hb2, hz2, hcP, hfP⟩; (simp only [World.size_alloc] at hz2 hcP hfP); rw [← HE0.out] at hcP; (have hs2 := hb2.size); (simp only [World.size_alloc] at hs2); clear hT; (replace a0 := kp1 hb2 (by omega) a0); (replace a1 := kp1 hb2 (by omega) a1); (replace a2 := kp1 hb2 (by omega) a2); (replace a3 := kp1 hb2 (by omega) a3); (replace a4 := kp1 hb2 (by omega) a4); (replace a5 := kp1 hb2 (by omega) a5); (replace b0 := kp1 hb2 (by omega) b0); (replace b1 := kp1 hb2 (by omega) b1); (replace z0 := kp1 hb2 (by omega) z0); (replace z1 := kp1 hb2 (by omega) z1); (replace z2 := kp1 hb2 (by omega) z2); (replace z3 := kp1 hb2 (by omega) z3); (replace z4 := kp1 hb2 (by omega) z4); (replace z5 := kp1 hb2 (by omega) z5); (replace s0 := kf1 hb2 (by omega) s0); (replace s1 := kf1 hb2 (by omega) s1); (replace s2 := kf1 hb2 (by omega) s2); (replace s3 := kf1 hb2 (by omega) s3); (replace s4 := kf1 hb2 (by omega) s4); (replace s5 := kf1 hb2 (by omega) s5)) | (go_at_call 69; refine (c_alike y0 y1 W.drew).mono ?_; rintro e w1 ⟨rfl, hb1⟩; (replace hb1 : Below W.heap.size W w1 := Below.undrew hb1); (have hs1 := hb1.size); (replace a0 := kp hb1 (by omega) a0); (replace a1 := kp hb1 (by omega) a1); (replace a2 := kp hb1 (by omega) a2); (replace a3 := kp hb1 (by omega) a3); (replace a4 := kp hb1 (by omega) a4); (replace a5 := kp hb1 (by omega) a5); (replace b0 := kp hb1 (by omega) b0); (replace b1 := kp hb1 (by omega) b1); (replace z0 := kp hb1 (by omega) z0); (replace z1 := kp hb1 (by omega) z1); (replace z2 := kp hb1 (by omega) z2); (replace z3 := kp hb1 (by omega) z3); (replace z4 := kp hb1 (by omega) z4); (replace z5 := kp hb1 (by omega) z5); (replace s0 := kf hb1 (by omega) s0); (replace s1 := kf hb1 (by omega) s1); (replace s2 := kf hb1 (by omega) s2); (replace s3 := kf hb1 (by omega) s3); (replace s4 := kf hb1 (by omega) s4); (replace s5 := kf hb1 (by omega) s5)))
  go_wp2_with (fail)
  refine wp_region_held_drew (S := (fun w' => w'.cell? ⟨w.heap.size, 0, none⟩ = some (.int .i64 x0) ∧ w'.cell? ⟨w.heap.size, 1, none⟩ = some (.int .i64 x1) ∧ w'.cell? ⟨w.heap.size, 2, none⟩ = some (.int .i64 x2) ∧ w'.cell? ⟨w.heap.size, 3, none⟩ = some (.int .i64 x3) ∧ w'.cell? ⟨w.heap.size, 4, none⟩ = some (.int .i64 x4) ∧ w'.cell? ⟨w.heap.size, 5, none⟩ = some (.int .i64 x5) ∧ w'.cell? ⟨w.heap.size + 1, 0, none⟩ = some (.int .i64 y0) ∧ w'.cell? ⟨w.heap.size + 1, 1, none⟩ = some (.int .i64 y1))) (by kernel_rfl) ?_ (fun hHeld => ?_)
  · (try dsimp only); with_reducible exact ⟨cell_drew a0, cell_drew a1, cell_drew a2, cell_drew a3, cell_drew a4, cell_drew a5, cell_drew b0, cell_drew b1⟩
  refine wpAnyH_take (i := 0) (oi := _) (v := ?_) rfl (by kernel_rfl) (by kernel_rfl) (by kernel_rfl) (fun _ _ _ h => h) (Or.inl ⟨by rfl, ?_⟩) (by assumption) ?_
  rotate_left
  · intro w hSw; (try dsimp only at hSw); go_simp; (first | done | with_reducible rfl)
  (try simp only [List.getElem_toArray, List.getElem_cons_succ, List.getElem_cons_zero, Act.put, List.setIfInBounds_toArray, List.set_cons_zero, List.set_cons_succ])
  refine wpAnyH_take (i := 1) (oi := _) (v := ?_) rfl (by kernel_rfl) (by kernel_rfl) (by kernel_rfl) (fun _ _ _ h => h) (Or.inl ⟨by rfl, ?_⟩) (by assumption) ?_
  rotate_left
  · intro w hSw; (try dsimp only at hSw); go_simp; (first | done | with_reducible rfl)
  (try simp only [List.getElem_toArray, List.getElem_cons_succ, List.getElem_cons_zero, Act.put, List.setIfInBounds_toArray, List.set_cons_zero, List.set_cons_succ])
  refine wpAnyH_take (i := 2) (oi := _) (v := ?_) rfl (by kernel_rfl) (by kernel_rfl) (by kernel_rfl) (fun _ _ _ h => h) (Or.inl ⟨by rfl, ?_⟩) (by assumption) ?_
  rotate_left
  · intro w hSw; (try dsimp only at hSw); go_simp; (first | done | with_reducible rfl)
  (try simp only [List.getElem_toArray, List.getElem_cons_succ, List.getElem_cons_zero, Act.put, List.setIfInBounds_toArray, List.set_cons_zero, List.set_cons_succ])
  refine wpAnyH_take (i := 4) (oi := _) (v := ?_) rfl (by kernel_rfl) (by kernel_rfl) (by kernel_rfl) (fun _ _ _ h => h) (Or.inl ⟨by rfl, ?_⟩) (by assumption) ?_
  rotate_left
  · intro w hSw; (try dsimp only at hSw); go_simp; (first | done | with_reducible rfl)
  (try simp only [List.getElem_toArray, List.getElem_cons_succ, List.getElem_cons_zero, Act.put, List.setIfInBounds_toArray, List.set_cons_zero, List.set_cons_succ])
  refine wpAnyH_take (i := 5) (oi := _) (v := ?_) rfl (by kernel_rfl) (by kernel_rfl) (by kernel_rfl) (fun _ _ _ h => h) (Or.inl ⟨by rfl, ?_⟩) (by assumption) ?_
  rotate_left
  · intro w hSw; (try dsimp only at hSw); go_simp; (first | done | with_reducible rfl)
  (try simp only [List.getElem_toArray, List.getElem_cons_succ, List.getElem_cons_zero, Act.put, List.setIfInBounds_toArray, List.set_cons_zero, List.set_cons_succ])
  refine wpAnyH_ready (rs := [3]) (by kernel_rfl) (by simp) ?_
  refine AllReadyH.cons (o := _) rfl (fun K hK => ?_) AllReadyH.nil
  go_simp
  (go_at_call 69; refine (c_alike y0 y1 w2.drew).mono ?_; rintro e w3 ⟨rfl, hb3⟩; (replace hb3 : Below w2.heap.size w2 w3 := Below.undrew hb3); (have hs3 := hb3.size); (replace hcP : w3.cell? ⟨(w1.heap.size + 1), 0, none⟩ = some (.int .i64 (e0)) := ((bcell hb3).1 _ _ (by omega)).trans hcP); (replace hfP : w3.frozen? ⟨(w1.heap.size + 1), 0, none⟩ = false := ((bcell hb3).2 _ _ (by omega)).trans hfP); (replace a0 := kp hb3 (by omega) a0); (replace a1 := kp hb3 (by omega) a1); (replace a2 := kp hb3 (by omega) a2); (replace a3 := kp hb3 (by omega) a3); (replace a4 := kp hb3 (by omega) a4); (replace a5 := kp hb3 (by omega) a5); (replace b0 := kp hb3 (by omega) b0); (replace b1 := kp hb3 (by omega) b1); (replace z0 := kp hb3 (by omega) z0); (replace z1 := kp hb3 (by omega) z1); (replace z2 := kp hb3 (by omega) z2); (replace z3 := kp hb3 (by omega) z3); (replace z4 := kp hb3 (by omega) z4); (replace z5 := kp hb3 (by omega) z5); (replace s0 := kf hb3 (by omega) s0); (replace s1 := kf hb3 (by omega) s1); (replace s2 := kf hb3 (by omega) s2); (replace s3 := kf hb3 (by omega) s3); (replace s4 := kf hb3 (by omega) s4); (replace s5 := kf hb3 (by omega) s5))
  (try go_wp2_with (fail))
  refine hK.out _ _ ?_ (fun hHeld => ?_)
  · (try dsimp only); with_reducible exact ⟨a0, a1, a2, a3, a4, a5, b0, b1⟩
  clear hK K
  (try simp only [List.getElem_toArray, List.getElem_cons_succ, List.getElem_cons_zero, Act.put, List.setIfInBounds_toArray, List.set_cons_zero, List.set_cons_succ])
  refine wpAnyH_ready (rs := [6]) (by kernel_rfl) (by simp) ?_
  refine AllReadyH.cons (o := _) rfl (fun K hK => ?_) AllReadyH.nil
  go_simp
  (go_at_call 64; refine (c_each_mul (w1.heap.size + 1) x0 x1 x2 x3 x4 x5 y0 y1 y0 y1 y0 y1 e0 w3 (show (w1.heap.size + 1) < w3.heap.size by omega) hcP hfP).mono ?_; rw [← HRA.out, ← HRB.out, ← HRC.out, ← HEK.out]; rintro e w4 ⟨rfl, ho4, hcN, hfN⟩; (replace hcP := hcN); (replace hfP := hfN); (have hs4 := ho4.size); (have HB4 : Below w.heap.size w3 w4 := ho4.toBelow (by omega) (by omega)); (replace a0 := ko ho4 (by omega) (by omega) a0); (replace a1 := ko ho4 (by omega) (by omega) a1); (replace a2 := ko ho4 (by omega) (by omega) a2); (replace a3 := ko ho4 (by omega) (by omega) a3); (replace a4 := ko ho4 (by omega) (by omega) a4); (replace a5 := ko ho4 (by omega) (by omega) a5); (replace b0 := ko ho4 (by omega) (by omega) b0); (replace b1 := ko ho4 (by omega) (by omega) b1); (replace z0 := ko ho4 (by omega) (by omega) z0); (replace z1 := ko ho4 (by omega) (by omega) z1); (replace z2 := ko ho4 (by omega) (by omega) z2); (replace z3 := ko ho4 (by omega) (by omega) z3); (replace z4 := ko ho4 (by omega) (by omega) z4); (replace z5 := ko ho4 (by omega) (by omega) z5); (replace s0 := kof ho4 (by omega) (by omega) s0); (replace s1 := kof ho4 (by omega) (by omega) s1); (replace s2 := kof ho4 (by omega) (by omega) s2); (replace s3 := kof ho4 (by omega) (by omega) s3); (replace s4 := kof ho4 (by omega) (by omega) s4); (replace s5 := kof ho4 (by omega) (by omega) s5))
  (try go_wp2_with (fail))
  refine hK.out _ _ ?_ (fun hHeld => ?_)
  · (try dsimp only); with_reducible exact ⟨a0, a1, a2, a3, a4, a5, b0, b1⟩
  clear hK K
  (try simp only [List.getElem_toArray, List.getElem_cons_succ, List.getElem_cons_zero, Act.put, List.setIfInBounds_toArray, List.set_cons_zero, List.set_cons_succ])
  refine wpAnyH_ready (rs := [7]) (by kernel_rfl) (by simp) ?_
  refine AllReadyH.cons (o := _) rfl (fun K hK => ?_) AllReadyH.nil
  go_simp
  (go_at_call 63; refine (c_toldV (w1.heap.size + 1) ra rb rc ek w4 (show (w1.heap.size + 1) < w4.heap.size by omega) hcP).mono ?_; rw [HN.out]; rintro e w5 ⟨rfl, hb5⟩; (have hs5 := hb5.size); (replace hcP : w5.cell? ⟨(w1.heap.size + 1), 0, none⟩ = some (.int .i64 (ek)) := ((bcell hb5).1 _ _ (by omega)).trans hcP); (replace hfP : w5.frozen? ⟨(w1.heap.size + 1), 0, none⟩ = false := ((bcell hb5).2 _ _ (by omega)).trans hfP); (replace a0 := kp hb5 (by omega) a0); (replace a1 := kp hb5 (by omega) a1); (replace a2 := kp hb5 (by omega) a2); (replace a3 := kp hb5 (by omega) a3); (replace a4 := kp hb5 (by omega) a4); (replace a5 := kp hb5 (by omega) a5); (replace b0 := kp hb5 (by omega) b0); (replace b1 := kp hb5 (by omega) b1); (replace z0 := kp hb5 (by omega) z0); (replace z1 := kp hb5 (by omega) z1); (replace z2 := kp hb5 (by omega) z2); (replace z3 := kp hb5 (by omega) z3); (replace z4 := kp hb5 (by omega) z4); (replace z5 := kp hb5 (by omega) z5); (replace s0 := kf hb5 (by omega) s0); (replace s1 := kf hb5 (by omega) s1); (replace s2 := kf hb5 (by omega) s2); (replace s3 := kf hb5 (by omega) s3); (replace s4 := kf hb5 (by omega) s4); (replace s5 := kf hb5 (by omega) s5))
  (try go_wp2_with (fail))
  refine hK.out _ _ ?_ (fun hHeld => ?_)
  · (try dsimp only); with_reducible exact ⟨a0, a1, a2, a3, a4, a5, b0, b1⟩
  clear hK K
  (try simp only [List.getElem_toArray, List.getElem_cons_succ, List.getElem_cons_zero, Act.put, List.setIfInBounds_toArray, List.set_cons_zero, List.set_cons_succ])
  refine wpAnyH_take (i := 8) (oi := _) (v := ?_) rfl (by kernel_rfl) (by kernel_rfl) (by kernel_rfl) (fun _ _ _ h => h) (Or.inl ⟨by rfl, ?_⟩) (by assumption) ?_
  rotate_left
  · intro w hSw; (try dsimp only at hSw); go_simp; (first | done | with_reducible rfl)
  (try simp only [List.getElem_toArray, List.getElem_cons_succ, List.getElem_cons_zero, Act.put, List.setIfInBounds_toArray, List.set_cons_zero, List.set_cons_succ])
  refine wpAnyH_take (i := 9) (oi := _) (v := ?_) rfl (by kernel_rfl) (by kernel_rfl) (by kernel_rfl) (fun _ _ _ h => h) (Or.inl ⟨by rfl, ?_⟩) (by assumption) ?_
  rotate_left
  · intro w hSw; (try dsimp only at hSw); go_simp; (first | done | with_reducible rfl)
  (try simp only [List.getElem_toArray, List.getElem_cons_succ, List.getElem_cons_zero, Act.put, List.setIfInBounds_toArray, List.set_cons_zero, List.set_cons_succ])
  refine wpAnyH_ready (rs := [10]) (by kernel_rfl) (by simp) ?_
  refine AllReadyH.cons (o := _) rfl (fun K hK => ?_) AllReadyH.nil
  go_simp
  refine hK.out _ _ ?_ (fun hHeld => ?_)
  · (try dsimp only); ((with_reducible refine ⟨kfar ?_ (kfar ?_ (kfar ?_ (kfar ?_ (kfar ?_ (kfar ?_ a0))))), kfar ?_ (kfar ?_ (kfar ?_ (kfar ?_ (kfar ?_ (kfar ?_ a1))))), kfar ?_ (kfar ?_ (kfar ?_ (kfar ?_ (kfar ?_ (kfar ?_ a2))))), kfar ?_ (kfar ?_ (kfar ?_ (kfar ?_ (kfar ?_ (kfar ?_ a3))))), kfar ?_ (kfar ?_ (kfar ?_ (kfar ?_ (kfar ?_ (kfar ?_ a4))))), kfar ?_ (kfar ?_ (kfar ?_ (kfar ?_ (kfar ?_ (kfar ?_ a5))))), kfar ?_ (kfar ?_ (kfar ?_ (kfar ?_ (kfar ?_ (kfar ?_ b0))))), kfar ?_ (kfar ?_ (kfar ?_ (kfar ?_ (kfar ?_ (kfar ?_ b1)))))⟩) <;> (first | omega | (simp only; omega)))
  clear hK K
  (try simp only [List.getElem_toArray, List.getElem_cons_succ, List.getElem_cons_zero, Act.put, List.setIfInBounds_toArray, List.set_cons_zero, List.set_cons_succ])
  refine wpAnyH_take (i := 11) (oi := _) (v := ?_) rfl (by kernel_rfl) (by kernel_rfl) (by kernel_rfl) (fun _ _ _ h => h) (Or.inl ⟨by rfl, ?_⟩) (by assumption) ?_
  rotate_left
  · intro w hSw; (try dsimp only at hSw); go_simp; (first | done | with_reducible rfl)
  (try simp only [List.getElem_toArray, List.getElem_cons_succ, List.getElem_cons_zero, Act.put, List.setIfInBounds_toArray, List.set_cons_zero, List.set_cons_succ])
  refine wpAnyH_done (by kernel_rfl) ?_ _
  go_wp2_with (fail)
  have HB := hB.out
  obtain ⟨F, hF⟩ : ∃ F, F = ((((((w5.setCell ⟨w.heap.size + 1 + 1, 0, none⟩ (Value.int IntKind.i64 n0)).setCell ⟨w.heap.size + 1 + 1, 1, none⟩ (Value.int IntKind.i64 n1)).setCell ⟨w.heap.size + 1 + 1, 2, none⟩ (Value.int IntKind.i64 n2)).setCell ⟨w.heap.size + 1 + 1, 3, none⟩ (Value.int IntKind.i64 n3)).setCell ⟨w.heap.size + 1 + 1, 4, none⟩ (Value.int IntKind.i64 n4)).setCell ⟨w.heap.size + 1 + 1, 5, none⟩ (Value.int IntKind.i64 n5)) := ⟨_, rfl⟩
  have g := st6 w5 (w.heap.size + 1 + 1) (n0) (n1) (n2) (n3) (n4) (n5) z0 z1 z2 z3 z4 z5
  rw [← hF] at g
  have g0 : F.cell? ⟨w.heap.size + 1 + 1, 0, none⟩ = some (.int .i64 (n0)) := g 0 (by decide)
  have g1 : F.cell? ⟨w.heap.size + 1 + 1, 1, none⟩ = some (.int .i64 (n1)) := g 1 (by decide)
  have g2 : F.cell? ⟨w.heap.size + 1 + 1, 2, none⟩ = some (.int .i64 (n2)) := g 2 (by decide)
  have g3 : F.cell? ⟨w.heap.size + 1 + 1, 3, none⟩ = some (.int .i64 (n3)) := g 3 (by decide)
  have g4 : F.cell? ⟨w.heap.size + 1 + 1, 4, none⟩ = some (.int .i64 (n4)) := g 4 (by decide)
  have g5 : F.cell? ⟨w.heap.size + 1 + 1, 5, none⟩ = some (.int .i64 (n5)) := g 5 (by decide)
  clear g
  have hFB : Hid (Below w.heap.size w F) := by rw [hF]; unfold Hid; (repeat' (first | (with_reducible exact Below.refl _ _) | (with_reducible refine Below.setCell ?_ ?_ _) | (with_reducible refine Below.alloc ?_ ?_ _) | (with_reducible refine Below.drew ?_) | (with_reducible refine below_drewN ?_ _) | (with_reducible assumption) | (with_reducible refine Below.trans ?_ (Below.mono (by with_reducible assumption) ?_)) | omega | (simp; done) | (simp; omega) | (simp [World.setCell]; omega)))
  rw [← hF]
  clear hF
  refine bodyPost_ret (v := .tuple #[.agg #[.int .i64 n0, .int .i64 n1, .int .i64 n2, .int .i64 n3, .int .i64 n4, .int .i64 n5], .int .i64 ek]) (by simp [results, Try.results36, go_sem, g0, g1, g2, g3, g4, g5]) rfl ⟨rfl, hFB.out⟩


end Go.Proofs.Ytpdaigenffecmaa

namespace Go.Proofs.Ytpdaigenffecmaa

abbrev UU : Int := 4294967296

/-! ### Corners -/
theorem lin_le {c M b1 b2 Y : Int} (h1 : b1 ≤ Y) (h2 : Y ≤ b2) (m1 : M ≤ c * b1) (m2 : M ≤ c * b2) : M ≤ c * Y := by
  rcases Int.le_total 0 c with h | h
  · exact Int.le_trans m1 (Int.mul_le_mul_of_nonneg_left h1 h)
  · exact Int.le_trans m2 (Int.mul_le_mul_of_nonpos_left h h2)
theorem lin_ge {c M b1 b2 Y : Int} (h1 : b1 ≤ Y) (h2 : Y ≤ b2) (m1 : c * b1 ≤ M) (m2 : c * b2 ≤ M) : c * Y ≤ M := by
  rcases Int.le_total 0 c with h | h
  · exact Int.le_trans (Int.mul_le_mul_of_nonneg_left h2 h) m2
  · exact Int.le_trans (Int.mul_le_mul_of_nonpos_left h h1) m1
theorem corner_le {M a1 a2 x b1 b2 Y : Int} (h1 : a1 ≤ x) (h2 : x ≤ a2) (k1 : b1 ≤ Y) (k2 : Y ≤ b2) (m1 : M ≤ a1 * b1) (m2 : M ≤ a1 * b2) (m3 : M ≤ a2 * b1) (m4 : M ≤ a2 * b2) : M ≤ x * Y := by
  have e1 := lin_le k1 k2 m1 m2
  have e2 := lin_le k1 k2 m3 m4
  rw [Int.mul_comm] at e1 e2 ⊢
  exact lin_le h1 h2 e1 e2
theorem corner_ge {M a1 a2 x b1 b2 Y : Int} (h1 : a1 ≤ x) (h2 : x ≤ a2) (k1 : b1 ≤ Y) (k2 : Y ≤ b2) (m1 : a1 * b1 ≤ M) (m2 : a1 * b2 ≤ M) (m3 : a2 * b1 ≤ M) (m4 : a2 * b2 ≤ M) : x * Y ≤ M := by
  have e1 := lin_ge k1 k2 m1 m2
  have e2 := lin_ge k1 k2 m3 m4
  rw [Int.mul_comm] at e1 e2 ⊢
  exact lin_ge h1 h2 e1 e2

/-! ### Rounding -/
theorem rnd_lo (n d : Int) (hd : 0 < d) : rnd n d false * d ≤ n := by
  unfold rnd; simp only [Bool.false_eq_true, if_false]
  have := Int.ediv_mul_le n (show d ≠ 0 by omega)
  exact this
theorem rnd_hi (n d : Int) (hd : 0 < d) : n ≤ rnd n d true * d := by
  unfold rnd; simp only [if_true]
  have := Int.ediv_mul_le (-n) (show d ≠ 0 by omega)
  rw [Int.neg_mul]; omega
theorem le_rnd_lo {n d v : Int} (hd : 0 < d) (h : v * d ≤ n) : v ≤ rnd n d false := by
  unfold rnd; simp only [Bool.false_eq_true, if_false]
  exact (Int.le_ediv_iff_mul_le hd).2 h
theorem rnd_hi_le {n d v : Int} (hd : 0 < d) (h : n ≤ v * d) : rnd n d true ≤ v := by
  unfold rnd; simp only [if_true]
  have : -v ≤ (-n) / d := (Int.le_ediv_iff_mul_le hd).2 (by rw [Int.neg_mul]; omega)
  omega
theorem rnd_le_rnd (n d : Int) (hd : 0 < d) : rnd n d false ≤ rnd n d true := by
  have h1 := rnd_lo n d hd
  have h2 := rnd_hi n d hd
  rcases Int.lt_or_le (rnd n d true) (rnd n d false) with h | h
  · have := Int.mul_lt_mul_of_pos_right h hd
    omega
  · exact h
theorem fit_told {r : Int} (h : (fit r).2 = 0) : (fit r).1 = r ∧ -4503599627370496 ≤ r ∧ r ≤ 4503599627370496 := by
  unfold fit at *
  split at h
  · simp at h
  · exact ⟨by rw [if_neg (by assumption)], by omega, by omega⟩
theorem fit_mk {r : Int} (h1 : -4503599627370496 ≤ r) (h2 : r ≤ 4503599627370496) : fit r = (r, 0) := by
  unfold fit; rw [if_neg (by omega)]

/-! ### The four corners of an operation that rounds n x y by d x y -/
theorem told_ok {lo hi : Int} (h : (spTold lo hi).2.2 = 0) : spTold lo hi = (lo, hi, 0) ∧ -4503599627370496 ≤ lo ∧ hi ≤ 4503599627370496 := by
  unfold spTold at *
  split at h
  · simp at h
  · exact ⟨by rw [if_neg (by assumption)], by omega, by omega⟩
theorem told_mk {lo hi : Int} (h1 : -4503599627370496 ≤ lo) (h2 : hi ≤ 4503599627370496) : spTold lo hi = (lo, hi, 0) := by
  unfold spTold; rw [if_neg (by omega)]
/-- What it says that a result's four corners are met. -/
theorem four_ok {f : Int → Int → Bool → Int × Int} {n d : Int → Int → Int} {a b : Int × Int}
    (hf : ∀ x y up, (x = a.1 ∨ x = a.2) → (y = b.1 ∨ y = b.2) → f x y up = fit (rnd (n x y) (d x y) up)) (h : (spFour f a b).2.2 = 0) :
    (spFour f a b).2.1 ≤ 4503599627370496 ∧ -4503599627370496 ≤ (spFour f a b).1 ∧
    ∀ x y, (x = a.1 ∨ x = a.2) → (y = b.1 ∨ y = b.2) → (spFour f a b).1 ≤ rnd (n x y) (d x y) false ∧ rnd (n x y) (d x y) true ≤ (spFour f a b).2.1 := by
  unfold spFour at *
  split at h
  · simp at h
  · rename_i hc
    obtain ⟨ht, hl, hu⟩ := told_ok h
    rw [if_neg hc, ht]
    simp only [not_or, Decidable.not_not] at hc
    obtain ⟨c1, c2, c3, c4, c5, c6, c7, c8⟩ := hc
    refine ⟨hu, hl, ?_⟩
    have L : ∀ x y up, (x = a.1 ∨ x = a.2) → (y = b.1 ∨ y = b.2) → (f x y up).2 = 0 → (f x y up).1 = rnd (n x y) (d x y) up := by
      intro x y up hx hy h0
      rw [hf x y up hx hy] at *
      exact (fit_told h0).1
    intro x y hx hy
    simp only
    rcases hx with rfl | rfl <;> rcases hy with rfl | rfl
    · rw [← L a.1 b.1 false (.inl rfl) (.inl rfl) c1, ← L a.1 b.1 true (.inl rfl) (.inl rfl) c2]; omega
    · rw [← L a.1 b.2 false (.inl rfl) (.inr rfl) c3, ← L a.1 b.2 true (.inl rfl) (.inr rfl) c4]; omega
    · rw [← L a.2 b.1 false (.inr rfl) (.inl rfl) c5, ← L a.2 b.1 true (.inr rfl) (.inl rfl) c6]; omega
    · rw [← L a.2 b.2 false (.inr rfl) (.inr rfl) c7, ← L a.2 b.2 true (.inr rfl) (.inr rfl) c8]; omega
/-- Corners that lie between l and u. -/
theorem four_mk {f : Int → Int → Bool → Int × Int} {n d : Int → Int → Int} {a b : Int × Int} {l u : Int}
    (hf : ∀ x y up, (x = a.1 ∨ x = a.2) → (y = b.1 ∨ y = b.2) → f x y up = fit (rnd (n x y) (d x y) up)) (hd : ∀ x y, (x = a.1 ∨ x = a.2) → (y = b.1 ∨ y = b.2) → 0 < d x y)
    (hl : -4503599627370496 ≤ l) (hu : u ≤ 4503599627370496)
    (h : ∀ x y, (x = a.1 ∨ x = a.2) → (y = b.1 ∨ y = b.2) → l ≤ rnd (n x y) (d x y) false ∧ rnd (n x y) (d x y) true ≤ u) :
    (spFour f a b).2.2 = 0 ∧ l ≤ (spFour f a b).1 ∧ (spFour f a b).2.1 ≤ u ∧ (spFour f a b).1 ≤ (spFour f a b).2.1 := by
  have L : ∀ x y, (x = a.1 ∨ x = a.2) → (y = b.1 ∨ y = b.2) → f x y false = (rnd (n x y) (d x y) false, 0) ∧ f x y true = (rnd (n x y) (d x y) true, 0) := by
    intro x y hx hy
    obtain ⟨h1, h2⟩ := h x y hx hy
    have h3 := rnd_le_rnd (n x y) (d x y) (hd x y hx hy)
    rw [hf x y false hx hy, hf x y true hx hy, fit_mk (by omega) (by omega), fit_mk (by omega) (by omega)]
    exact ⟨rfl, rfl⟩
  have h1 := h a.1 b.1 (.inl rfl) (.inl rfl)
  have h2 := h a.1 b.2 (.inl rfl) (.inr rfl)
  have h3 := h a.2 b.1 (.inr rfl) (.inl rfl)
  have h4 := h a.2 b.2 (.inr rfl) (.inr rfl)
  have g1 := rnd_le_rnd (n a.1 b.1) (d a.1 b.1) (hd _ _ (.inl rfl) (.inl rfl))
  unfold spFour
  obtain ⟨p1, p2⟩ := L a.1 b.1 (.inl rfl) (.inl rfl)
  obtain ⟨p3, p4⟩ := L a.1 b.2 (.inl rfl) (.inr rfl)
  obtain ⟨p5, p6⟩ := L a.2 b.1 (.inr rfl) (.inl rfl)
  obtain ⟨p7, p8⟩ := L a.2 b.2 (.inr rfl) (.inr rfl)
  rw [p1, p2, p3, p4, p5, p6, p7, p8]
  simp only
  rw [if_neg (by simp), told_mk (by omega) (by omega)]
  exact ⟨rfl, by simp only; omega, by simp only; omega, by simp only; omega⟩

/-- An interval within another one. -/
def Wi (c a : Int × Int) : Prop := a.1 ≤ c.1 ∧ c.2 ≤ a.2
theorem fxMul_rnd {a b : Int × Int} (ha : spChk a = 0) (hb : spChk b = 0) : ∀ x y up, (x = a.1 ∨ x = a.2) → (y = b.1 ∨ y = b.2) → fxMul x y up = fit (rnd (x * y) UU up) := by
  intro x y up hx hy
  obtain ⟨h1, h2, h3⟩ := spChk_ok ha
  obtain ⟨k1, k2, k3⟩ := spChk_ok hb
  unfold fxMul
  rw [if_pos]
  unfold fxAll
  rw [if_pos (fxChk_mk (by omega) (by omega))]
  exact fxChk_mk (by omega) (by omega)
/-- The product contains the products: y is a fraction with the denominator K. -/
theorem spMul_has {a b : Int × Int} {x Y K : Int} (ha : spChk a = 0) (hb : spChk b = 0) (h : (spMul a b).2.2 = 0) (hK : 0 < K) (h1 : a.1 ≤ x) (h2 : x ≤ a.2) (k1 : b.1 * K ≤ Y) (k2 : Y ≤ b.2 * K) :
    (spMul a b).1 * UU * K ≤ x * Y ∧ x * Y ≤ (spMul a b).2.1 * UU * K := by
  have e : spMul a b = spFour fxMul a b := by unfold spMul spAll; rw [if_pos ha, if_pos hb]
  rw [e] at h ⊢
  obtain ⟨_, _, hc⟩ := four_ok (n := fun x y => x * y) (d := fun _ _ => UU) (fxMul_rnd ha hb) h
  have lo : ∀ p q, (p = a.1 ∨ p = a.2) → (q = b.1 ∨ q = b.2) → (spFour fxMul a b).1 * UU * K ≤ p * (q * K) := by
    intro p q hp hq
    have h1 := (hc p q hp hq).1
    have h2 := rnd_lo (p * q) UU (by decide)
    have h3 : (spFour fxMul a b).1 * UU ≤ p * q := Int.le_trans (Int.mul_le_mul_of_nonneg_right h1 (by decide)) h2
    have := Int.mul_le_mul_of_nonneg_right h3 (Int.le_of_lt hK)
    rwa [Int.mul_assoc p q K] at this
  have up : ∀ p q, (p = a.1 ∨ p = a.2) → (q = b.1 ∨ q = b.2) → p * (q * K) ≤ (spFour fxMul a b).2.1 * UU * K := by
    intro p q hp hq
    have h1 := (hc p q hp hq).2
    have h2 := rnd_hi (p * q) UU (by decide)
    have h3 : p * q ≤ (spFour fxMul a b).2.1 * UU := Int.le_trans h2 (Int.mul_le_mul_of_nonneg_right h1 (by decide))
    have := Int.mul_le_mul_of_nonneg_right h3 (Int.le_of_lt hK)
    rwa [Int.mul_assoc p q K] at this
  exact ⟨corner_le h1 h2 k1 k2 (lo _ _ (.inl rfl) (.inl rfl)) (lo _ _ (.inl rfl) (.inr rfl)) (lo _ _ (.inr rfl) (.inl rfl)) (lo _ _ (.inr rfl) (.inr rfl)),
    corner_ge h1 h2 k1 k2 (up _ _ (.inl rfl) (.inl rfl)) (up _ _ (.inl rfl) (.inr rfl)) (up _ _ (.inr rfl) (.inl rfl)) (up _ _ (.inr rfl) (.inr rfl))⟩
theorem spMul_in {a b : Int × Int} {x y : Int} (ha : spChk a = 0) (hb : spChk b = 0) (h : (spMul a b).2.2 = 0) (h1 : a.1 ≤ x) (h2 : x ≤ a.2) (k1 : b.1 ≤ y) (k2 : y ≤ b.2) :
    (spMul a b).1 * UU ≤ x * y ∧ x * y ≤ (spMul a b).2.1 * UU := by
  have := spMul_has (K := 1) ha hb h (by decide) h1 h2 (by omega) (by omega : y ≤ b.2 * 1)
  simpa using this
theorem spMul_narrow {a b c d : Int × Int} (ha : spChk a = 0) (hb : spChk b = 0) (hc : spChk c = 0) (hd : spChk d = 0) (hca : Wi c a) (hdb : Wi d b) (h : (spMul a b).2.2 = 0) :
    (spMul c d).2.2 = 0 ∧ (spMul a b).1 ≤ (spMul c d).1 ∧ (spMul c d).2.1 ≤ (spMul a b).2.1 := by
  have e : spMul c d = spFour fxMul c d := by unfold spMul spAll; rw [if_pos hc, if_pos hd]
  have e' : spMul a b = spFour fxMul a b := by unfold spMul spAll; rw [if_pos ha, if_pos hb]
  have h' := h
  rw [e'] at h'
  obtain ⟨hu, hl, _⟩ := four_ok (n := fun x y => x * y) (d := fun _ _ => UU) (fxMul_rnd ha hb) h'
  obtain ⟨c1, c2, c3⟩ := spChk_ok hc
  obtain ⟨d1, d2, d3⟩ := spChk_ok hd
  obtain ⟨w1, w2⟩ := hca
  obtain ⟨w3, w4⟩ := hdb
  have key := four_mk (f := fxMul) (a := c) (b := d) (n := fun x y => x * y) (d := fun _ _ => UU) (fxMul_rnd hc hd) (fun _ _ _ _ => by decide) hl hu (fun x y hx hy => by
    have := spMul_in (x := x) (y := y) ha hb h (by omega) (by omega) (by omega) (by omega)
    rw [e'] at this
    exact ⟨le_rnd_lo (by decide) this.1, rnd_hi_le (by decide) this.2⟩)
  rw [e, e']
  exact ⟨key.1, key.2.1, key.2.2.1⟩

/-! ### Sums -/
theorem spAdd_eq {a b : Int × Int} (ha : spChk a = 0) (hb : spChk b = 0) : spAdd a b = spTold (a.1 + b.1) (a.2 + b.2) := by unfold spAdd spAll; rw [if_pos ha, if_pos hb]
theorem spSub_eq {a b : Int × Int} (ha : spChk a = 0) (hb : spChk b = 0) : spSub a b = spTold (a.1 - b.2) (a.2 - b.1) := by unfold spSub spAll; rw [if_pos ha, if_pos hb]
theorem spAdd_narrow {a b c d : Int × Int} (ha : spChk a = 0) (hb : spChk b = 0) (hc : spChk c = 0) (hd : spChk d = 0) (hca : Wi c a) (hdb : Wi d b) (h : (spAdd a b).2.2 = 0) :
    (spAdd c d).2.2 = 0 ∧ (spAdd a b).1 ≤ (spAdd c d).1 ∧ (spAdd c d).2.1 ≤ (spAdd a b).2.1 := by
  rw [spAdd_eq ha hb] at *
  rw [spAdd_eq hc hd]
  obtain ⟨e, h1, h2⟩ := told_ok h
  obtain ⟨c1, c2, c3⟩ := spChk_ok hc
  obtain ⟨d1, d2, d3⟩ := spChk_ok hd
  obtain ⟨w1, w2⟩ := hca
  obtain ⟨w3, w4⟩ := hdb
  rw [e, told_mk (by omega) (by omega)]
  exact ⟨rfl, by simp only; omega, by simp only; omega⟩
theorem spSub_narrow {a b c d : Int × Int} (ha : spChk a = 0) (hb : spChk b = 0) (hc : spChk c = 0) (hd : spChk d = 0) (hca : Wi c a) (hdb : Wi d b) (h : (spSub a b).2.2 = 0) :
    (spSub c d).2.2 = 0 ∧ (spSub a b).1 ≤ (spSub c d).1 ∧ (spSub c d).2.1 ≤ (spSub a b).2.1 := by
  rw [spSub_eq ha hb] at *
  rw [spSub_eq hc hd]
  obtain ⟨e, h1, h2⟩ := told_ok h
  obtain ⟨c1, c2, c3⟩ := spChk_ok hc
  obtain ⟨d1, d2, d3⟩ := spChk_ok hd
  obtain ⟨w1, w2⟩ := hca
  obtain ⟨w3, w4⟩ := hdb
  rw [e, told_mk (by omega) (by omega)]
  exact ⟨rfl, by simp only; omega, by simp only; omega⟩

end Go.Proofs.Ytpdaigenffecmaa

namespace Go.Proofs.Ytpdaigenffecmaa

/-! ### Quotients -/
def dvn (x y : Int) : Int := if y < 0 then -(x * UU) else x * UU
def dvd (_ y : Int) : Int := (y.natAbs : Int)
theorem fxDiv_rnd {a b : Int × Int} (ha : spChk a = 0) (hb : spChk b = 0) (hz : ¬ (b.1 ≤ 0 ∧ 0 ≤ b.2)) : ∀ x y up, (x = a.1 ∨ x = a.2) → (y = b.1 ∨ y = b.2) → fxDiv x y up = fit (rnd (dvn x y) (dvd x y) up) := by
  intro x y up hx hy
  obtain ⟨h1, h2, h3⟩ := spChk_ok ha
  obtain ⟨k1, k2, k3⟩ := spChk_ok hb
  unfold fxDiv
  rw [if_pos, if_neg (by omega)]
  · rfl
  · unfold fxAll
    rw [if_pos (fxChk_mk (by omega) (by omega))]
    exact fxChk_mk (by omega) (by omega)
theorem spDiv_four {a b : Int × Int} (ha : spChk a = 0) (hb : spChk b = 0) (h : (spDiv a b).2.2 = 0) : ¬ (b.1 ≤ 0 ∧ 0 ≤ b.2) ∧ spDiv a b = spFour fxDiv a b := by
  unfold spDiv spAll at *
  rw [if_pos ha, if_pos hb] at *
  split at h
  · simp at h
  · rename_i hz; exact ⟨hz, if_neg hz⟩
/-- The quotient contains the quotients. -/
theorem spDiv_pos {a b : Int × Int} {x y : Int} (ha : spChk a = 0) (hb : spChk b = 0) (h : (spDiv a b).2.2 = 0) (hp : 0 < b.1) (h1 : a.1 ≤ x) (h2 : x ≤ a.2) (k1 : b.1 ≤ y) (k2 : y ≤ b.2) :
    (spDiv a b).1 * y ≤ x * UU ∧ x * UU ≤ (spDiv a b).2.1 * y := by
  obtain ⟨hz, e⟩ := spDiv_four ha hb h
  rw [e] at h ⊢
  obtain ⟨k3, k4, k5⟩ := spChk_ok hb
  obtain ⟨_, _, hc⟩ := four_ok (n := dvn) (d := dvd) (fxDiv_rnd ha hb hz) h
  have lo : ∀ p q, (p = a.1 ∨ p = a.2) → (q = b.1 ∨ q = b.2) → (spFour fxDiv a b).1 * q ≤ p * UU := by
    intro p q hp' hq
    have hq0 : 0 < q := by omega
    have e1 : dvn p q = p * UU := by unfold dvn; rw [if_neg (by omega)]
    have e2 : dvd p q = q := by unfold dvd; omega
    have h1 := (hc p q hp' hq).1
    rw [e1, e2] at h1
    exact Int.le_trans (Int.mul_le_mul_of_nonneg_right h1 (by omega)) (rnd_lo (p * UU) q hq0)
  have up : ∀ p q, (p = a.1 ∨ p = a.2) → (q = b.1 ∨ q = b.2) → p * UU ≤ (spFour fxDiv a b).2.1 * q := by
    intro p q hp' hq
    have hq0 : 0 < q := by omega
    have e1 : dvn p q = p * UU := by unfold dvn; rw [if_neg (by omega)]
    have e2 : dvd p q = q := by unfold dvd; omega
    have h1 := (hc p q hp' hq).2
    rw [e1, e2] at h1
    exact Int.le_trans (rnd_hi (p * UU) q hq0) (Int.mul_le_mul_of_nonneg_right h1 (by omega))
  have m1 := lin_ge k1 k2 (lo a.1 b.1 (.inl rfl) (.inl rfl)) (lo a.1 b.2 (.inl rfl) (.inr rfl))
  have m2 := lin_le k1 k2 (up a.2 b.1 (.inr rfl) (.inl rfl)) (up a.2 b.2 (.inr rfl) (.inr rfl))
  exact ⟨Int.le_trans m1 (Int.mul_le_mul_of_nonneg_right h1 (by decide)), Int.le_trans (Int.mul_le_mul_of_nonneg_right h2 (by decide)) m2⟩
theorem spDiv_neg {a b : Int × Int} {x y : Int} (ha : spChk a = 0) (hb : spChk b = 0) (h : (spDiv a b).2.2 = 0) (hp : b.2 < 0) (h1 : a.1 ≤ x) (h2 : x ≤ a.2) (k1 : b.1 ≤ y) (k2 : y ≤ b.2) :
    (spDiv a b).1 * (-y) ≤ -(x * UU) ∧ -(x * UU) ≤ (spDiv a b).2.1 * (-y) := by
  obtain ⟨hz, e⟩ := spDiv_four ha hb h
  rw [e] at h ⊢
  obtain ⟨k3, k4, k5⟩ := spChk_ok hb
  obtain ⟨_, _, hc⟩ := four_ok (n := dvn) (d := dvd) (fxDiv_rnd ha hb hz) h
  have lo : ∀ p q, (p = a.1 ∨ p = a.2) → (q = b.1 ∨ q = b.2) → (spFour fxDiv a b).1 * (-q) ≤ -(p * UU) := by
    intro p q hp' hq
    have hq0 : 0 < -q := by omega
    have e1 : dvn p q = -(p * UU) := by unfold dvn; rw [if_pos (by omega)]
    have e2 : dvd p q = -q := by unfold dvd; omega
    have h1 := (hc p q hp' hq).1
    rw [e1, e2] at h1
    exact Int.le_trans (Int.mul_le_mul_of_nonneg_right h1 (by omega)) (rnd_lo _ _ hq0)
  have up : ∀ p q, (p = a.1 ∨ p = a.2) → (q = b.1 ∨ q = b.2) → -(p * UU) ≤ (spFour fxDiv a b).2.1 * (-q) := by
    intro p q hp' hq
    have hq0 : 0 < -q := by omega
    have e1 : dvn p q = -(p * UU) := by unfold dvn; rw [if_pos (by omega)]
    have e2 : dvd p q = -q := by unfold dvd; omega
    have h1 := (hc p q hp' hq).2
    rw [e1, e2] at h1
    exact Int.le_trans (rnd_hi _ _ hq0) (Int.mul_le_mul_of_nonneg_right h1 (by omega))
  have m1 := lin_ge (show -b.2 ≤ -y by omega) (show -y ≤ -b.1 by omega) (lo a.2 b.2 (.inr rfl) (.inr rfl)) (lo a.2 b.1 (.inr rfl) (.inl rfl))
  have m2 := lin_le (show -b.2 ≤ -y by omega) (show -y ≤ -b.1 by omega) (up a.1 b.2 (.inl rfl) (.inr rfl)) (up a.1 b.1 (.inl rfl) (.inl rfl))
  have g1 := Int.mul_le_mul_of_nonneg_right h1 (show (0 : Int) ≤ UU by decide)
  have g2 := Int.mul_le_mul_of_nonneg_right h2 (show (0 : Int) ≤ UU by decide)
  exact ⟨Int.le_trans m1 (by omega), Int.le_trans (by omega) m2⟩
theorem spDiv_narrow {a b c d : Int × Int} (ha : spChk a = 0) (hb : spChk b = 0) (hc : spChk c = 0) (hd : spChk d = 0) (hca : Wi c a) (hdb : Wi d b) (h : (spDiv a b).2.2 = 0) :
    (spDiv c d).2.2 = 0 ∧ (spDiv a b).1 ≤ (spDiv c d).1 ∧ (spDiv c d).2.1 ≤ (spDiv a b).2.1 := by
  obtain ⟨hz, e'⟩ := spDiv_four ha hb h
  obtain ⟨c1, c2, c3⟩ := spChk_ok hc
  obtain ⟨d1, d2, d3⟩ := spChk_ok hd
  obtain ⟨b1, b2, b3⟩ := spChk_ok hb
  obtain ⟨w1, w2⟩ := hca
  obtain ⟨w3, w4⟩ := hdb
  have hz' : ¬ (d.1 ≤ 0 ∧ 0 ≤ d.2) := by omega
  have e : spDiv c d = spFour fxDiv c d := by unfold spDiv spAll; rw [if_pos hc, if_pos hd, if_neg hz']
  have h' := h
  rw [e'] at h'
  obtain ⟨hu, hl, _⟩ := four_ok (n := dvn) (d := dvd) (fxDiv_rnd ha hb hz) h'
  have key := four_mk (f := fxDiv) (a := c) (b := d) (n := dvn) (d := dvd) (fxDiv_rnd hc hd hz') (fun x y _ hy => by unfold dvd; omega) hl hu (fun x y hx hy => by
    rcases Int.lt_or_le 0 b.1 with hp | hp
    · have := spDiv_pos (x := x) (y := y) ha hb h hp (by omega) (by omega) (by omega) (by omega)
      rw [e'] at this
      have e1 : dvn x y = x * UU := by unfold dvn; rw [if_neg (by omega)]
      have e2 : dvd x y = y := by unfold dvd; omega
      rw [e1, e2]
      exact ⟨le_rnd_lo (by omega) this.1, rnd_hi_le (by omega) this.2⟩
    · have := spDiv_neg (x := x) (y := y) ha hb h (by omega) (by omega) (by omega) (by omega) (by omega)
      rw [e'] at this
      have e1 : dvn x y = -(x * UU) := by unfold dvn; rw [if_pos (by omega)]
      have e2 : dvd x y = -y := by unfold dvd; omega
      rw [e1, e2]
      exact ⟨le_rnd_lo (by omega) this.1, rnd_hi_le (by omega) this.2⟩)
  rw [e, e']
  exact ⟨key.1, key.2.1, key.2.2.1⟩

/-! ### Powers -/
theorem abs_narrow {a c : Int × Int} (ha : spChk a = 0) (hc : spChk c = 0) (h : Wi c a) : 0 ≤ abLo a ∧ abLo a ≤ abLo c ∧ abLo c ≤ abHi c ∧ abHi c ≤ abHi a ∧ abHi a ≤ 4503599627370496 := by
  obtain ⟨a1, a2, a3⟩ := spChk_ok ha
  obtain ⟨c1, c2, c3⟩ := spChk_ok hc
  obtain ⟨w1, w2⟩ := h
  unfold abLo abHi; omega
theorem pwS_nonneg (v : Int) (m : Nat) (h : 0 ≤ v) : pwS v (m + 1) = if 4503599627370496 < rpw v.natAbs m false then (0, 0, 6) else ((rpw v.natAbs m false : Int), (rpw v.natAbs m true : Int), 0) := by
  rw [pwS_rpw]
  have : ¬ (v < 0 ∧ (m + 1) % 2 = 1) := by omega
  simp only [if_neg this]
theorem spPowOf_told {p q : Int × Int × Int} (h : (spPowOf p q).2.2 = 0) : p.2.2 = 0 ∧ q.2.2 = 0 ∧ spPowOf p q = (p.1, q.2.1, 0) ∧ -4503599627370496 ≤ p.1 ∧ q.2.1 ≤ 4503599627370496 := by
  by_cases hb : p.2.2 ≠ 0 ∨ q.2.2 ≠ 0
  · rw [spPowOf_bad p q hb] at h; simp at h
  · have h1 : p.2.2 = 0 := Decidable.by_contra fun e => hb (.inl e)
    have h2 : q.2.2 = 0 := Decidable.by_contra fun e => hb (.inr e)
    rw [spPowOf_ok p q h1 h2] at h ⊢
    obtain ⟨e, l, u⟩ := told_ok h
    exact ⟨h1, h2, e, l, u⟩
theorem powE_narrow {L H L' H' : Int} (m : Nat) (h0 : 0 ≤ L) (h1 : L ≤ L') (h2 : L' ≤ H') (h3 : H' ≤ H) (h : (spPowOf (pwS L (m + 1)) (pwS H (m + 1))).2.2 = 0) :
    (spPowOf (pwS L' (m + 1)) (pwS H' (m + 1))).2.2 = 0 ∧ (spPowOf (pwS L (m + 1)) (pwS H (m + 1))).1 ≤ (spPowOf (pwS L' (m + 1)) (pwS H' (m + 1))).1 ∧
      (spPowOf (pwS L' (m + 1)) (pwS H' (m + 1))).2.1 ≤ (spPowOf (pwS L (m + 1)) (pwS H (m + 1))).2.1 := by
  obtain ⟨e1, e2, e3, l, u⟩ := spPowOf_told h
  rw [e3]
  have f1 := rpw_mono m false (show L.natAbs ≤ L'.natAbs by omega)
  have f2 := rpw_mono m false (show L'.natAbs ≤ H'.natAbs by omega)
  have f3 := rpw_mono m false (show H'.natAbs ≤ H.natAbs by omega)
  have f4 := rpw_mono m true (show H'.natAbs ≤ H.natAbs by omega)
  rw [pwS_nonneg L m h0] at e1 l ⊢
  rw [pwS_nonneg H m (by omega)] at e2 u ⊢
  rw [pwS_nonneg L' m (by omega), pwS_nonneg H' m (by omega)]
  split at e1
  · simp at e1
  split at e2
  · simp at e2
  rename_i n1 n2
  rw [if_neg n1, if_neg n2] at *
  rw [if_neg (show ¬ 4503599627370496 < rpw L'.natAbs m false by omega), if_neg (show ¬ 4503599627370496 < rpw H'.natAbs m false by omega)]
  simp only at u
  rw [spPowOf_ok _ _ rfl rfl, told_mk (by simp only; omega) (by simp only; omega)]
  exact ⟨rfl, by simp only; omega, by simp only; omega⟩
/-- The ends of an odd power grow. -/
theorem odd_mono {v u : Int} (m : Nat) (ho : (m + 1) % 2 = 1) (h : v ≤ u) (hv : (pwS v (m + 1)).2.2 = 0) (hu : (pwS u (m + 1)).2.2 = 0) :
    (pwS v (m + 1)).1 ≤ (pwS u (m + 1)).1 ∧ (pwS v (m + 1)).2.1 ≤ (pwS u (m + 1)).2.1 := by
  rw [pwS_rpw] at hv hu ⊢
  rw [pwS_rpw]
  split at hv
  · simp at hv
  split at hu
  · split at hv <;> simp at hu
  rename_i n1 n2
  rw [if_neg n1, if_neg n2]
  by_cases e1 : v < 0 <;> by_cases e2 : u < 0
  · have f1 := rpw_mono m false (show u.natAbs ≤ v.natAbs by omega)
    have f2 := rpw_mono m true (show u.natAbs ≤ v.natAbs by omega)
    rw [if_pos ⟨e1, ho⟩, if_pos ⟨e2, ho⟩]
    exact ⟨by simp only; omega, by simp only; omega⟩
  · rw [if_pos ⟨e1, ho⟩, if_neg (by omega)]
    exact ⟨by simp only; omega, by simp only; omega⟩
  · omega
  · have f1 := rpw_mono m false (show v.natAbs ≤ u.natAbs by omega)
    have f2 := rpw_mono m true (show v.natAbs ≤ u.natAbs by omega)
    rw [if_neg (by omega), if_neg (by omega)]
    exact ⟨by simp only; omega, by simp only; omega⟩
theorem pwS_fitsI (v : Int) (m : Nat) : (pwS v (m + 1)).2.2 = 0 ↔ rpw v.natAbs m false ≤ 4503599627370496 := by
  rw [pwS_rpw]
  split
  · simp; omega
  · split <;> simp <;> omega
theorem powO_narrow {L H L' H' : Int} (m : Nat) (ho : (m + 1) % 2 = 1) (h1 : L ≤ L') (h2 : L' ≤ H') (h3 : H' ≤ H) (h : (spPowOf (pwS L (m + 1)) (pwS H (m + 1))).2.2 = 0) :
    (spPowOf (pwS L' (m + 1)) (pwS H' (m + 1))).2.2 = 0 ∧ (spPowOf (pwS L (m + 1)) (pwS H (m + 1))).1 ≤ (spPowOf (pwS L' (m + 1)) (pwS H' (m + 1))).1 ∧
      (spPowOf (pwS L' (m + 1)) (pwS H' (m + 1))).2.1 ≤ (spPowOf (pwS L (m + 1)) (pwS H (m + 1))).2.1 := by
  obtain ⟨e1, e2, e3, l, u⟩ := spPowOf_told h
  have g1 := (pwS_fitsI L m).1 e1
  have g2 := (pwS_fitsI H m).1 e2
  have fit' : ∀ v, L ≤ v → v ≤ H → (pwS v (m + 1)).2.2 = 0 := by
    intro v hv1 hv2
    rw [pwS_fitsI]
    rcases Int.le_total 0 v with s | s
    · have := rpw_mono m false (show v.natAbs ≤ H.natAbs by omega); omega
    · have := rpw_mono m false (show v.natAbs ≤ L.natAbs by omega); omega
  have k1 := fit' L' h1 (by omega)
  have k2 := fit' H' (by omega) h3
  have m1 := (odd_mono m ho h1 e1 k1).1
  have m2 := (odd_mono m ho h3 k2 e2).2
  rw [e3, spPowOf_ok _ _ k1 k2, told_mk (by omega) (by omega)]
  exact ⟨rfl, m1, m2⟩
theorem spPow_narrow {a c : Int × Int} (n : Int) (ha : spChk a = 0) (hc : spChk c = 0) (hca : Wi c a) (h : (spPow a n).2.2 = 0) :
    (spPow c n).2.2 = 0 ∧ (spPow a n).1 ≤ (spPow c n).1 ∧ (spPow c n).2.1 ≤ (spPow a n).2.1 := by
  by_cases hn : n < 0 ∨ 16 < n
  · rw [spPow_arg a n ha hn] at h; simp at h
  by_cases h0 : n = 0
  · subst h0; rw [spPow_zero a ha, spPow_zero c hc]; exact ⟨rfl, Int.le_refl _, Int.le_refl _⟩
  obtain ⟨m, rfl⟩ : ∃ m : Nat, n = ((m + 1 : Nat) : Int) := ⟨n.toNat - 1, by omega⟩
  obtain ⟨c1, c2, c3⟩ := spChk_ok hc
  rcases Nat.mod_two_eq_zero_or_one (m + 1) with ho | ho
  · rw [spPow_even a (m + 1) ha (by omega) (by omega) ho] at h ⊢
    rw [spPow_even c (m + 1) hc (by omega) (by omega) ho]
    obtain ⟨k0, k1, k2, k3, _⟩ := abs_narrow ha hc hca
    exact powE_narrow m k0 k1 k2 k3 h
  · rw [spPow_odd a (m + 1) ha (by omega) ho] at h ⊢
    rw [spPow_odd c (m + 1) hc (by omega) ho]
    exact powO_narrow m ho hca.1 c2 hca.2 h
/-- The square: its ends and those of the absolute value. -/
theorem spSqr_ends {a : Int × Int} (ha : spChk a = 0) (h : (spPow a 2).2.2 = 0) :
    (spPow a 2).1 * UU ≤ abLo a * abLo a ∧ abHi a * abHi a ≤ (spPow a 2).2.1 * UU ∧ 0 ≤ (spPow a 2).1 := by
  have e : spPow a 2 = spPowOf (pwS (abLo a) 2) (pwS (abHi a) 2) := spPow_even a 2 ha (by decide) (by decide) (by decide)
  obtain ⟨k0, k1, k2, k3, k4⟩ := abs_narrow ha ha ⟨Int.le_refl _, Int.le_refl _⟩
  rw [e] at h ⊢
  obtain ⟨e1, e2, e3, l, u⟩ := spPowOf_told h
  rw [e3]
  have hH : 0 ≤ abHi a := by omega
  generalize abLo a = L at *
  generalize abHi a = H at *
  have q : ∀ v : Int, 0 ≤ v → (pwS v 2).2.2 = 0 → (pwS v 2).1 * UU ≤ v * v ∧ v * v ≤ (pwS v 2).2.1 * UU ∧ 0 ≤ (pwS v 2).1 := by
    intro v hv h0
    unfold pwS at *
    simp only [Nat.add_one_sub_one, Nat.pow_one] at *
    have hvv : ((v.natAbs ^ 2 : Nat) : Int) = v * v := by
      rw [Nat.pow_two, Int.natCast_mul]
      have : (v.natAbs : Int) = v := by omega
      rw [this]
    rw [← hvv]
    generalize v.natAbs ^ 2 = P at *
    have hd := Nat.div_add_mod P 4294967296
    have hm := Nat.mod_lt P (show 0 < 4294967296 by decide)
    rw [if_neg (show ¬ (v < 0 ∧ 2 % 2 = 1) by omega)] at *
    split at h0
    · simp at h0
    · rename_i hc
      rw [if_neg hc]
      simp only [UU]
      generalize P / 4294967296 = Q at *
      generalize P % 4294967296 = R at *
      split <;> omega
  exact ⟨(q L k0 e1).1, (q H hH e2).2.1, (q L k0 e1).2.2⟩

/-! ### Roots -/
theorem rtN_mono {n k : Nat} (up : Bool) (h : n ≤ k) : rtN n up ≤ rtN k up := by
  have hm := isq_mono h
  unfold rtN
  cases up
  · simp; exact hm
  · simp only [true_and]
    by_cases h1 : isq n * isq n ≠ n
    · rw [if_pos h1]
      by_cases h2 : isq k * isq k ≠ k
      · rw [if_pos h2]; omega
      · rw [if_neg h2]
        have h2 : isq k * isq k = k := Decidable.by_contra h2
        rcases Nat.lt_or_ge (isq n) (isq k) with h3 | h3
        · omega
        · exfalso
          have h4 : isq n = isq k := by omega
          have := (isq_spec n).1
          rw [h4, h2] at this
          have e : n = k := by omega
          rw [h4] at h1
          rw [h2] at h1
          exact h1 e.symm
    · rw [if_neg h1]; split <;> omega
theorem rt_mono {a b : Int} (up : Bool) (h : a ≤ b) : rt a up ≤ rt b up := by
  unfold rt
  have := rtN_mono up (Nat.mul_le_mul_right 4294967296 (Int.toNat_le_toNat h))
  omega
theorem rtN_sq (n : Nat) : rtN n false * rtN n false ≤ n ∧ n ≤ rtN n true * rtN n true := by
  obtain ⟨h1, h2⟩ := isq_spec n
  unfold rtN
  refine ⟨by simpa using h1, ?_⟩
  by_cases hc : isq n * isq n ≠ n
  · rw [if_pos ⟨rfl, hc⟩]; omega
  · rw [if_neg (fun h => hc h.2)]
    have := Decidable.by_contra hc
    simp only [Nat.add_zero]; omega
theorem rt_nat {a : Int} (h : 0 ≤ a) : ∃ n : Nat, (n : Int) = a * UU ∧ ∀ up, rt a up = (rtN n up : Int) := by
  refine ⟨a.toNat * 4294967296, ?_, fun up => rfl⟩
  rw [Int.natCast_mul, show (a.toNat : Int) = a by omega]
  rfl
theorem rt_lo {a : Int} (h : 0 ≤ a) : rt a false * rt a false ≤ a * UU ∧ 0 ≤ rt a false := by
  obtain ⟨n, hn, hr⟩ := rt_nat h
  rw [hr, ← hn]
  have := (rtN_sq n).1
  exact ⟨by rw [← Int.natCast_mul]; exact Int.ofNat_le.2 this, by omega⟩
theorem rt_hi {a : Int} (h : 0 ≤ a) : a * UU ≤ rt a true * rt a true ∧ 0 ≤ rt a true := by
  obtain ⟨n, hn, hr⟩ := rt_nat h
  rw [hr, ← hn]
  have := (rtN_sq n).2
  exact ⟨by rw [← Int.natCast_mul]; exact Int.ofNat_le.2 this, by omega⟩
theorem rt_small {a : Int} (up : Bool) (h : a ≤ 4503599627370496) : rt a up ≤ 4398046511104 := by
  unfold rt
  have := rtN_small a.toNat up (by omega)
  omega
theorem spSqrt_eq {a : Int × Int} (ha : spChk a = 0) (h0 : 0 ≤ a.1) : spSqrt a = (rt a.1 false, rt a.2 true, 0) := by
  obtain ⟨a1, a2, a3⟩ := spChk_ok ha
  unfold spSqrt
  have := rt_small true a3
  have := (rt_lo h0).2
  rw [if_pos ha, if_neg (by omega), told_mk (by omega) (by omega)]
theorem spSqrt_narrow {a c : Int × Int} (ha : spChk a = 0) (hc : spChk c = 0) (hca : Wi c a) (h : (spSqrt a).2.2 = 0) :
    (spSqrt c).2.2 = 0 ∧ (spSqrt a).1 ≤ (spSqrt c).1 ∧ (spSqrt c).2.1 ≤ (spSqrt a).2.1 := by
  have h0 : 0 ≤ a.1 := by
    unfold spSqrt at h
    rw [if_pos ha] at h
    split at h
    · simp at h
    · omega
  obtain ⟨w1, w2⟩ := hca
  rw [spSqrt_eq ha h0, spSqrt_eq hc (by omega)]
  exact ⟨rfl, rt_mono false w1, rt_mono true w2⟩

end Go.Proofs.Ytpdaigenffecmaa
