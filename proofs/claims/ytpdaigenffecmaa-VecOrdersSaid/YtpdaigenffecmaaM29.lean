/-
  Package vec: Scale, Cross, Unit.
-/
import Derived.Test.YtpdaigenffecmaaM18
import Derived.Test.YtpdaigenffecmaaM25
import Derived.Test.YtpdaigenffecmaaM27
import Derived.Test.YtpdaigenffecmaaM28
set_option linter.all false
namespace Go.Proofs.Ytpdaigenffecmaa
open Go.RowKit Go.Shelf
theorem cell_drew {w : World} {a : Addr} {v : Option Value} (h : w.cell? a = v) : w.drew.cell? a = v := h

set_option maxHeartbeats 2000000 in
theorem c_vecScale (x0 x1 x2 x3 x4 x5 y0 y1 : Int) (w : World) :
    Calls Try.prog 36 #[.agg #[.int .i64 x0, .int .i64 x1, .int .i64 x2, .int .i64 x3, .int .i64 x4, .int .i64 x5], .agg #[.int .i64 y0, .int .i64 y1]] w fun e w' => e = .returned (vRes (errTo (chk3 (chk3 0 x0 x1 x2 x3 x4 x5 3) y0 y1 y0 y1 y0 y1 3) (spMul (x0, x1) (y0, y1)).2.2 (spMul (x2, x3) (y0, y1)).2.2 (spMul (x4, x5) (y0, y1)).2.2 3) (spMul (x0, x1) (y0, y1)) (spMul (x2, x3) (y0, y1)) (spMul (x4, x5) (y0, y1))) ∧ Below w.heap.size w w' := by
  obtain ⟨ra, hra⟩ : ∃ r, r = spMul (x0, x1) (y0, y1) := ⟨_, rfl⟩
  obtain ⟨rb, hrb⟩ : ∃ r, r = spMul (x2, x3) (y0, y1) := ⟨_, rfl⟩
  obtain ⟨rc, hrc⟩ : ∃ r, r = spMul (x4, x5) (y0, y1) := ⟨_, rfl⟩
  obtain ⟨e0, he0⟩ : ∃ e, e = chk3 (chk3 0 x0 x1 x2 x3 x4 x5 3) y0 y1 y0 y1 y0 y1 3 := ⟨_, rfl⟩
  rw [← hra, ← hrb, ← hrc, ← he0]
  obtain ⟨ek, hek⟩ : ∃ ek, ek = errTo e0 ra.2.2 rb.2.2 rc.2.2 3 := ⟨_, rfl⟩
  rw [← hek]
  obtain ⟨n0, n1, n2, n3, n4, n5, hn⟩ := vRes_form ek ra rb rc
  rw [hn]
  have HN := Lib.hid hn; clear hn
  have HEK := Lib.hid hek; clear hek
  have HE0 := Lib.hid he0; clear he0
  have HRA := Lib.hid hra; clear hra
  have HRB := Lib.hid hrb; clear hrb
  have HRC := Lib.hid hrc; clear hrc

  obtain ⟨W, hW⟩ : ∃ W, W = (((w.alloc (Obj.cells #[Value.int IntKind.i64 x0, Value.int IntKind.i64 x1, Value.int IntKind.i64 x2, Value.int IntKind.i64 x3, Value.int IntKind.i64 x4, Value.int IntKind.i64 x5] 25)).alloc (Obj.cells #[Value.int IntKind.i64 y0, Value.int IntKind.i64 y1] 23)).alloc (Obj.cells #[Value.int IntKind.i64 0, Value.int IntKind.i64 0, Value.int IntKind.i64 0, Value.int IntKind.i64 0, Value.int IntKind.i64 0, Value.int IntKind.i64 0] 25)) := ⟨_, rfl⟩
  have hsW : w.heap.size + 1 + 1 < W.heap.size := by rw [hW]; simp
  have hB : Hid (Below w.heap.size w W) := by rw [hW]; unfold Hid; (repeat' (first | (with_reducible exact Below.refl _ _) | (with_reducible refine Below.setCell ?_ ?_ _) | (with_reducible refine Below.alloc ?_ ?_ _) | (with_reducible refine Below.drew ?_) | (with_reducible refine below_drewN ?_ _) | (with_reducible assumption) | (with_reducible refine Below.trans ?_ (Below.mono (by with_reducible assumption) ?_)) | omega | (simp; done) | (simp; omega) | (simp [World.setCell]; omega)))
  have a0 : W.cell? ⟨w.heap.size, 0, none⟩ = some (.int .i64 x0) := by rw [hW]; simp [go_sem]
  have a1 : W.cell? ⟨w.heap.size, 1, none⟩ = some (.int .i64 x1) := by rw [hW]; simp [go_sem]
  have a2 : W.cell? ⟨w.heap.size, 2, none⟩ = some (.int .i64 x2) := by rw [hW]; simp [go_sem]
  have a3 : W.cell? ⟨w.heap.size, 3, none⟩ = some (.int .i64 x3) := by rw [hW]; simp [go_sem]
  have a4 : W.cell? ⟨w.heap.size, 4, none⟩ = some (.int .i64 x4) := by rw [hW]; simp [go_sem]
  have a5 : W.cell? ⟨w.heap.size, 5, none⟩ = some (.int .i64 x5) := by rw [hW]; simp [go_sem]
  have b0 : W.cell? ⟨w.heap.size + 1, 0, none⟩ = some (.int .i64 y0) := by rw [hW]; simp [go_sem]
  have b1 : W.cell? ⟨w.heap.size + 1, 1, none⟩ = some (.int .i64 y1) := by rw [hW]; simp [go_sem]
  have z0 : W.cell? ⟨w.heap.size + 1 + 1, 0, none⟩ = some (.int .i64 0) := by rw [hW]; simp [go_sem]
  have z1 : W.cell? ⟨w.heap.size + 1 + 1, 1, none⟩ = some (.int .i64 0) := by rw [hW]; simp [go_sem]
  have z2 : W.cell? ⟨w.heap.size + 1 + 1, 2, none⟩ = some (.int .i64 0) := by rw [hW]; simp [go_sem]
  have z3 : W.cell? ⟨w.heap.size + 1 + 1, 3, none⟩ = some (.int .i64 0) := by rw [hW]; simp [go_sem]
  have z4 : W.cell? ⟨w.heap.size + 1 + 1, 4, none⟩ = some (.int .i64 0) := by rw [hW]; simp [go_sem]
  have z5 : W.cell? ⟨w.heap.size + 1 + 1, 5, none⟩ = some (.int .i64 0) := by rw [hW]; simp [go_sem]
  have s0 : W.frozen? ⟨w.heap.size + 1 + 1, 0, none⟩ = false := by rw [hW]; simp [go_sem]
  have s1 : W.frozen? ⟨w.heap.size + 1 + 1, 1, none⟩ = false := by rw [hW]; simp [go_sem]
  have s2 : W.frozen? ⟨w.heap.size + 1 + 1, 2, none⟩ = false := by rw [hW]; simp [go_sem]
  have s3 : W.frozen? ⟨w.heap.size + 1 + 1, 3, none⟩ = false := by rw [hW]; simp [go_sem]
  have s4 : W.frozen? ⟨w.heap.size + 1 + 1, 4, none⟩ = false := by rw [hW]; simp [go_sem]
  have s5 : W.frozen? ⟨w.heap.size + 1 + 1, 5, none⟩ = false := by rw [hW]; simp [go_sem]
  go_enter Try.func36, Try.ntmps36
  go_wp2_with (fail)
  rw [← hW]
  clear hW
  go_region_held3 (fun w' => w'.cell? ⟨w.heap.size, 0, none⟩ = some (.int .i64 x0) ∧ w'.cell? ⟨w.heap.size, 1, none⟩ = some (.int .i64 x1) ∧ w'.cell? ⟨w.heap.size, 2, none⟩ = some (.int .i64 x2) ∧ w'.cell? ⟨w.heap.size, 3, none⟩ = some (.int .i64 x3) ∧ w'.cell? ⟨w.heap.size, 4, none⟩ = some (.int .i64 x4) ∧ w'.cell? ⟨w.heap.size, 5, none⟩ = some (.int .i64 x5) ∧ w'.cell? ⟨w.heap.size + 1, 0, none⟩ = some (.int .i64 y0) ∧ w'.cell? ⟨w.heap.size + 1, 1, none⟩ = some (.int .i64 y1)) (first | exact ⟨a0, a1, a2, a3, a4, a5, b0, b1⟩ | exact ⟨(World.cell?_alloc_past _ _ _ (by first | omega | (simp [go_sem]; done) | (simp [go_sem]; omega))).trans (a0), (World.cell?_alloc_past _ _ _ (by first | omega | (simp [go_sem]; done) | (simp [go_sem]; omega))).trans (a1), (World.cell?_alloc_past _ _ _ (by first | omega | (simp [go_sem]; done) | (simp [go_sem]; omega))).trans (a2), (World.cell?_alloc_past _ _ _ (by first | omega | (simp [go_sem]; done) | (simp [go_sem]; omega))).trans (a3), (World.cell?_alloc_past _ _ _ (by first | omega | (simp [go_sem]; done) | (simp [go_sem]; omega))).trans (a4), (World.cell?_alloc_past _ _ _ (by first | omega | (simp [go_sem]; done) | (simp [go_sem]; omega))).trans (a5), (World.cell?_alloc_past _ _ _ (by first | omega | (simp [go_sem]; done) | (simp [go_sem]; omega))).trans (b0), (World.cell?_alloc_past _ _ _ (by first | omega | (simp [go_sem]; done) | (simp [go_sem]; omega))).trans (b1)⟩) (first | (go_at_call 62; (have hT : Hid (Tab12 (w1.alloc (Obj.cells #[Value.int IntKind.i64 x0, Value.int IntKind.i64 x1, Value.int IntKind.i64 x2, Value.int IntKind.i64 x3, Value.int IntKind.i64 x4, Value.int IntKind.i64 x5, Value.int IntKind.i64 y0, Value.int IntKind.i64 y1, Value.int IntKind.i64 y0, Value.int IntKind.i64 y1, Value.int IntKind.i64 y0, Value.int IntKind.i64 y1] 25)) w1.heap.size (six x0 x1 x2 x3 x4 x5) (six y0 y1 y0 y1 y0 y1)) := by (constructor; (intro j hj; (rcases (by omega : j = 0 ∨ j = 1 ∨ j = 2 ∨ j = 3 ∨ j = 4 ∨ j = 5) with rfl | rfl | rfl | rfl | rfl | rfl <;> simp [six])); (intro j hj; (rcases (by omega : j = 0 ∨ j = 1 ∨ j = 2 ∨ j = 3 ∨ j = 4 ∨ j = 5) with rfl | rfl | rfl | rfl | rfl | rfl <;> simp [six])))); (have hBa : Below w.heap.size w1 (w1.alloc (Obj.cells #[Value.int IntKind.i64 x0, Value.int IntKind.i64 x1, Value.int IntKind.i64 x2, Value.int IntKind.i64 x3, Value.int IntKind.i64 x4, Value.int IntKind.i64 x5, Value.int IntKind.i64 y0, Value.int IntKind.i64 y1, Value.int IntKind.i64 y0, Value.int IntKind.i64 y1, Value.int IntKind.i64 y0, Value.int IntKind.i64 y1] 25)) := (Below.refl _ _).alloc (by omega) _); refine (c_all2 _ _ x0 x1 x2 x3 x4 x5 y0 y1 y0 y1 y0 y1 (w1.alloc (Obj.cells #[Value.int IntKind.i64 x0, Value.int IntKind.i64 x1, Value.int IntKind.i64 x2, Value.int IntKind.i64 x3, Value.int IntKind.i64 x4, Value.int IntKind.i64 x5, Value.int IntKind.i64 y0, Value.int IntKind.i64 y1, Value.int IntKind.i64 y0, Value.int IntKind.i64 y1, Value.int IntKind.i64 y0, Value.int IntKind.i64 y1] 25)) (by simp) hT).mono ?_; rintro e w2 ⟨rfl, hb2, hz2, hcP, hfP⟩; (simp only [World.size_alloc] at hz2 hcP hfP); rw [← HE0.out] at hcP; (have hs2 := hb2.size); (simp only [World.size_alloc] at hs2); clear hT; (replace a0 := kp1 hb2 (by omega) a0); (replace a1 := kp1 hb2 (by omega) a1); (replace a2 := kp1 hb2 (by omega) a2); (replace a3 := kp1 hb2 (by omega) a3); (replace a4 := kp1 hb2 (by omega) a4); (replace a5 := kp1 hb2 (by omega) a5); (replace b0 := kp1 hb2 (by omega) b0); (replace b1 := kp1 hb2 (by omega) b1); (replace z0 := kp1 hb2 (by omega) z0); (replace z1 := kp1 hb2 (by omega) z1); (replace z2 := kp1 hb2 (by omega) z2); (replace z3 := kp1 hb2 (by omega) z3); (replace z4 := kp1 hb2 (by omega) z4); (replace z5 := kp1 hb2 (by omega) z5); (replace s0 := kf1 hb2 (by omega) s0); (replace s1 := kf1 hb2 (by omega) s1); (replace s2 := kf1 hb2 (by omega) s2); (replace s3 := kf1 hb2 (by omega) s3); (replace s4 := kf1 hb2 (by omega) s4); (replace s5 := kf1 hb2 (by omega) s5)) | (go_at_call 69; refine (c_alike y0 y1 W.drew).mono ?_; rintro e w1 ⟨rfl, hb1⟩; (replace hb1 : Below W.heap.size W w1 := Below.undrew hb1); (have hs1 := hb1.size); (replace a0 := kp hb1 (by omega) a0); (replace a1 := kp hb1 (by omega) a1); (replace a2 := kp hb1 (by omega) a2); (replace a3 := kp hb1 (by omega) a3); (replace a4 := kp hb1 (by omega) a4); (replace a5 := kp hb1 (by omega) a5); (replace b0 := kp hb1 (by omega) b0); (replace b1 := kp hb1 (by omega) b1); (replace z0 := kp hb1 (by omega) z0); (replace z1 := kp hb1 (by omega) z1); (replace z2 := kp hb1 (by omega) z2); (replace z3 := kp hb1 (by omega) z3); (replace z4 := kp hb1 (by omega) z4); (replace z5 := kp hb1 (by omega) z5); (replace s0 := kf hb1 (by omega) s0); (replace s1 := kf hb1 (by omega) s1); (replace s2 := kf hb1 (by omega) s2); (replace s3 := kf hb1 (by omega) s3); (replace s4 := kf hb1 (by omega) s4); (replace s5 := kf hb1 (by omega) s5)))
  go_wp2_with (fail)
  refine wp_region_held_drew (S := (fun w' => w'.cell? ⟨w.heap.size, 0, none⟩ = some (.int .i64 x0) ∧ w'.cell? ⟨w.heap.size, 1, none⟩ = some (.int .i64 x1) ∧ w'.cell? ⟨w.heap.size, 2, none⟩ = some (.int .i64 x2) ∧ w'.cell? ⟨w.heap.size, 3, none⟩ = some (.int .i64 x3) ∧ w'.cell? ⟨w.heap.size, 4, none⟩ = some (.int .i64 x4) ∧ w'.cell? ⟨w.heap.size, 5, none⟩ = some (.int .i64 x5) ∧ w'.cell? ⟨w.heap.size + 1, 0, none⟩ = some (.int .i64 y0) ∧ w'.cell? ⟨w.heap.size + 1, 1, none⟩ = some (.int .i64 y1))) (by kernel_rfl) ?_ (fun hHeld => ?_)
  · (try dsimp only); with_reducible exact ⟨cell_drew a0, cell_drew a1, cell_drew a2, cell_drew a3, cell_drew a4, cell_drew a5, cell_drew b0, cell_drew b1⟩
  refine wpAnyH_take (i := 0) (oi := _) (v := ?_) rfl (by kernel_rfl) (by kernel_rfl) (by kernel_rfl) (fun _ _ _ h => h) (Or.inl ⟨by rfl, ?_⟩) (by assumption) ?_
  rotate_left
  · intro w hSw; (try dsimp only at hSw); go_simp; (first | done | with_reducible rfl)
  (try simp only [List.getElem_toArray, List.getElem_cons_succ, List.getElem_cons_zero, Act.put, List.setIfInBounds_toArray, List.set_cons_zero, List.set_cons_succ])
  refine wpAnyH_take (i := 1) (oi := _) (v := ?_) rfl (by kernel_rfl) (by kernel_rfl) (by kernel_rfl) (fun _ _ _ h => h) (Or.inl ⟨by rfl, ?_⟩) (by assumption) ?_
  rotate_left
  · intro w hSw; (try dsimp only at hSw); go_simp; (first | done | with_reducible rfl)
  (try simp only [List.getElem_toArray, List.getElem_cons_succ, List.getElem_cons_zero, Act.put, List.setIfInBounds_toArray, List.set_cons_zero, List.set_cons_succ])
  refine wpAnyH_take (i := 2) (oi := _) (v := ?_) rfl (by kernel_rfl) (by kernel_rfl) (by kernel_rfl) (fun _ _ _ h => h) (Or.inl ⟨by rfl, ?_⟩) (by assumption) ?_
  rotate_left
  · intro w hSw; (try dsimp only at hSw); go_simp; (first | done | with_reducible rfl)
  (try simp only [List.getElem_toArray, List.getElem_cons_succ, List.getElem_cons_zero, Act.put, List.setIfInBounds_toArray, List.set_cons_zero, List.set_cons_succ])
  refine wpAnyH_take (i := 4) (oi := _) (v := ?_) rfl (by kernel_rfl) (by kernel_rfl) (by kernel_rfl) (fun _ _ _ h => h) (Or.inl ⟨by rfl, ?_⟩) (by assumption) ?_
  rotate_left
  · intro w hSw; (try dsimp only at hSw); go_simp; (first | done | with_reducible rfl)
  (try simp only [List.getElem_toArray, List.getElem_cons_succ, List.getElem_cons_zero, Act.put, List.setIfInBounds_toArray, List.set_cons_zero, List.set_cons_succ])
  refine wpAnyH_take (i := 5) (oi := _) (v := ?_) rfl (by kernel_rfl) (by kernel_rfl) (by kernel_rfl) (fun _ _ _ h => h) (Or.inl ⟨by rfl, ?_⟩) (by assumption) ?_
  rotate_left
  · intro w hSw; (try dsimp only at hSw); go_simp; (first | done | with_reducible rfl)
  (try simp only [List.getElem_toArray, List.getElem_cons_succ, List.getElem_cons_zero, Act.put, List.setIfInBounds_toArray, List.set_cons_zero, List.set_cons_succ])
  refine wpAnyH_ready (rs := [3]) (by kernel_rfl) (by simp) ?_
  refine AllReadyH.cons (o := _) rfl (fun K hK => ?_) AllReadyH.nil
  go_simp
  (go_at_call 69; refine (c_alike y0 y1 w2.drew).mono ?_; rintro e w3 ⟨rfl, hb3⟩; (replace hb3 : Below w2.heap.size w2 w3 := Below.undrew hb3); (have hs3 := hb3.size); (replace hcP : w3.cell? ⟨(w1.heap.size + 1), 0, none⟩ = some (.int .i64 (e0)) := ((bcell hb3).1 _ _ (by omega)).trans hcP); (replace hfP : w3.frozen? ⟨(w1.heap.size + 1), 0, none⟩ = false := ((bcell hb3).2 _ _ (by omega)).trans hfP); (replace a0 := kp hb3 (by omega) a0); (replace a1 := kp hb3 (by omega) a1); (replace a2 := kp hb3 (by omega) a2); (replace a3 := kp hb3 (by omega) a3); (replace a4 := kp hb3 (by omega) a4); (replace a5 := kp hb3 (by omega) a5); (replace b0 := kp hb3 (by omega) b0); (replace b1 := kp hb3 (by omega) b1); (replace z0 := kp hb3 (by omega) z0); (replace z1 := kp hb3 (by omega) z1); (replace z2 := kp hb3 (by omega) z2); (replace z3 := kp hb3 (by omega) z3); (replace z4 := kp hb3 (by omega) z4); (replace z5 := kp hb3 (by omega) z5); (replace s0 := kf hb3 (by omega) s0); (replace s1 := kf hb3 (by omega) s1); (replace s2 := kf hb3 (by omega) s2); (replace s3 := kf hb3 (by omega) s3); (replace s4 := kf hb3 (by omega) s4); (replace s5 := kf hb3 (by omega) s5))
  (try go_wp2_with (fail))
  refine hK.out _ _ ?_ (fun hHeld => ?_)
  · (try dsimp only); with_reducible exact ⟨a0, a1, a2, a3, a4, a5, b0, b1⟩
  clear hK K
  (try simp only [List.getElem_toArray, List.getElem_cons_succ, List.getElem_cons_zero, Act.put, List.setIfInBounds_toArray, List.set_cons_zero, List.set_cons_succ])
  refine wpAnyH_ready (rs := [6]) (by kernel_rfl) (by simp) ?_
  refine AllReadyH.cons (o := _) rfl (fun K hK => ?_) AllReadyH.nil
  go_simp
  (go_at_call 64; refine (c_each_mul (w1.heap.size + 1) x0 x1 x2 x3 x4 x5 y0 y1 y0 y1 y0 y1 e0 w3 (show (w1.heap.size + 1) < w3.heap.size by omega) hcP hfP).mono ?_; rw [← HRA.out, ← HRB.out, ← HRC.out, ← HEK.out]; rintro e w4 ⟨rfl, ho4, hcN, hfN⟩; (replace hcP := hcN); (replace hfP := hfN); (have hs4 := ho4.size); (have HB4 : Below w.heap.size w3 w4 := ho4.toBelow (by omega) (by omega)); (replace a0 := ko ho4 (by omega) (by omega) a0); (replace a1 := ko ho4 (by omega) (by omega) a1); (replace a2 := ko ho4 (by omega) (by omega) a2); (replace a3 := ko ho4 (by omega) (by omega) a3); (replace a4 := ko ho4 (by omega) (by omega) a4); (replace a5 := ko ho4 (by omega) (by omega) a5); (replace b0 := ko ho4 (by omega) (by omega) b0); (replace b1 := ko ho4 (by omega) (by omega) b1); (replace z0 := ko ho4 (by omega) (by omega) z0); (replace z1 := ko ho4 (by omega) (by omega) z1); (replace z2 := ko ho4 (by omega) (by omega) z2); (replace z3 := ko ho4 (by omega) (by omega) z3); (replace z4 := ko ho4 (by omega) (by omega) z4); (replace z5 := ko ho4 (by omega) (by omega) z5); (replace s0 := kof ho4 (by omega) (by omega) s0); (replace s1 := kof ho4 (by omega) (by omega) s1); (replace s2 := kof ho4 (by omega) (by omega) s2); (replace s3 := kof ho4 (by omega) (by omega) s3); (replace s4 := kof ho4 (by omega) (by omega) s4); (replace s5 := kof ho4 (by omega) (by omega) s5))
  (try go_wp2_with (fail))
  refine hK.out _ _ ?_ (fun hHeld => ?_)
  · (try dsimp only); with_reducible exact ⟨a0, a1, a2, a3, a4, a5, b0, b1⟩
  clear hK K
  (try simp only [List.getElem_toArray, List.getElem_cons_succ, List.getElem_cons_zero, Act.put, List.setIfInBounds_toArray, List.set_cons_zero, List.set_cons_succ])
  refine wpAnyH_ready (rs := [7]) (by kernel_rfl) (by simp) ?_
  refine AllReadyH.cons (o := _) rfl (fun K hK => ?_) AllReadyH.nil
  go_simp
  (go_at_call 63; refine (c_toldV (w1.heap.size + 1) ra rb rc ek w4 (show (w1.heap.size + 1) < w4.heap.size by omega) hcP).mono ?_; rw [HN.out]; rintro e w5 ⟨rfl, hb5⟩; (have hs5 := hb5.size); (replace hcP : w5.cell? ⟨(w1.heap.size + 1), 0, none⟩ = some (.int .i64 (ek)) := ((bcell hb5).1 _ _ (by omega)).trans hcP); (replace hfP : w5.frozen? ⟨(w1.heap.size + 1), 0, none⟩ = false := ((bcell hb5).2 _ _ (by omega)).trans hfP); (replace a0 := kp hb5 (by omega) a0); (replace a1 := kp hb5 (by omega) a1); (replace a2 := kp hb5 (by omega) a2); (replace a3 := kp hb5 (by omega) a3); (replace a4 := kp hb5 (by omega) a4); (replace a5 := kp hb5 (by omega) a5); (replace b0 := kp hb5 (by omega) b0); (replace b1 := kp hb5 (by omega) b1); (replace z0 := kp hb5 (by omega) z0); (replace z1 := kp hb5 (by omega) z1); (replace z2 := kp hb5 (by omega) z2); (replace z3 := kp hb5 (by omega) z3); (replace z4 := kp hb5 (by omega) z4); (replace z5 := kp hb5 (by omega) z5); (replace s0 := kf hb5 (by omega) s0); (replace s1 := kf hb5 (by omega) s1); (replace s2 := kf hb5 (by omega) s2); (replace s3 := kf hb5 (by omega) s3); (replace s4 := kf hb5 (by omega) s4); (replace s5 := kf hb5 (by omega) s5))
  (try go_wp2_with (fail))
  refine hK.out _ _ ?_ (fun hHeld => ?_)
  · (try dsimp only); with_reducible exact ⟨a0, a1, a2, a3, a4, a5, b0, b1⟩
  clear hK K
  (try simp only [List.getElem_toArray, List.getElem_cons_succ, List.getElem_cons_zero, Act.put, List.setIfInBounds_toArray, List.set_cons_zero, List.set_cons_succ])
  refine wpAnyH_take (i := 8) (oi := _) (v := ?_) rfl (by kernel_rfl) (by kernel_rfl) (by kernel_rfl) (fun _ _ _ h => h) (Or.inl ⟨by rfl, ?_⟩) (by assumption) ?_
  rotate_left
  · intro w hSw; (try dsimp only at hSw); go_simp; (first | done | with_reducible rfl)
  (try simp only [List.getElem_toArray, List.getElem_cons_succ, List.getElem_cons_zero, Act.put, List.setIfInBounds_toArray, List.set_cons_zero, List.set_cons_succ])
  refine wpAnyH_take (i := 9) (oi := _) (v := ?_) rfl (by kernel_rfl) (by kernel_rfl) (by kernel_rfl) (fun _ _ _ h => h) (Or.inl ⟨by rfl, ?_⟩) (by assumption) ?_
  rotate_left
  · intro w hSw; (try dsimp only at hSw); go_simp; (first | done | with_reducible rfl)
  (try simp only [List.getElem_toArray, List.getElem_cons_succ, List.getElem_cons_zero, Act.put, List.setIfInBounds_toArray, List.set_cons_zero, List.set_cons_succ])
  refine wpAnyH_ready (rs := [10]) (by kernel_rfl) (by simp) ?_
  refine AllReadyH.cons (o := _) rfl (fun K hK => ?_) AllReadyH.nil
  go_simp
  refine hK.out _ _ ?_ (fun hHeld => ?_)
  · (try dsimp only); ((with_reducible refine ⟨kfar ?_ (kfar ?_ (kfar ?_ (kfar ?_ (kfar ?_ (kfar ?_ a0))))), kfar ?_ (kfar ?_ (kfar ?_ (kfar ?_ (kfar ?_ (kfar ?_ a1))))), kfar ?_ (kfar ?_ (kfar ?_ (kfar ?_ (kfar ?_ (kfar ?_ a2))))), kfar ?_ (kfar ?_ (kfar ?_ (kfar ?_ (kfar ?_ (kfar ?_ a3))))), kfar ?_ (kfar ?_ (kfar ?_ (kfar ?_ (kfar ?_ (kfar ?_ a4))))), kfar ?_ (kfar ?_ (kfar ?_ (kfar ?_ (kfar ?_ (kfar ?_ a5))))), kfar ?_ (kfar ?_ (kfar ?_ (kfar ?_ (kfar ?_ (kfar ?_ b0))))), kfar ?_ (kfar ?_ (kfar ?_ (kfar ?_ (kfar ?_ (kfar ?_ b1)))))⟩) <;> (first | omega | (simp only; omega)))
  clear hK K
  (try simp only [List.getElem_toArray, List.getElem_cons_succ, List.getElem_cons_zero, Act.put, List.setIfInBounds_toArray, List.set_cons_zero, List.set_cons_succ])
  refine wpAnyH_take (i := 11) (oi := _) (v := ?_) rfl (by kernel_rfl) (by kernel_rfl) (by kernel_rfl) (fun _ _ _ h => h) (Or.inl ⟨by rfl, ?_⟩) (by assumption) ?_
  rotate_left
  · intro w hSw; (try dsimp only at hSw); go_simp; (first | done | with_reducible rfl)
  (try simp only [List.getElem_toArray, List.getElem_cons_succ, List.getElem_cons_zero, Act.put, List.setIfInBounds_toArray, List.set_cons_zero, List.set_cons_succ])
  refine wpAnyH_done (by kernel_rfl) ?_ _
  go_wp2_with (fail)
  have HB := hB.out
  obtain ⟨F, hF⟩ : ∃ F, F = ((((((w5.setCell ⟨w.heap.size + 1 + 1, 0, none⟩ (Value.int IntKind.i64 n0)).setCell ⟨w.heap.size + 1 + 1, 1, none⟩ (Value.int IntKind.i64 n1)).setCell ⟨w.heap.size + 1 + 1, 2, none⟩ (Value.int IntKind.i64 n2)).setCell ⟨w.heap.size + 1 + 1, 3, none⟩ (Value.int IntKind.i64 n3)).setCell ⟨w.heap.size + 1 + 1, 4, none⟩ (Value.int IntKind.i64 n4)).setCell ⟨w.heap.size + 1 + 1, 5, none⟩ (Value.int IntKind.i64 n5)) := ⟨_, rfl⟩
  have g := st6 w5 (w.heap.size + 1 + 1) (n0) (n1) (n2) (n3) (n4) (n5) z0 z1 z2 z3 z4 z5
  rw [← hF] at g
  have g0 : F.cell? ⟨w.heap.size + 1 + 1, 0, none⟩ = some (.int .i64 (n0)) := g 0 (by decide)
  have g1 : F.cell? ⟨w.heap.size + 1 + 1, 1, none⟩ = some (.int .i64 (n1)) := g 1 (by decide)
  have g2 : F.cell? ⟨w.heap.size + 1 + 1, 2, none⟩ = some (.int .i64 (n2)) := g 2 (by decide)
  have g3 : F.cell? ⟨w.heap.size + 1 + 1, 3, none⟩ = some (.int .i64 (n3)) := g 3 (by decide)
  have g4 : F.cell? ⟨w.heap.size + 1 + 1, 4, none⟩ = some (.int .i64 (n4)) := g 4 (by decide)
  have g5 : F.cell? ⟨w.heap.size + 1 + 1, 5, none⟩ = some (.int .i64 (n5)) := g 5 (by decide)
  clear g
  have hFB : Hid (Below w.heap.size w F) := by rw [hF]; unfold Hid; (repeat' (first | (with_reducible exact Below.refl _ _) | (with_reducible refine Below.setCell ?_ ?_ _) | (with_reducible refine Below.alloc ?_ ?_ _) | (with_reducible refine Below.drew ?_) | (with_reducible refine below_drewN ?_ _) | (with_reducible assumption) | (with_reducible refine Below.trans ?_ (Below.mono (by with_reducible assumption) ?_)) | omega | (simp; done) | (simp; omega) | (simp [World.setCell]; omega)))
  rw [← hF]
  clear hF
  refine bodyPost_ret (v := .tuple #[.agg #[.int .i64 n0, .int .i64 n1, .int .i64 n2, .int .i64 n3, .int .i64 n4, .int .i64 n5], .int .i64 ek]) (by simp [results, Try.results36, go_sem, g0, g1, g2, g3, g4, g5]) rfl ⟨rfl, hFB.out⟩


end Go.Proofs.Ytpdaigenffecmaa
