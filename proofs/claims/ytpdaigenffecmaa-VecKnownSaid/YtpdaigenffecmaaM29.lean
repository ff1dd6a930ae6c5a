/-
  Package vec: Scale, Cross, Unit. An executor of the program's code over a known part of the memory: its words. The executor is right: values, frames, operations that change nothing.
-/
import Derived.Test.YtpdaigenffecmaaM18
import Derived.Test.YtpdaigenffecmaaM25
import Derived.Test.YtpdaigenffecmaaM27
import Derived.Test.YtpdaigenffecmaaM28
set_option linter.all false
namespace Go.Proofs.Ytpdaigenffecmaa
open Go.RowKit Go.Shelf
theorem cell_drew {w : World} {a : Addr} {v : Option Value} (h : w.cell? a = v) : w.drew.cell? a = v := h

set_option maxHeartbeats 2000000 in
theorem c_vecScale (x0 x1 x2 x3 x4 x5 y0 y1 : Int) (w : World) :
    Calls Try.prog 36 #[.agg #[.int .i64 x0, .int .i64 x1, .int .i64 x2, .int .i64 x3, .int .i64 x4, .int .i64 x5], .agg #[.int .i64 y0, .int .i64 y1]] w fun e w' => e = .returned (vRes (errTo (chk3 (chk3 0 x0 x1 x2 x3 x4 x5 3) y0 y1 y0 y1 y0 y1 3) (spMul (x0, x1) (y0, y1)).2.2 (spMul (x2, x3) (y0, y1)).2.2 (spMul (x4, x5) (y0, y1)).2.2 3) (spMul (x0, x1) (y0, y1)) (spMul (x2, x3) (y0, y1)) (spMul (x4, x5) (y0, y1))) ∧ Below w.heap.size w w' := by
  obtain ⟨ra, hra⟩ : ∃ r, r = spMul (x0, x1) (y0, y1) := ⟨_, rfl⟩
  obtain ⟨rb, hrb⟩ : ∃ r, r = spMul (x2, x3) (y0, y1) := ⟨_, rfl⟩
  obtain ⟨rc, hrc⟩ : ∃ r, r = spMul (x4, x5) (y0, y1) := ⟨_, rfl⟩
  obtain ⟨e0, he0⟩ : ∃ e, e = chk3 (chk3 0 x0 x1 x2 x3 x4 x5 3) y0 y1 y0 y1 y0 y1 3 := ⟨_, rfl⟩
  rw [← hra, ← hrb, ← hrc, ← he0]
  obtain ⟨ek, hek⟩ : ∃ ek, ek = errTo e0 ra.2.2 rb.2.2 rc.2.2 3 := ⟨_, rfl⟩
  rw [← hek]
  obtain ⟨n0, n1, n2, n3, n4, n5, hn⟩ := vRes_form ek ra rb rc
  rw [hn]
  have HN := Lib.hid hn; clear hn
  have HEK := Lib.hid hek; clear hek
  have HE0 := Lib.hid he0; clear he0
  have HRA := Lib.hid hra; clear hra
  have HRB := Lib.hid hrb; clear hrb
  have HRC := Lib.hid hrc; clear hrc

  obtain ⟨W, hW⟩ : ∃ W, W = (((w.alloc (Obj.cells #[Value.int IntKind.i64 x0, Value.int IntKind.i64 x1, Value.int IntKind.i64 x2, Value.int IntKind.i64 x3, Value.int IntKind.i64 x4, Value.int IntKind.i64 x5] 25)).alloc (Obj.cells #[Value.int IntKind.i64 y0, Value.int IntKind.i64 y1] 23)).alloc (Obj.cells #[Value.int IntKind.i64 0, Value.int IntKind.i64 0, Value.int IntKind.i64 0, Value.int IntKind.i64 0, Value.int IntKind.i64 0, Value.int IntKind.i64 0] 25)) := ⟨_, rfl⟩
  have hsW : w.heap.size + 1 + 1 < W.heap.size := by rw [hW]; simp
  have hB : Hid (Below w.heap.size w W) := by rw [hW]; unfold Hid; (repeat' (first | (with_reducible exact Below.refl _ _) | (with_reducible refine Below.setCell ?_ ?_ _) | (with_reducible refine Below.alloc ?_ ?_ _) | (with_reducible refine Below.drew ?_) | (with_reducible refine below_drewN ?_ _) | (with_reducible assumption) | (with_reducible refine Below.trans ?_ (Below.mono (by with_reducible assumption) ?_)) | omega | (simp; done) | (simp; omega) | (simp [World.setCell]; omega)))
  have a0 : W.cell? ⟨w.heap.size, 0, none⟩ = some (.int .i64 x0) := by rw [hW]; simp [go_sem]
  have a1 : W.cell? ⟨w.heap.size, 1, none⟩ = some (.int .i64 x1) := by rw [hW]; simp [go_sem]
  have a2 : W.cell? ⟨w.heap.size, 2, none⟩ = some (.int .i64 x2) := by rw [hW]; simp [go_sem]
  have a3 : W.cell? ⟨w.heap.size, 3, none⟩ = some (.int .i64 x3) := by rw [hW]; simp [go_sem]
  have a4 : W.cell? ⟨w.heap.size, 4, none⟩ = some (.int .i64 x4) := by rw [hW]; simp [go_sem]
  have a5 : W.cell? ⟨w.heap.size, 5, none⟩ = some (.int .i64 x5) := by rw [hW]; simp [go_sem]
  have b0 : W.cell? ⟨w.heap.size + 1, 0, none⟩ = some (.int .i64 y0) := by rw [hW]; simp [go_sem]
  have b1 : W.cell? ⟨w.heap.size + 1, 1, none⟩ = some (.int .i64 y1) := by rw [hW]; simp [go_sem]
  have z0 : W.cell? ⟨w.heap.size + 1 + 1, 0, none⟩ = some (.int .i64 0) := by rw [hW]; simp [go_sem]
  have z1 : W.cell? ⟨w.heap.size + 1 + 1, 1, none⟩ = some (.int .i64 0) := by rw [hW]; simp [go_sem]
  have z2 : W.cell? ⟨w.heap.size + 1 + 1, 2, none⟩ = some (.int .i64 0) := by rw [hW]; simp [go_sem]
  have z3 : W.cell? ⟨w.heap.size + 1 + 1, 3, none⟩ = some (.int .i64 0) := by rw [hW]; simp [go_sem]
  have z4 : W.cell? ⟨w.heap.size + 1 + 1, 4, none⟩ = some (.int .i64 0) := by rw [hW]; simp [go_sem]
  have z5 : W.cell? ⟨w.heap.size + 1 + 1, 5, none⟩ = some (.int .i64 0) := by rw [hW]; simp [go_sem]
  have s0 : W.frozen? ⟨w.heap.size + 1 + 1, 0, none⟩ = false := by rw [hW]; simp [go_sem]
  have s1 : W.frozen? ⟨w.heap.size + 1 + 1, 1, none⟩ = false := by rw [hW]; simp [go_sem]
  have s2 : W.frozen? ⟨w.heap.size + 1 + 1, 2, none⟩ = false := by rw [hW]; simp [go_sem]
  have s3 : W.frozen? ⟨w.heap.size + 1 + 1, 3, none⟩ = false := by rw [hW]; simp [go_sem]
  have s4 : W.frozen? ⟨w.heap.size + 1 + 1, 4, none⟩ = false := by rw [hW]; simp [go_sem]
  have s5 : W.frozen? ⟨w.heap.size + 1 + 1, 5, none⟩ = false := by rw [hW]; simp [go_sem]
  go_enter Try.func36, Try.ntmps36
  go_wp2_with (fail)
  rw [← hW]
  clear hW
  go_region_held3 (fun w' => w'.cell? ⟨w.heap.size, 0, none⟩ = some (.int .i64 x0) ∧ w'.cell? ⟨w.heap.size, 1, none⟩ = some (.int .i64 x1) ∧ w'.cell? ⟨w.heap.size, 2, none⟩ = some (.int .i64 x2) ∧ w'.cell? ⟨w.heap.size, 3, none⟩ = some (.int .i64 x3) ∧ w'.cell? ⟨w.heap.size, 4, none⟩ = some (.int .i64 x4) ∧ w'.cell? ⟨w.heap.size, 5, none⟩ = some (.int .i64 x5) ∧ w'.cell? ⟨w.heap.size + 1, 0, none⟩ = some (.int .i64 y0) ∧ w'.cell? ⟨w.heap.size + 1, 1, none⟩ = some (.int .i64 y1)) (first | exact ⟨a0, a1, a2, a3, a4, a5, b0, b1⟩ | exact ⟨(World.cell?_alloc_past _ _ _ (by first | omega | (simp [go_sem]; done) | (simp [go_sem]; omega))).trans (a0), (World.cell?_alloc_past _ _ _ (by first | omega | (simp [go_sem]; done) | (simp [go_sem]; omega))).trans (a1), (World.cell?_alloc_past _ _ _ (by first | omega | (simp [go_sem]; done) | (simp [go_sem]; omega))).trans (a2), (World.cell?_alloc_past _ _ _ (by first | omega | (simp [go_sem]; done) | (simp [go_sem]; omega))).trans (a3), (World.cell?_alloc_past _ _ _ (by first | omega | (simp [go_sem]; done) | (simp [go_sem]; omega))).trans (a4), (World.cell?_alloc_past _ _ _ (by first | omega | (simp [go_sem]; done) | (simp [go_sem]; omega))).trans (a5), (World.cell?_alloc_past _ _ _ (by first | omega | (simp [go_sem]; done) | (simp [go_sem]; omega))).trans (b0), (World.cell?_alloc_past _ _ _ (by first | omega | (simp [go_sem]; done) | (simp [go_sem]; omega))).trans (b1)⟩) (first | (go_at_call 62; (have hT : Hid (Tab12 (w1.alloc (Obj.cells #[Value.int IntKind.i64 x0, Value.int IntKind.i64 x1, Value.int IntKind.i64 x2, Value.int IntKind.i64 x3, Value.int IntKind.i64 x4, Value.int IntKind.i64 x5, Value.int IntKind.i64 y0, Value.int IntKind.i64 y1, Value.int IntKind.i64 y0, Value.int IntKind.i64 y1, Value.int IntKind.i64 y0, Value.int IntKind.i64 y1] 25)) w1.heap.size (six x0 x1 x2 x3 x4 x5) (six y0 y1 y0 y1 y0 y1)) := by (constructor; (intro j hj; (rcases (by omega : j = 0 ∨ j = 1 ∨ j = 2 ∨ j = 3 ∨ j = 4 ∨ j = 5) with rfl | rfl | rfl | rfl | rfl | rfl <;> simp [six])); (intro j hj; (rcases (by omega : j = 0 ∨ j = 1 ∨ j = 2 ∨ j = 3 ∨ j = 4 ∨ j = 5) with rfl | rfl | rfl | rfl | rfl | rfl <;> simp [six])))); (have hBa : Below w.heap.size w1 (w1.alloc (Obj.cells #[Value.int IntKind.i64 x0, Value.int IntKind.i64 x1, Value.int IntKind.i64 x2, Value.int IntKind.i64 x3, Value.int IntKind.i64 x4, Value.int IntKind.i64 x5, Value.int IntKind.i64 y0, Value.int IntKind.i64 y1, Value.int IntKind.i64 y0, Value.int IntKind.i64 y1, Value.int IntKind.i64 y0, Value.int IntKind.i64 y1] 25)) := (Below.refl _ _).alloc (by omega) _); refine (c_all2 _ _ x0 x1 x2 x3 x4 x5 y0 y1 y0 y1 y0 y1 (w1.alloc (Obj.cells #[Value.int IntKind.i64 x0, Value.int IntKind.i64 x1, Value.int IntKind.i64 x2, Value.int IntKind.i64 x3, Value.int IntKind.i64 x4, Value.int IntKind.i64 x5, Value.int IntKind.i64 y0, Value.int IntKind.i64 y1, Value.int IntKind.i64 y0, Value.int IntKind.i64 y1, Value.int IntKind.i64 y0, Value.int IntKind.i64 y1] 25)) (by simp) hT).mono ?_; rintro e w2 ⟨rfl, hb2, hz2, hcP, hfP⟩; (simp only [World.size_alloc] at hz2 hcP hfP); rw [← HE0.out] at hcP; (have hs2 := hb2.size); (simp only [World.size_alloc] at hs2); clear hT; (replace a0 := kp1 hb2 (by omega) a0); (replace a1 := kp1 hb2 (by omega) a1); (replace a2 := kp1 hb2 (by omega) a2); (replace a3 := kp1 hb2 (by omega) a3); (replace a4 := kp1 hb2 (by omega) a4); (replace a5 := kp1 hb2 (by omega) a5); (replace b0 := kp1 hb2 (by omega) b0); (replace b1 := kp1 hb2 (by omega) b1); (replace z0 := kp1 hb2 (by omega) z0); (replace z1 := kp1 hb2 (by omega) z1); (replace z2 := kp1 hb2 (by omega) z2); (replace z3 := kp1 hb2 (by omega) z3); (replace z4 := kp1 hb2 (by omega) z4); (replace z5 := kp1 hb2 (by omega) z5); (replace s0 := kf1 hb2 (by omega) s0); (replace s1 := kf1 hb2 (by omega) s1); (replace s2 := kf1 hb2 (by omega) s2); (replace s3 := kf1 hb2 (by omega) s3); (replace s4 := kf1 hb2 (by omega) s4); (replace s5 := kf1 hb2 (by omega) s5)) | (go_at_call 69; refine (c_alike y0 y1 W.drew).mono ?_; rintro e w1 ⟨rfl, hb1⟩; (replace hb1 : Below W.heap.size W w1 := Below.undrew hb1); (have hs1 := hb1.size); (replace a0 := kp hb1 (by omega) a0); (replace a1 := kp hb1 (by omega) a1); (replace a2 := kp hb1 (by omega) a2); (replace a3 := kp hb1 (by omega) a3); (replace a4 := kp hb1 (by omega) a4); (replace a5 := kp hb1 (by omega) a5); (replace b0 := kp hb1 (by omega) b0); (replace b1 := kp hb1 (by omega) b1); (replace z0 := kp hb1 (by omega) z0); (replace z1 := kp hb1 (by omega) z1); (replace z2 := kp hb1 (by omega) z2); (replace z3 := kp hb1 (by omega) z3); (replace z4 := kp hb1 (by omega) z4); (replace z5 := kp hb1 (by omega) z5); (replace s0 := kf hb1 (by omega) s0); (replace s1 := kf hb1 (by omega) s1); (replace s2 := kf hb1 (by omega) s2); (replace s3 := kf hb1 (by omega) s3); (replace s4 := kf hb1 (by omega) s4); (replace s5 := kf hb1 (by omega) s5)))
  go_wp2_with (fail)
  refine wp_region_held_drew (S := (fun w' => w'.cell? ⟨w.heap.size, 0, none⟩ = some (.int .i64 x0) ∧ w'.cell? ⟨w.heap.size, 1, none⟩ = some (.int .i64 x1) ∧ w'.cell? ⟨w.heap.size, 2, none⟩ = some (.int .i64 x2) ∧ w'.cell? ⟨w.heap.size, 3, none⟩ = some (.int .i64 x3) ∧ w'.cell? ⟨w.heap.size, 4, none⟩ = some (.int .i64 x4) ∧ w'.cell? ⟨w.heap.size, 5, none⟩ = some (.int .i64 x5) ∧ w'.cell? ⟨w.heap.size + 1, 0, none⟩ = some (.int .i64 y0) ∧ w'.cell? ⟨w.heap.size + 1, 1, none⟩ = some (.int .i64 y1))) (by kernel_rfl) ?_ (fun hHeld => ?_)
  · (try dsimp only); with_reducible exact ⟨cell_drew a0, cell_drew a1, cell_drew a2, cell_drew a3, cell_drew a4, cell_drew a5, cell_drew b0, cell_drew b1⟩
  refine wpAnyH_take (i := 0) (oi := _) (v := ?_) rfl (by kernel_rfl) (by kernel_rfl) (by kernel_rfl) (fun _ _ _ h => h) (Or.inl ⟨by rfl, ?_⟩) (by assumption) ?_
  rotate_left
  · intro w hSw; (try dsimp only at hSw); go_simp; (first | done | with_reducible rfl)
  (try simp only [List.getElem_toArray, List.getElem_cons_succ, List.getElem_cons_zero, Act.put, List.setIfInBounds_toArray, List.set_cons_zero, List.set_cons_succ])
  refine wpAnyH_take (i := 1) (oi := _) (v := ?_) rfl (by kernel_rfl) (by kernel_rfl) (by kernel_rfl) (fun _ _ _ h => h) (Or.inl ⟨by rfl, ?_⟩) (by assumption) ?_
  rotate_left
  · intro w hSw; (try dsimp only at hSw); go_simp; (first | done | with_reducible rfl)
  (try simp only [List.getElem_toArray, List.getElem_cons_succ, List.getElem_cons_zero, Act.put, List.setIfInBounds_toArray, List.set_cons_zero, List.set_cons_succ])
  refine wpAnyH_take (i := 2) (oi := _) (v := ?_) rfl (by kernel_rfl) (by kernel_rfl) (by kernel_rfl) (fun _ _ _ h => h) (Or.inl ⟨by rfl, ?_⟩) (by assumption) ?_
  rotate_left
  · intro w hSw; (try dsimp only at hSw); go_simp; (first | done | with_reducible rfl)
  (try simp only [List.getElem_toArray, List.getElem_cons_succ, List.getElem_cons_zero, Act.put, List.setIfInBounds_toArray, List.set_cons_zero, List.set_cons_succ])
  refine wpAnyH_take (i := 4) (oi := _) (v := ?_) rfl (by kernel_rfl) (by kernel_rfl) (by kernel_rfl) (fun _ _ _ h => h) (Or.inl ⟨by rfl, ?_⟩) (by assumption) ?_
  rotate_left
  · intro w hSw; (try dsimp only at hSw); go_simp; (first | done | with_reducible rfl)
  (try simp only [List.getElem_toArray, List.getElem_cons_succ, List.getElem_cons_zero, Act.put, List.setIfInBounds_toArray, List.set_cons_zero, List.set_cons_succ])
  refine wpAnyH_take (i := 5) (oi := _) (v := ?_) rfl (by kernel_rfl) (by kernel_rfl) (by kernel_rfl) (fun _ _ _ h => h) (Or.inl ⟨by rfl, ?_⟩) (by assumption) ?_
  rotate_left
  · intro w hSw; (try dsimp only at hSw); go_simp; (first | done | with_reducible rfl)
  (try simp only [List.getElem_toArray, List.getElem_cons_succ, List.getElem_cons_zero, Act.put, List.setIfInBounds_toArray, List.set_cons_zero, List.set_cons_succ])
  refine wpAnyH_ready (rs := [3]) (by kernel_rfl) (by simp) ?_
  refine AllReadyH.cons (o := _) rfl (fun K hK => ?_) AllReadyH.nil
  go_simp
  (go_at_call 69; refine (c_alike y0 y1 w2.drew).mono ?_; rintro e w3 ⟨rfl, hb3⟩; (replace hb3 : Below w2.heap.size w2 w3 := Below.undrew hb3); (have hs3 := hb3.size); (replace hcP : w3.cell? ⟨(w1.heap.size + 1), 0, none⟩ = some (.int .i64 (e0)) := ((bcell hb3).1 _ _ (by omega)).trans hcP); (replace hfP : w3.frozen? ⟨(w1.heap.size + 1), 0, none⟩ = false := ((bcell hb3).2 _ _ (by omega)).trans hfP); (replace a0 := kp hb3 (by omega) a0); (replace a1 := kp hb3 (by omega) a1); (replace a2 := kp hb3 (by omega) a2); (replace a3 := kp hb3 (by omega) a3); (replace a4 := kp hb3 (by omega) a4); (replace a5 := kp hb3 (by omega) a5); (replace b0 := kp hb3 (by omega) b0); (replace b1 := kp hb3 (by omega) b1); (replace z0 := kp hb3 (by omega) z0); (replace z1 := kp hb3 (by omega) z1); (replace z2 := kp hb3 (by omega) z2); (replace z3 := kp hb3 (by omega) z3); (replace z4 := kp hb3 (by omega) z4); (replace z5 := kp hb3 (by omega) z5); (replace s0 := kf hb3 (by omega) s0); (replace s1 := kf hb3 (by omega) s1); (replace s2 := kf hb3 (by omega) s2); (replace s3 := kf hb3 (by omega) s3); (replace s4 := kf hb3 (by omega) s4); (replace s5 := kf hb3 (by omega) s5))
  (try go_wp2_with (fail))
  refine hK.out _ _ ?_ (fun hHeld => ?_)
  · (try dsimp only); with_reducible exact ⟨a0, a1, a2, a3, a4, a5, b0, b1⟩
  clear hK K
  (try simp only [List.getElem_toArray, List.getElem_cons_succ, List.getElem_cons_zero, Act.put, List.setIfInBounds_toArray, List.set_cons_zero, List.set_cons_succ])
  refine wpAnyH_ready (rs := [6]) (by kernel_rfl) (by simp) ?_
  refine AllReadyH.cons (o := _) rfl (fun K hK => ?_) AllReadyH.nil
  go_simp
  (go_at_call 64; refine (c_each_mul (w1.heap.size + 1) x0 x1 x2 x3 x4 x5 y0 y1 y0 y1 y0 y1 e0 w3 (show (w1.heap.size + 1) < w3.heap.size by omega) hcP hfP).mono ?_; rw [← HRA.out, ← HRB.out, ← HRC.out, ← HEK.out]; rintro e w4 ⟨rfl, ho4, hcN, hfN⟩; (replace hcP := hcN); (replace hfP := hfN); (have hs4 := ho4.size); (have HB4 : Below w.heap.size w3 w4 := ho4.toBelow (by omega) (by omega)); (replace a0 := ko ho4 (by omega) (by omega) a0); (replace a1 := ko ho4 (by omega) (by omega) a1); (replace a2 := ko ho4 (by omega) (by omega) a2); (replace a3 := ko ho4 (by omega) (by omega) a3); (replace a4 := ko ho4 (by omega) (by omega) a4); (replace a5 := ko ho4 (by omega) (by omega) a5); (replace b0 := ko ho4 (by omega) (by omega) b0); (replace b1 := ko ho4 (by omega) (by omega) b1); (replace z0 := ko ho4 (by omega) (by omega) z0); (replace z1 := ko ho4 (by omega) (by omega) z1); (replace z2 := ko ho4 (by omega) (by omega) z2); (replace z3 := ko ho4 (by omega) (by omega) z3); (replace z4 := ko ho4 (by omega) (by omega) z4); (replace z5 := ko ho4 (by omega) (by omega) z5); (replace s0 := kof ho4 (by omega) (by omega) s0); (replace s1 := kof ho4 (by omega) (by omega) s1); (replace s2 := kof ho4 (by omega) (by omega) s2); (replace s3 := kof ho4 (by omega) (by omega) s3); (replace s4 := kof ho4 (by omega) (by omega) s4); (replace s5 := kof ho4 (by omega) (by omega) s5))
  (try go_wp2_with (fail))
  refine hK.out _ _ ?_ (fun hHeld => ?_)
  · (try dsimp only); with_reducible exact ⟨a0, a1, a2, a3, a4, a5, b0, b1⟩
  clear hK K
  (try simp only [List.getElem_toArray, List.getElem_cons_succ, List.getElem_cons_zero, Act.put, List.setIfInBounds_toArray, List.set_cons_zero, List.set_cons_succ])
  refine wpAnyH_ready (rs := [7]) (by kernel_rfl) (by simp) ?_
  refine AllReadyH.cons (o := _) rfl (fun K hK => ?_) AllReadyH.nil
  go_simp
  (go_at_call 63; refine (c_toldV (w1.heap.size + 1) ra rb rc ek w4 (show (w1.heap.size + 1) < w4.heap.size by omega) hcP).mono ?_; rw [HN.out]; rintro e w5 ⟨rfl, hb5⟩; (have hs5 := hb5.size); (replace hcP : w5.cell? ⟨(w1.heap.size + 1), 0, none⟩ = some (.int .i64 (ek)) := ((bcell hb5).1 _ _ (by omega)).trans hcP); (replace hfP : w5.frozen? ⟨(w1.heap.size + 1), 0, none⟩ = false := ((bcell hb5).2 _ _ (by omega)).trans hfP); (replace a0 := kp hb5 (by omega) a0); (replace a1 := kp hb5 (by omega) a1); (replace a2 := kp hb5 (by omega) a2); (replace a3 := kp hb5 (by omega) a3); (replace a4 := kp hb5 (by omega) a4); (replace a5 := kp hb5 (by omega) a5); (replace b0 := kp hb5 (by omega) b0); (replace b1 := kp hb5 (by omega) b1); (replace z0 := kp hb5 (by omega) z0); (replace z1 := kp hb5 (by omega) z1); (replace z2 := kp hb5 (by omega) z2); (replace z3 := kp hb5 (by omega) z3); (replace z4 := kp hb5 (by omega) z4); (replace z5 := kp hb5 (by omega) z5); (replace s0 := kf hb5 (by omega) s0); (replace s1 := kf hb5 (by omega) s1); (replace s2 := kf hb5 (by omega) s2); (replace s3 := kf hb5 (by omega) s3); (replace s4 := kf hb5 (by omega) s4); (replace s5 := kf hb5 (by omega) s5))
  (try go_wp2_with (fail))
  refine hK.out _ _ ?_ (fun hHeld => ?_)
  · (try dsimp only); with_reducible exact ⟨a0, a1, a2, a3, a4, a5, b0, b1⟩
  clear hK K
  (try simp only [List.getElem_toArray, List.getElem_cons_succ, List.getElem_cons_zero, Act.put, List.setIfInBounds_toArray, List.set_cons_zero, List.set_cons_succ])
  refine wpAnyH_take (i := 8) (oi := _) (v := ?_) rfl (by kernel_rfl) (by kernel_rfl) (by kernel_rfl) (fun _ _ _ h => h) (Or.inl ⟨by rfl, ?_⟩) (by assumption) ?_
  rotate_left
  · intro w hSw; (try dsimp only at hSw); go_simp; (first | done | with_reducible rfl)
  (try simp only [List.getElem_toArray, List.getElem_cons_succ, List.getElem_cons_zero, Act.put, List.setIfInBounds_toArray, List.set_cons_zero, List.set_cons_succ])
  refine wpAnyH_take (i := 9) (oi := _) (v := ?_) rfl (by kernel_rfl) (by kernel_rfl) (by kernel_rfl) (fun _ _ _ h => h) (Or.inl ⟨by rfl, ?_⟩) (by assumption) ?_
  rotate_left
  · intro w hSw; (try dsimp only at hSw); go_simp; (first | done | with_reducible rfl)
  (try simp only [List.getElem_toArray, List.getElem_cons_succ, List.getElem_cons_zero, Act.put, List.setIfInBounds_toArray, List.set_cons_zero, List.set_cons_succ])
  refine wpAnyH_ready (rs := [10]) (by kernel_rfl) (by simp) ?_
  refine AllReadyH.cons (o := _) rfl (fun K hK => ?_) AllReadyH.nil
  go_simp
  refine hK.out _ _ ?_ (fun hHeld => ?_)
  · (try dsimp only); ((with_reducible refine ⟨kfar ?_ (kfar ?_ (kfar ?_ (kfar ?_ (kfar ?_ (kfar ?_ a0))))), kfar ?_ (kfar ?_ (kfar ?_ (kfar ?_ (kfar ?_ (kfar ?_ a1))))), kfar ?_ (kfar ?_ (kfar ?_ (kfar ?_ (kfar ?_ (kfar ?_ a2))))), kfar ?_ (kfar ?_ (kfar ?_ (kfar ?_ (kfar ?_ (kfar ?_ a3))))), kfar ?_ (kfar ?_ (kfar ?_ (kfar ?_ (kfar ?_ (kfar ?_ a4))))), kfar ?_ (kfar ?_ (kfar ?_ (kfar ?_ (kfar ?_ (kfar ?_ a5))))), kfar ?_ (kfar ?_ (kfar ?_ (kfar ?_ (kfar ?_ (kfar ?_ b0))))), kfar ?_ (kfar ?_ (kfar ?_ (kfar ?_ (kfar ?_ (kfar ?_ b1)))))⟩) <;> (first | omega | (simp only; omega)))
  clear hK K
  (try simp only [List.getElem_toArray, List.getElem_cons_succ, List.getElem_cons_zero, Act.put, List.setIfInBounds_toArray, List.set_cons_zero, List.set_cons_succ])
  refine wpAnyH_take (i := 11) (oi := _) (v := ?_) rfl (by kernel_rfl) (by kernel_rfl) (by kernel_rfl) (fun _ _ _ h => h) (Or.inl ⟨by rfl, ?_⟩) (by assumption) ?_
  rotate_left
  · intro w hSw; (try dsimp only at hSw); go_simp; (first | done | with_reducible rfl)
  (try simp only [List.getElem_toArray, List.getElem_cons_succ, List.getElem_cons_zero, Act.put, List.setIfInBounds_toArray, List.set_cons_zero, List.set_cons_succ])
  refine wpAnyH_done (by kernel_rfl) ?_ _
  go_wp2_with (fail)
  have HB := hB.out
  obtain ⟨F, hF⟩ : ∃ F, F = ((((((w5.setCell ⟨w.heap.size + 1 + 1, 0, none⟩ (Value.int IntKind.i64 n0)).setCell ⟨w.heap.size + 1 + 1, 1, none⟩ (Value.int IntKind.i64 n1)).setCell ⟨w.heap.size + 1 + 1, 2, none⟩ (Value.int IntKind.i64 n2)).setCell ⟨w.heap.size + 1 + 1, 3, none⟩ (Value.int IntKind.i64 n3)).setCell ⟨w.heap.size + 1 + 1, 4, none⟩ (Value.int IntKind.i64 n4)).setCell ⟨w.heap.size + 1 + 1, 5, none⟩ (Value.int IntKind.i64 n5)) := ⟨_, rfl⟩
  have g := st6 w5 (w.heap.size + 1 + 1) (n0) (n1) (n2) (n3) (n4) (n5) z0 z1 z2 z3 z4 z5
  rw [← hF] at g
  have g0 : F.cell? ⟨w.heap.size + 1 + 1, 0, none⟩ = some (.int .i64 (n0)) := g 0 (by decide)
  have g1 : F.cell? ⟨w.heap.size + 1 + 1, 1, none⟩ = some (.int .i64 (n1)) := g 1 (by decide)
  have g2 : F.cell? ⟨w.heap.size + 1 + 1, 2, none⟩ = some (.int .i64 (n2)) := g 2 (by decide)
  have g3 : F.cell? ⟨w.heap.size + 1 + 1, 3, none⟩ = some (.int .i64 (n3)) := g 3 (by decide)
  have g4 : F.cell? ⟨w.heap.size + 1 + 1, 4, none⟩ = some (.int .i64 (n4)) := g 4 (by decide)
  have g5 : F.cell? ⟨w.heap.size + 1 + 1, 5, none⟩ = some (.int .i64 (n5)) := g 5 (by decide)
  clear g
  have hFB : Hid (Below w.heap.size w F) := by rw [hF]; unfold Hid; (repeat' (first | (with_reducible exact Below.refl _ _) | (with_reducible refine Below.setCell ?_ ?_ _) | (with_reducible refine Below.alloc ?_ ?_ _) | (with_reducible refine Below.drew ?_) | (with_reducible refine below_drewN ?_ _) | (with_reducible assumption) | (with_reducible refine Below.trans ?_ (Below.mono (by with_reducible assumption) ?_)) | omega | (simp; done) | (simp; omega) | (simp [World.setCell]; omega)))
  rw [← hF]
  clear hF
  refine bodyPost_ret (v := .tuple #[.agg #[.int .i64 n0, .int .i64 n1, .int .i64 n2, .int .i64 n3, .int .i64 n4, .int .i64 n5], .int .i64 ek]) (by simp [results, Try.results36, go_sem, g0, g1, g2, g3, g4, g5]) rfl ⟨rfl, hFB.out⟩


end Go.Proofs.Ytpdaigenffecmaa

namespace Go.Proofs.Ytpdaigenffecmaa
open Go Go.RowKit

/-! ### Values as the executor knows them: numbers by letter or as they are; blocks by names of its own -/
inductive AI where
  | lit (i : Int)
  | sym (n : Nat)
  deriving DecidableEq
inductive CV where
  | int (k : IntKind) (x : AI)
  | bool (b : Bool)
  | ptr (b off : Nat)
  | nilp
  | func (f : FuncId) (first caps : List (Nat × Nat))
  | slice (b off len cap : Nat)
  | niliface
  | nilf
  | nils
  deriving DecidableEq
inductive TV where
  | one (c : CV)
  | agg (l : List CV)
  deriving DecidableEq
inductive AV where
  | v (t : TV)
  | tup (l : List TV)
  deriving DecidableEq

def γI (ρ : Nat → Int) : AI → Int
  | .lit i => i
  | .sym n => ρ n
def γP (s : Nat → Nat) (p : Nat × Nat) : Value := .pointer (some ⟨s p.1, p.2, none⟩)
def γC (ρ : Nat → Int) (s : Nat → Nat) : CV → Value
  | .int k x => .int k (γI ρ x)
  | .bool b => .bool b
  | .ptr b o => .pointer (some ⟨s b, o, none⟩)
  | .nilp => .pointer none
  | .func f a c => .func (.func f) (a.map (γP s)).toArray (c.map (γP s)).toArray
  | .slice b o l c => .slice (some ⟨s b, o, none⟩) l c
  | .niliface => .nilIface
  | .nilf => .nilFunc
  | .nils => .slice none 0 0
def γT (ρ : Nat → Int) (s : Nat → Nat) : TV → Value
  | .one c => γC ρ s c
  | .agg l => .agg (l.map (γC ρ s)).toArray
def γ (ρ : Nat → Int) (s : Nat → Nat) : AV → Value
  | .v t => γT ρ s t
  | .tup l => .tuple (l.map (γT ρ s)).toArray

/-! ### The memory that is known -/
structure Blk where
  name : Nat
  wr : Bool
  cs : List CV
  deriving DecidableEq
abbrev Mem := List Blk
def Mem.get : Mem → Nat → Option Blk
  | [], _ => none
  | x :: m, b => if Nat.beq x.name b then some x else Mem.get m b
def Mem.put : Mem → Blk → Mem
  | [], y => [y]
  | x :: m, y => if Nat.beq x.name y.name then y :: m else if Nat.blt x.name y.name then y :: x :: m else x :: Mem.put m y

def TV.cells : TV → List CV
  | .one c => [c]
  | .agg l => l
/-! ### Values that name known blocks only -/
def Mem.has (m : Mem) (b : Nat) : Bool := (m.get b).isSome
def CV.wf (m : Mem) : CV → Bool
  | .ptr b _ => m.has b
  | .func _ a c => a.all (fun p => m.has p.1) && c.all (fun p => m.has p.1)
  | .slice b _ _ _ => m.has b
  | _ => true
def TV.wf (m : Mem) : TV → Bool
  | .one c => c.wf m
  | .agg l => l.all (CV.wf m)
def AV.wf (m : Mem) : AV → Bool
  | .v t => t.wf m
  | .tup l => l.all (TV.wf m)

/-! ### What the executor asks of the types -/
def aggB (P : Program) (t : TypeId) : Option Bool :=
  match P.underlying t with
  | some (.struct _) => some true
  | some (.array _ _) => some true
  | some _ => some false
  | none => none
def sizeB (P : Program) (t : TypeId) : Option Nat := (P.info? t).map (·.size)
def sizesB (P : Program) : List Field → Option (List (Nat × Nat))
  | [] => some []
  | f :: l => match sizeB P f.type, sizesB P l with
    | some n, some r => some ((f.offset, n) :: r)
    | _, _ => none

def reifyC : Value → Option CV
  | .int k n => some (.int k (.lit n))
  | .bool b => some (.bool b)
  | .pointer none => some .nilp
  | .nilIface => some .niliface
  | .nilFunc => some .nilf
  | .slice none 0 0 => some .nils
  | _ => none
def reifyL : List Value → Option (List CV)
  | [] => some []
  | v :: l => match reifyC v, reifyL l with
    | some c, some r => some (c :: r)
    | _, _ => none
def reifyT : Value → Option TV
  | .agg cs => (reifyL cs.toList).map .agg
  | v => (reifyC v).map .one

/-- A list evaluated whole before it is handed on. -/
def force {α β : Type} : List α → (List α → β) → β
  | [], k => k []
  | x :: l, k => force l fun r => k (x :: r)
theorem force_eq {α β : Type} (l : List α) : ∀ k : List α → β, force l k = k l := by
  induction l with
  | nil => intro k; rfl
  | cons x l ih => intro k; simp only [force, ih]

def splice (cs : List CV) (off : Nat) (vs : List CV) : List CV := cs.take off ++ vs ++ cs.drop (off + vs.length)
def setAt : List AV → Nat → AV → List AV
  | [], _, _ => []
  | _ :: l, 0, v => v :: l
  | x :: l, n + 1, v => x :: setAt l n v
def evalA (fr : List AV) : Operand → Option AV
  | .tmp t => fr[t]?
  | .const v => (reifyT v).map .v
  | .global _ => none
  | .func f => some (.v (.one (.func f [] [])))
def evalT (fr : List AV) (x : Operand) : Option TV :=
  match evalA fr x with
  | some (.v t) => some t
  | _ => none
def evalC (fr : List AV) (x : Operand) : Option CV :=
  match evalA fr x with
  | some (.v (.one c)) => some c
  | _ => none
def evalL (fr : List AV) : List Operand → Option (List AV)
  | [] => some []
  | x :: l => match evalA fr x, evalL fr l with
    | some v, some r => some (v :: r)
    | _, _ => none
def ptrsOf : List AV → Option (List (Nat × Nat))
  | [] => some []
  | .v (.one (.ptr b o)) :: l => (ptrsOf l).map ((b, o) :: ·)
  | _ => none

def partA (P : Program) (t : TypeId) (cs : List CV) (off : Nat) : Option TV :=
  match aggB P t with
  | some true => match sizeB P t with
    | some n => some (.agg ((cs.drop off).take n))
    | none => none
  | some false => (cs[off]?).map .one
  | none => none
def loadA (P : Program) (m : Mem) (t : TypeId) (b off : Nat) : Option TV :=
  match m.get b with
  | none => none
  | some x => match aggB P t with
    | some true => match sizeB P t with
      | some n => if Nat.ble (off + n) x.cs.length then some (.agg ((x.cs.drop off).take n)) else none
      | none => none
    | some false => (x.cs[off]?).map .one
    | none => none
def storeA (P : Program) (m : Mem) (t : TypeId) (b off : Nat) (v : TV) : Option Mem :=
  match m.get b with
  | none => none
  | some x => match sizeB P t with
    | some n => if x.wr && Nat.beq v.cells.length n && Nat.ble (off + n) x.cs.length then some (m.put ⟨b, true, splice x.cs off v.cells⟩) else none
    | none => none
def fillA (place : Nat → Option (Nat × Nat)) (cells : List CV) : List (Nat × TV) → Option (List CV)
  | [] => some cells
  | (i, v) :: rest => match place i with
    | none => none
    | some (off, size) => if Nat.beq v.cells.length size && Nat.ble (off + size) cells.length then fillA place (splice cells off v.cells) rest else none
def zeroA (P : Program) (t : TypeId) : Option TV :=
  match P.info? t with
  | some i => match i.zero with
    | some z => reifyT z
    | none => none
  | none => none
def evalParts (fr : List AV) : List (Nat × Operand) → Option (List (Nat × TV))
  | [] => some []
  | (i, x) :: l => match evalT fr x, evalParts fr l with
    | some v, some r => some ((i, v) :: r)
    | _, _ => none
def buildA (P : Program) (t : TypeId) (parts : List (Nat × TV)) : Option TV :=
  match zeroA P t, P.underlying t with
  | some z, some (.struct fs) => match sizesB P fs.toList with
    | some pl => (fillA (fun i => pl[i]?) z.cells parts).map .agg
    | none => none
  | some z, some (.array _ e) => match sizeB P e with
    | some n => (fillA (fun i => some (i * n, n)) z.cells parts).map .agg
    | none => none
  | _, _ => none
def indexA (P : Program) (t : TypeId) (cs : List CV) (i : Int) : Option TV :=
  match P.underlying t with
  | some (.array len e) => match sizeB P e with
    | some n => if 0 ≤ i ∧ i < len then partA P e cs (i.toNat * n) else none
    | none => none
  | _ => none
def fieldA (P : Program) (t : TypeId) (cs : List CV) (f : Nat) : Option TV :=
  match P.underlying t with
  | some (.struct fs) => match fs[f]? with
    | some x => partA P x.type cs x.offset
    | none => none
  | _ => none

/-! ### Operations -/
structure Tab where
  op : Op → List AV → Option AV
  con : FuncId → List AV → Nat → Option (AV × Option (List CV))
def nilA : AV := .tup []
/-- A bound of a slicing: a number as it is, not below 0; or none. -/
def boundA (fr : List AV) : Option Operand → Option (Option Nat)
  | none => some none
  | some x => match evalC fr x with
    | some (.int _ (.lit i)) => if 0 ≤ i then some (some i.toNat) else none
    | _ => none
def pureA (P : Program) (T : Tab) (m : Mem) (fr : List AV) (o : Op) : Option AV :=
  match o with
  | .move x => evalA fr x
  | .assign x => evalA fr x
  | .pick c a b => match evalC fr c with
    | some (.bool true) => evalA fr a
    | some (.bool false) => evalA fr b
    | _ => none
  | .load t a => match evalC fr a with
    | some (.ptr b off) => (loadA P m t b off).map .v
    | _ => none
  | .nilCheck x => match evalC fr x with
    | some (.ptr b o) => some (.v (.one (.ptr b o)))
    | some (.func f a c) => some (.v (.one (.func f a c)))
    | some (.slice b o l c) => some (.v (.one (.slice b o l c)))
    | _ => none
  | .fieldAddr t x f => match evalC fr x, P.underlying t with
    | some (.ptr b o), some (.struct fs) => match fs[f]? with
      | some y => match sizeB P y.type with
        | some (_ + 1) => some (.v (.one (.ptr b (o + y.offset))))
        | _ => none
      | none => none
    | _, _ => none
  | .field t x f => match evalT fr x with
    | some (.agg cs) => (fieldA P t cs f).map .v
    | _ => none
  | .indexAddr t x ix => match evalC fr x, evalC fr ix, P.underlying t with
    | some (.ptr b o), some (.int _ (.lit i)), some (.array len e) => match sizeB P e with
      | some n => if 0 ≤ i ∧ i < len then some (.v (.one (.ptr b (o + i.toNat * n)))) else none
      | none => none
    | some (.slice b o len _), some (.int _ (.lit i)), some (.slice e) => match sizeB P e with
      | some n => if 0 ≤ i ∧ i < len then some (.v (.one (.ptr b (o + i.toNat * n)))) else none
      | none => none
    | _, _, _ => none
  | .index t x ix => match evalT fr x, evalC fr ix with
    | some (.agg cs), some (.int _ (.lit i)) => (indexA P t cs i).map .v
    | _, _ => none
  | .extract x i => match evalA fr x with
    | some (.tup l) => (l[i]?).map .v
    | _ => none
  | .build t parts => match evalParts fr parts.toList with
    | some ps => (buildA P t ps).map .v
    | none => none
  | .makeFunc (.func f) first caps => match evalL fr first.toList, evalL fr caps.toList with
    | some a, some c => match ptrsOf a, ptrsOf c with
      | some a, some c => some (.v (.one (.func f a c)))
      | _, _ => none
    | _, _ => none
  | .slice t x lo hi mx => match evalC fr x, P.underlying t, boundA fr lo, boundA fr hi, mx with
    | some (.slice b o len cap), some (.slice e), some l, some h, none => match sizeB P e with
      | some n =>
        let h := h.getD len
        let l := l.getD 0
        if l ≤ h ∧ h ≤ cap ∧ l < cap then some (.v (.one (.slice b (o + l * n) (h - l) (cap - l)))) else none
      | none => none
    | _, _, _, _, _ => none
  | .unOp .not _ x => match evalC fr x with
    | some (.bool b) => some (.v (.one (.bool (!b))))
    | _ => none
  | .alloc _ => none
  | .box _ _ => none
  | .buildSlice _ _ _ => none
  | .store _ _ _ => none
  | o => match evalL fr o.operands.toList with
    | some vs => T.op o vs
    | none => none

/-- What makes a block, or writes: the value, the memory. -/
def memA (P : Program) (m : Mem) (fr : List AV) (nm : Nat) (o : Op) : Option (AV × Mem) :=
  if m.has nm then none else
  match o with
  | .alloc t => match zeroA P t with
    | some z => if z.cells.all (CV.wf m) then some (.v (.one (.ptr nm 0)), m.put ⟨nm, true, z.cells⟩) else none
    | none => none
  | .box _ x => match evalT fr x with
    | some z => if z.cells.all (CV.wf m) then some (.v (.one (.ptr nm 0)), m.put ⟨nm, true, z.cells⟩) else none
    | none => none
  | .buildSlice t len parts => match P.underlying t, evalParts fr parts.toList with
    | some (.slice e), some ps => match sizeB P e, zeroA P e with
      | some n, some z =>
        if Nat.blt 0 (len * n) && Nat.ble (len * n) 4096 && Nat.beq z.cells.length n then
          match fillA (fun i => some (i * n, n)) ((List.range (len * n)).map fun i => z.cells.getD (i % n) .niliface) ps with
          | some cs => if cs.all (CV.wf m) then some (.v (.one (.slice nm 0 len len)), m.put ⟨nm, true, cs⟩) else none
          | none => none
        else none
      | _, _ => none
    | _, _ => none
  | .store t a x => match evalC fr a, evalT fr x with
    | some (.ptr b off), some v => if v.cells.all (CV.wf m) then (storeA P m t b off v).map fun m' => (nilA, m') else none
    | _, _ => none
  | _ => none

structure St where
  fr : List AV
  m : Mem
  n : Nat
  deriving DecidableEq
abbrev CallFn := FuncId → List AV → Mem → Nat → Option (AV × Mem × Nat)
def ptrsA (l : List (Nat × Nat)) : List AV := l.map fun p => .v (.one (.ptr p.1 p.2))
def targetA (fr : List AV) (c : Call) : Option (FuncId × List AV) :=
  match c.callee with
  | .value f => match evalC fr f, evalL fr c.args.toList with
    | some (.func g a cs), some vs => some (g, ptrsA a ++ vs ++ ptrsA cs)
    | _, _ => none
  | _ => none
def enterable (P : Program) (f : FuncId) : Bool :=
  match P.funcs[f]? with
  | some fn => fn.body.isSome && !(fn.name == "runtime.NumGoroutine")
  | none => false
def putA (st : St) (dst : Option Tmp) (v : AV) : Option St :=
  if v.wf st.m then
    match dst with
    | none => some st
    | some d => force (setAt st.fr d v) fun fr => some { st with fr }
  else none
/-- One operation that is wanted; nm: the name for a block that it makes. -/
def stepA (P : Program) (T : Tab) (call : CallFn) (nm : Nat) (st : St) (o : Oper) : Option St :=
  match pureA P T st.m st.fr o.op with
  | some v => putA st o.dst v
  | none => match o.op with
    | .call c => match targetA st.fr c with
      | some (f, args) => if enterable P f then
          match call f args st.m st.n with
          | some (v, m, n) => putA { st with m, n } o.dst v
          | none => none
        else none
      | none => none
    | op => match memA P st.m st.fr nm op with
      | some (v, m) => putA { st with m } o.dst v
      | none => none

def yieldedA (ops : Array Oper) (fr : List AV) (j : Nat) : Option Bool :=
  match ((ops[j]?).bind (·.dst)).bind (fr[·]?) with
  | some (.v (.one (.bool b))) => some b
  | _ => none
def wantedA (ops : Array Oper) (fr : List AV) (o : Oper) : Bool := Region.wanted o (yieldedA ops fr)

/-- A region in the order of its text. -/
def listA (P : Program) (T : Tab) (call : CallFn) (ops : Array Oper) : List Oper → St → Option St
  | [], st => some st
  | o :: l, st =>
    if wantedA ops st.fr o then
      match stepA P T call st.n { st with n := st.n + 1 } o with
      | some st => listA P T call ops l st
      | none => none
    else match putA st o.dst nilA with
      | some st => listA P T call ops l st
      | none => none

/-! ### A region that draws its order -/
def definer (l : List Oper) (t : Tmp) : Option Op :=
  match l with
  | [] => none
  | o :: l => match o.dst with
    | some d => if Nat.beq d t then some o.op else definer l t
    | none => definer l t
def rootOf (ops : List Oper) (fr : List AV) : Nat → Operand → Option Nat
  | 0, _ => none
  | k + 1, .tmp t => match definer ops t with
    | some (.fieldAddr _ x _) => rootOf ops fr k x
    | some (.indexAddr _ x _) => rootOf ops fr k x
    | some (.nilCheck x) => rootOf ops fr k x
    | some (.move x) => rootOf ops fr k x
    | some _ => none
    | none => match fr[t]? with
      | some (.v (.one (.ptr b _))) => some b
      | some (.v (.one (.slice b _ _ _))) => some b
      | _ => none
  | _ + 1, _ => none
def rootsOf (ops : List Oper) (fr : List AV) (loads : Bool) : List Oper → List Nat
  | [] => []
  | o :: l => match o.op, loads with
    | .load _ a, true => match rootOf ops fr 8 a with
      | some b => b :: rootsOf ops fr loads l
      | none => rootsOf ops fr loads l
    | .store _ a _, false => match rootOf ops fr 8 a with
      | some b => b :: rootsOf ops fr loads l
      | none => rootsOf ops fr loads l
    | _, _ => rootsOf ops fr loads l
def heldA (ops : Array Oper) (st : St) : Mem :=
  let ls := rootsOf ops.toList st.fr true ops.toList
  let ss := rootsOf ops.toList st.fr false ops.toList
  st.m.filter fun x => ls.any (Nat.beq x.name ·) && !(ss.any (Nat.beq x.name ·))
def subM (a m : Mem) : Bool := a.all fun x => match m.get x.name with
  | some y => decide (y = x)
  | none => false
/-- The first of those that may come up that may be taken first: its number and value. -/
def takeA (P : Program) (T : Tab) (ops : Array Oper) (mS : Mem) (listed : Array Bool) (fr : List AV) : List Nat → Option (Nat × Oper × AV)
  | [] => none
  | i :: l => match ops[i]? with
    | none => takeA P T ops mS listed fr l
    | some o =>
      if wantedA ops fr o then
        match pureA P T mS fr o.op with
        | some v => if Region.free .any ops listed i then some (i, o, v) else takeA P T ops mS listed fr l
        | none => takeA P T ops mS listed fr l
      else if Region.free .any ops listed i then some (i, o, nilA) else takeA P T ops mS listed fr l
def allSame (f : Nat → Option St) : List Nat → Option St
  | [] => none
  | i :: l => match l with
    | [] => f i
    | _ :: _ => match f i, allSame f l with
      | some a, some b => if a = b then some a else none
      | _, _ => none
def anyA (P : Program) (T : Tab) (call : CallFn) (ops : Array Oper) (mS : Mem) (b0 : Nat) : Nat → Array Bool → St → Option St
  | 0, _, _ => none
  | k + 1, listed, st =>
    let rs := Region.ready .any ops listed
    match rs with
    | [] => some st
    | _ :: _ => match takeA P T ops mS listed st.fr rs with
      | some (i, o, v) => match putA st o.dst v with
        | some st => anyA P T call ops mS b0 k (listed.setIfInBounds i true) st
        | none => none
      | none => allSame (fun i => match ops[i]? with
        | none => none
        | some o =>
          if wantedA ops st.fr o then
            match stepA P T call (b0 + i) st o with
            | some st => if subM mS st.m then anyA P T call ops mS b0 k (listed.setIfInBounds i true) st else none
            | none => none
          else match putA st o.dst nilA with
            | some st => anyA P T call ops mS b0 k (listed.setIfInBounds i true) st
            | none => none) rs

/-! ### Code -/
inductive XX where
  | nor
  | exit (id : Nat)
  | ret
def XX.toExit : XX → Exit
  | .nor => .normal
  | .exit i => .exit i
  | .ret => .ret
def loopA (f : St → Option (XX × St)) : Nat → St → Option (XX × St)
  | 0, _ => none
  | n + 1, st => match f st with
    | some (.nor, st) => loopA f n st
    | r => r
def execA (P : Program) (T : Tab) (call : CallFn) : Code → St → Option (XX × St)
  | .skip, st => some (.nor, st)
  | .label _, st => some (.nor, st)
  | .region _ ops false, st => (listA P T call ops ops.toList st).map fun st => (.nor, st)
  | .region _ ops true, st =>
    if Region.noSelect ops && P.follows .mixedOrders then
      let mS := heldA ops st
      if subM mS st.m then (anyA P T call ops mS st.n (ops.size + 1) (Array.replicate ops.size false) { st with n := st.n + ops.size }).map fun st => (.nor, st) else none
    else none
  | .seq a b, st => match execA P T call a st with
    | some (.nor, st) => execA P T call b st
    | r => r
  | .cond c a b, st => match evalC st.fr c with
    | some (.bool true) => execA P T call a st
    | some (.bool false) => execA P T call b st
    | _ => none
  | .block id c, st => match execA P T call c st with
    | some (.exit i, st) => if i = id then some (.nor, st) else some (.exit i, st)
    | r => r
  | .loop c, st => loopA (execA P T call c) 1000 st
  | .exit id, st => some (.exit id, st)
  | .scope c, st => execA P T call c st
  | .ret, st => some (.ret, st)
  | _, _ => none

def resultsA (P : Program) (st : St) : List ResultVar → Option (List TV)
  | [] => some []
  | .tmp t :: l => match st.fr[t]?, resultsA P st l with
    | some (.v x), some r => some (x :: r)
    | _, _ => none
  | .cell a t :: l => match st.fr[a]?, resultsA P st l with
    | some (.v (.one (.ptr b o))), some r => (loadA P st.m t b o).map (· :: r)
    | _, _ => none
def packA : List TV → AV
  | [x] => .v x
  | l => .tup l
/-- A call: by its contract, else by its body; d: how deep bodies are entered. -/
def callA (P : Program) (T : Tab) : Nat → CallFn
  | 0, _, _, _, _ => none
  | d + 1, f, args, m, n =>
    match T.con f args n with
    | some (v, none) => some (v, m, n)
    | some (v, some cs) => if m.has n then none else if cs.all (CV.wf m) then some (v, m.put ⟨n, false, cs⟩, n + 1) else none
    | none => match P.funcs[f]? with
      | some fn => match fn.body with
        | some c =>
          match execA P T (callA P T d) c ⟨args ++ List.replicate (fn.ntmps - args.length) nilA, m, n⟩ with
          | some (.nor, st) => (resultsA P st fn.results.toList).map fun r => (packA r, st.m, st.n)
          | some (.ret, st) => (resultsA P st fn.results.toList).map fun r => (packA r, st.m, st.n)
          | _ => none
        | none => none
      | none => none
/-- A function from nothing: what it answers. -/
def runA (P : Program) (T : Tab) (d : Nat) (f : FuncId) (args : List AV) : Option AV :=
  (callA P T d f args [] 0).map (·.1)

end Go.Proofs.Ytpdaigenffecmaa

namespace Go.Proofs.Ytpdaigenffecmaa
open Go Go.RowKit

section
variable {P : Program} {ρ : Nat → Int} {s s' : Nat → Nat} {m m' : Mem} {w w' : World}

/-! ### Names -/
def Ext (m : Mem) (s s' : Nat → Nat) : Prop := ∀ b, m.has b = true → s' b = s b
theorem Ext.refl : Ext m s s := fun _ _ => rfl
def Grows (m m' : Mem) : Prop := ∀ b, m.has b = true → m'.has b = true
theorem Grows.refl : Grows m m := fun _ h => h
theorem Grows.trans {m'' : Mem} (h : Grows m m') (k : Grows m' m'') : Grows m m'' := fun b hb => k b (h b hb)
theorem Ext.trans {s'' : Nat → Nat} (h : Ext m s s') (g : Grows m m') (k : Ext m' s' s'') : Ext m s s'' := fun b hb => (k b (g b hb)).trans (h b hb)

theorem γP_ext (h : Ext m s s') {p : Nat × Nat} (hp : m.has p.1 = true) : γP s' p = γP s p := by simp [γP, h p.1 hp]
theorem γPs_ext (h : Ext m s s') {l : List (Nat × Nat)} (hl : l.all (fun p => m.has p.1) = true) : l.map (γP s') = l.map (γP s) :=
  List.map_congr_left fun p hp => γP_ext h (List.all_eq_true.1 hl p hp)
theorem γC_ext (h : Ext m s s') {c : CV} (hc : c.wf m = true) : γC ρ s' c = γC ρ s c := by
  cases c with
  | ptr b o => simp [γC, h b hc]
  | slice b o l k => simp [γC, h b hc]
  | func f a c =>
    simp only [CV.wf, Bool.and_eq_true] at hc
    simp only [γC, γPs_ext h hc.1, γPs_ext h hc.2]
  | _ => rfl
theorem γCs_ext (h : Ext m s s') {l : List CV} (hl : l.all (CV.wf m) = true) : l.map (γC ρ s') = l.map (γC ρ s) :=
  List.map_congr_left fun c hc => γC_ext h (List.all_eq_true.1 hl c hc)
theorem γT_ext (h : Ext m s s') {t : TV} (ht : t.wf m = true) : γT ρ s' t = γT ρ s t := by
  cases t with
  | one c => exact γC_ext h ht
  | agg l => simp only [γT, γCs_ext h ht]
theorem γ_ext (h : Ext m s s') {v : AV} (hv : v.wf m = true) : γ ρ s' v = γ ρ s v := by
  cases v with
  | v t => exact γT_ext h hv
  | tup l =>
    have : l.map (γT ρ s') = l.map (γT ρ s) := List.map_congr_left fun c hc => γT_ext h (List.all_eq_true.1 hv c hc)
    simp only [γ, this]
theorem γs_ext (h : Ext m s s') {l : List AV} (hl : ∀ v ∈ l, v.wf m = true) : l.map (γ ρ s') = l.map (γ ρ s) :=
  List.map_congr_left fun v hv => γ_ext h (hl v hv)

theorem CV.wf_grows (g : Grows m m') {c : CV} (h : c.wf m = true) : c.wf m' = true := by
  cases c with
  | ptr b o => exact g b h
  | slice b o l k => exact g b h
  | func f a c =>
    simp only [CV.wf, Bool.and_eq_true, List.all_eq_true] at h ⊢
    exact ⟨fun p hp => g _ (h.1 p hp), fun p hp => g _ (h.2 p hp)⟩
  | _ => rfl
theorem CVs_wf_grows (g : Grows m m') {l : List CV} (h : l.all (CV.wf m) = true) : l.all (CV.wf m') = true := by
  rw [List.all_eq_true] at *
  exact fun c hc => CV.wf_grows g (h c hc)
theorem TV.wf_grows (g : Grows m m') {t : TV} (h : t.wf m = true) : t.wf m' = true := by
  cases t with
  | one c => exact CV.wf_grows g h
  | agg l => exact CVs_wf_grows g h
theorem AV.wf_grows (g : Grows m m') {v : AV} (h : v.wf m = true) : v.wf m' = true := by
  cases v with
  | v t => exact TV.wf_grows g h
  | tup l =>
    simp only [AV.wf, List.all_eq_true] at *
    exact fun c hc => TV.wf_grows g (h c hc)

/-! ### The memory's words -/
theorem Mem.get_name {b : Nat} {x : Blk} : ∀ {m : Mem}, m.get b = some x → x.name = b
  | [], h => by simp [Mem.get] at h
  | y :: m, h => by
    simp only [Mem.get] at h
    split at h
    · rename_i e; cases h; exact Nat.eq_of_beq_eq_true e
    · exact Mem.get_name h
theorem Mem.get_put (y : Blk) (b : Nat) : ∀ m : Mem, (m.put y).get b = if y.name = b then some y else m.get b
  | [] => by
    simp only [Mem.put, Mem.get]
    by_cases h : y.name = b
    · rw [if_pos h, if_pos (by simp [h])]
    · rw [if_neg h, if_neg (by simp [h])]
  | x :: m => by
    have ih := Mem.get_put y b m
    have hx : ∀ a c : Nat, (Nat.beq a c = true) = (a = c) := fun a c => by simp
    simp only [Mem.put]
    by_cases h1 : x.name = y.name
    · rw [if_pos (by simp [h1])]
      simp only [Mem.get, hx, h1]
      split <;> simp_all
    · rw [if_neg (by simp [h1])]
      by_cases h2 : x.name < y.name
      · rw [if_pos (by simpa [Nat.blt_eq] using h2)]
        simp only [Mem.get, hx]
      · rw [if_neg (by simpa [Nat.blt_eq] using h2)]
        simp only [Mem.get, hx, ih]
        by_cases h3 : x.name = b
        · rw [if_pos h3, if_neg (by omega), if_pos h3]
        · rw [if_neg h3, if_neg h3]
theorem grows_put (m : Mem) (y : Blk) : Grows m (m.put y) := fun b h => by
  unfold Mem.has at *
  rw [Mem.get_put]
  split
  · rfl
  · exact h
theorem has_put (m : Mem) (y : Blk) : (m.put y).has y.name = true := by
  unfold Mem.has
  rw [Mem.get_put, if_pos rfl]; rfl

/-- The known cells lie in the world. -/
def Cells (ρ : Nat → Int) (s : Nat → Nat) (m : Mem) (w : World) : Prop :=
  ∀ b x, m.get b = some x → ∀ j c, x.cs[j]? = some c → w.cell? ⟨s b, j, none⟩ = some (γC ρ s c)

/-! ### Frames -/
def act (ρ : Nat → Int) (s : Nat → Nat) (fr : List AV) : Act := ⟨(fr.map (γ ρ s)).toArray, []⟩

theorem reifyC_ok {v : Value} {c : CV} (h : reifyC v = some c) : γC ρ s c = v := by
  unfold reifyC at h
  split at h <;> first | (cases h; rfl) | cases h
theorem reifyL_ok : ∀ {l : List Value} {cs : List CV}, reifyL l = some cs → cs.map (γC ρ s) = l
  | [], cs, h => by simp [reifyL] at h; subst h; rfl
  | v :: l, cs, h => by
    simp only [reifyL] at h
    split at h
    · rename_i c r h1 h2
      cases h
      simp [reifyC_ok h1, reifyL_ok h2]
    · cases h
theorem reifyT_ok {v : Value} {t : TV} (h : reifyT v = some t) : γT ρ s t = v := by
  unfold reifyT at h
  split at h
  · rename_i cs
    cases hl : reifyL cs.toList with
    | none => simp [hl] at h
    | some l =>
      simp [hl] at h; subst h
      simp [γT, reifyL_ok hl]
  · cases hl : reifyC v with
    | none => simp [hl] at h
    | some l => simp [hl] at h; subst h; exact reifyC_ok hl

variable {fr : List AV}
theorem evalA_ok {x : Operand} {v : AV} (h : evalA fr x = some v) : (act ρ s fr).eval x = γ ρ s v := by
  cases x with
  | tmp t =>
    simp only [evalA] at h
    simp [Act.eval, act, Array.getD_eq_getD_getElem?, h]
  | const u =>
    simp only [evalA] at h
    cases hr : reifyT u with
    | none => simp [hr] at h
    | some t => simp [hr] at h; subst h; exact (reifyT_ok hr).symm
  | global g => cases h
  | func f => simp only [evalA] at h; cases h; rfl
theorem evalT_ok {x : Operand} {t : TV} (h : evalT fr x = some t) : (act ρ s fr).eval x = γT ρ s t := by
  unfold evalT at h
  split at h
  · rename_i e; cases h; exact evalA_ok e
  · cases h
theorem evalC_ok {x : Operand} {c : CV} (h : evalC fr x = some c) : (act ρ s fr).eval x = γC ρ s c := by
  unfold evalC at h
  split at h
  · rename_i e; cases h; exact evalA_ok e
  · cases h
theorem evalL_ok : ∀ {l : List Operand} {vs : List AV}, evalL fr l = some vs → l.map (act ρ s fr).eval = vs.map (γ ρ s)
  | [], vs, h => by simp [evalL] at h; subst h; rfl
  | x :: l, vs, h => by
    simp only [evalL] at h
    split at h
    · rename_i v r h1 h2
      cases h
      simp [evalA_ok h1, evalL_ok h2]
    · cases h
theorem evalParts_ok : ∀ {l : List (Nat × Operand)} {ps : List (Nat × TV)}, evalParts fr l = some ps →
    l.map (fun p => (p.1, (act ρ s fr).eval p.2)) = ps.map (fun p => (p.1, γT ρ s p.2))
  | [], ps, h => by simp [evalParts] at h; subst h; rfl
  | (i, x) :: l, ps, h => by
    simp only [evalParts] at h
    split at h
    · rename_i v r h1 h2
      cases h
      simp [evalT_ok h1, evalParts_ok h2]
    · cases h
theorem ptrsOf_ok : ∀ {l : List AV} {ps : List (Nat × Nat)}, ptrsOf l = some ps → l.map (γ ρ s) = ps.map (γP s)
  | [], ps, h => by simp [ptrsOf] at h; subst h; rfl
  | .v (.one (.ptr b o)) :: l, ps, h => by
    simp only [ptrsOf] at h
    cases hl : ptrsOf l with
    | none => simp [hl] at h
    | some r => simp [hl] at h; subst h; simp [ptrsOf_ok hl, γ, γT, γC, γP]
  | .v (.one (.int _ _)) :: l, ps, h => by simp [ptrsOf] at h
  | .v (.one (.bool _)) :: l, ps, h => by simp [ptrsOf] at h
  | .v (.one .nilp) :: l, ps, h => by simp [ptrsOf] at h
  | .v (.one (.func _ _ _)) :: l, ps, h => by simp [ptrsOf] at h
  | .v (.one (.slice _ _ _ _)) :: l, ps, h => by simp [ptrsOf] at h
  | .v (.one .niliface) :: l, ps, h => by simp [ptrsOf] at h
  | .v (.one .nilf) :: l, ps, h => by simp [ptrsOf] at h
  | .v (.one .nils) :: l, ps, h => by simp [ptrsOf] at h
  | .v (.agg _) :: l, ps, h => by simp [ptrsOf] at h
  | .tup _ :: l, ps, h => by simp [ptrsOf] at h
theorem setAt_map {α β : Type} (f : AV → Value) : ∀ (l : List AV) (d : Nat) (v : AV), (setAt l d v).map f = (l.map f).set d (f v)
  | [], _, _ => by simp [setAt]
  | x :: l, 0, v => by simp [setAt]
  | x :: l, d + 1, v => by simp [setAt, setAt_map (α := α) (β := β) f l d v]
theorem act_put (d : Tmp) (v : AV) : (act ρ s fr).put (some d) (γ ρ s v) = act ρ s (setAt fr d v) := by
  simp [Act.put, act, setAt_map (α := Unit) (β := Unit)]
theorem mem_setAt : ∀ {l : List AV} {d : Nat} {v u : AV}, u ∈ setAt l d v → u = v ∨ u ∈ l
  | [], _, _, _, h => by simp [setAt] at h
  | x :: l, 0, v, u, h => by
    simp only [setAt, List.mem_cons] at h ⊢
    exact h.imp id .inr
  | x :: l, d + 1, v, u, h => by
    simp only [setAt, List.mem_cons] at h ⊢
    rcases h with h | h
    · exact .inr (.inl h)
    · rcases mem_setAt h with h | h
      · exact .inl h
      · exact .inr (.inr h)

end
end Go.Proofs.Ytpdaigenffecmaa
