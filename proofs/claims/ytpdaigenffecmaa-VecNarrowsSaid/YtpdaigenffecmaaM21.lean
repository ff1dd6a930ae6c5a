/-
  Package vec: norm. Package vec: all, of one vector, the zero vector too; Check. Package vec: all, of two vectors, neither of them the zero vector.
-/
import Derived.Test.YtpdaigenffecmaaM20
set_option linter.all false
namespace Go.Proofs.Ytpdaigenffecmaa
open Go.RowKit Go.Shelf

set_option maxHeartbeats 1000000 in
theorem c_norm (p : Nat) (x0 x1 x2 x3 x4 x5 e0 : Int) (w : World) (hp : p < w.heap.size) (hc : w.cell? ⟨p, 0, none⟩ = some (.int .i64 e0)) (hf : w.frozen? ⟨p, 0, none⟩ = false) :
    Calls Try.prog 70 #[.pointer (some ⟨p, 0, none⟩), .agg #[.int .i64 x0, .int .i64 x1, .int .i64 x2, .int .i64 x3, .int .i64 x4, .int .i64 x5]] w
      (Took p (.agg #[.int .i64 (norm3 (spPow (x0, x1) 2) (spPow (x2, x3) 2) (spPow (x4, x5) 2)).1, .int .i64 (norm3 (spPow (x0, x1) 2) (spPow (x2, x3) 2) (spPow (x4, x5) 2)).2.1]) (normE e0 (spPow (x0, x1) 2) (spPow (x2, x3) 2) (spPow (x4, x5) 2)) w) := by
  obtain ⟨ra, hra⟩ : ∃ r, r = spPow (x0, x1) 2 := ⟨_, rfl⟩
  obtain ⟨rb, hrb⟩ : ∃ r, r = spPow (x2, x3) 2 := ⟨_, rfl⟩
  obtain ⟨rc, hrc⟩ : ∃ r, r = spPow (x4, x5) 2 := ⟨_, rfl⟩
  rw [← hra, ← hrb, ← hrc]
  obtain ⟨em, hem⟩ : ∃ e, e = errTo e0 ra.2.2 rb.2.2 rc.2.2 3 := ⟨_, rfl⟩
  obtain ⟨r1, hr1⟩ : ∃ r, r = spAdd (ra.1, ra.2.1) (rb.1, rb.2.1) := ⟨_, rfl⟩
  obtain ⟨r2, hr2⟩ : ∃ r, r = spAdd (r1.1, r1.2.1) (rc.1, rc.2.1) := ⟨_, rfl⟩
  obtain ⟨r3, hr3⟩ : ∃ r, r = spSqrt (r2.1, r2.2.1) := ⟨_, rfl⟩
  have q1 : norm3 ra rb rc = r3 := by rw [hr3, hr2, hr1]; rfl
  have q2 : normE e0 ra rb rc = fst2 (fst2 (fst2 em r1.2.2) r2.2.2) r3.2.2 := by rw [hr3, hr2, hr1, hem]; rfl
  rw [q1, q2]
  clear q1 q2
  have HEM := Lib.hid hem; clear hem
  have HR1 := Lib.hid hr1; clear hr1
  have HR2 := Lib.hid hr2; clear hr2
  have HR3 := Lib.hid hr3; clear hr3
  have HRA := Lib.hid hra; clear hra
  have HRB := Lib.hid hrb; clear hrb
  have HRC := Lib.hid hrc; clear hrc
  obtain ⟨q, hq⟩ : ∃ q, q = w.heap.size := ⟨_, rfl⟩
  obtain ⟨W, hW⟩ : ∃ W, W = ((w.alloc (Obj.cells #[.pointer (some ⟨p, 0, none⟩)] 103)).alloc (Obj.cells #[Value.int IntKind.i64 x0, Value.int IntKind.i64 x1, Value.int IntKind.i64 x2, Value.int IntKind.i64 x3, Value.int IntKind.i64 x4, Value.int IntKind.i64 x5] 25)).alloc (Obj.cells #[Value.int IntKind.i64 0, Value.int IntKind.i64 0] 23) := ⟨_, rfl⟩
  have hsW : w.heap.size + 1 + 1 < W.heap.size := by rw [hW]; simp
  have hcP : W.cell? ⟨p, 0, none⟩ = some (.int .i64 e0) := by rw [hW]; exact (World.cell?_alloc_past _ _ _ (by first | omega | (simp [go_sem]; done) | (simp [go_sem]; omega))).trans ((World.cell?_alloc_past _ _ _ (by first | omega | (simp [go_sem]; done) | (simp [go_sem]; omega))).trans ((World.cell?_alloc_past _ _ _ (by first | omega | (simp [go_sem]; done) | (simp [go_sem]; omega))).trans (hc)))
  have hfP : W.frozen? ⟨p, 0, none⟩ = false := by rw [hW]; exact (World.frozen?_alloc_past _ _ _ (by first | omega | (simp [go_sem]; done) | (simp [go_sem]; omega))).trans ((World.frozen?_alloc_past _ _ _ (by first | omega | (simp [go_sem]; done) | (simp [go_sem]; omega))).trans ((World.frozen?_alloc_past _ _ _ (by first | omega | (simp [go_sem]; done) | (simp [go_sem]; omega))).trans (hf)))
  have hqc : W.cell? ⟨w.heap.size, 0, none⟩ = some (.pointer (some ⟨p, 0, none⟩)) := by rw [hW]; simp [go_sem]
  have hB : Hid (OnlyB p w W) := by rw [hW]; unfold Hid; (repeat' (first | (with_reducible exact OnlyB.refl _ _) | (with_reducible refine OnlyB.set ?_ _ _ ?_) | (with_reducible refine OnlyB.alloc ?_ _) | (with_reducible refine OnlyB.drew ?_) | (with_reducible assumption) | (with_reducible refine OnlyB.of_below ?_ (by with_reducible assumption) ?_) | (with_reducible refine OnlyB.trans ?_ (by with_reducible assumption)) | omega | (simp; done) | (simp; omega)))
  have z0 : W.cell? ⟨w.heap.size + 1 + 1, 0, none⟩ = some (.int .i64 0) := by rw [hW]; simp [go_sem]
  have z1 : W.cell? ⟨w.heap.size + 1 + 1, 1, none⟩ = some (.int .i64 0) := by rw [hW]; simp [go_sem]
  have s0 : W.frozen? ⟨w.heap.size + 1 + 1, 0, none⟩ = false := by rw [hW]; simp [go_sem]
  have s1 : W.frozen? ⟨w.heap.size + 1 + 1, 1, none⟩ = false := by rw [hW]; simp [go_sem]
  clear hc hf hq q
  go_enter Try.func70, Try.ntmps70
  go_wp2_with (fail)
  rw [← hW]
  clear hW
  go_at_call 64
  refine Calls.mono (c_each_sqr w.heap.size p x0 x1 x2 x3 x4 x5 x0 x1 x2 x3 x4 x5 e0 W (by omega) (by omega) (by omega) hqc hcP hfP) ?_
  rw [← HRA.out, ← HRB.out, ← HRC.out]
  rintro e w2 ⟨rfl, ho2, hcN, hfN⟩
  rw [← HEM.out] at hcN
  replace hcP := hcN
  replace hfP := hfN
  replace hqc : w2.cell? ⟨w.heap.size, 0, none⟩ = some (.pointer (some ⟨p, 0, none⟩)) := (ho2.cell (by omega) (by omega)).trans hqc
  have hs2 := ho2.size
  (replace z0 := ko ho2 (by omega) (by omega) z0); (replace z1 := ko ho2 (by omega) (by omega) z1); (replace s0 := kof ho2 (by omega) (by omega) s0); (replace s1 := kof ho2 (by omega) (by omega) s1)
  obtain ⟨V, hV⟩ : ∃ V, V = w2.alloc (Obj.cells #[Value.int IntKind.i64 ra.1, Value.int IntKind.i64 ra.2.1, Value.int IntKind.i64 rb.1, Value.int IntKind.i64 rb.2.1, Value.int IntKind.i64 rc.1, Value.int IntKind.i64 rc.2.1] 25) := ⟨_, rfl⟩
  have hsV : w2.heap.size < V.heap.size := by rw [hV]; simp
  replace hcP : V.cell? ⟨p, 0, none⟩ = some (.int .i64 em) := by rw [hV]; exact (World.cell?_alloc_past _ _ _ (by first | omega | (simp [go_sem]; done) | (simp [go_sem]; omega))).trans (hcP)
  replace hfP : V.frozen? ⟨p, 0, none⟩ = false := by rw [hV]; exact (World.frozen?_alloc_past _ _ _ (by first | omega | (simp [go_sem]; done) | (simp [go_sem]; omega))).trans (hfP)
  replace hqc : V.cell? ⟨w.heap.size, 0, none⟩ = some (.pointer (some ⟨p, 0, none⟩)) := by rw [hV]; exact (World.cell?_alloc_past _ _ _ (by first | omega | (simp [go_sem]; done) | (simp [go_sem]; omega))).trans (hqc)
  have HOV : Hid (OnlyB p w2 V) := by rw [hV]; unfold Hid; (repeat' (first | (with_reducible exact OnlyB.refl _ _) | (with_reducible refine OnlyB.set ?_ _ _ ?_) | (with_reducible refine OnlyB.alloc ?_ _) | (with_reducible refine OnlyB.drew ?_) | (with_reducible assumption) | (with_reducible refine OnlyB.of_below ?_ (by with_reducible assumption) ?_) | (with_reducible refine OnlyB.trans ?_ (by with_reducible assumption)) | omega | (simp; done) | (simp; omega)))
  have t0 : V.cell? ⟨w2.heap.size, 0, none⟩ = some (.int .i64 ra.1) := by rw [hV]; simp [go_sem]
  have t1 : V.cell? ⟨w2.heap.size, 1, none⟩ = some (.int .i64 ra.2.1) := by rw [hV]; simp [go_sem]
  have t2 : V.cell? ⟨w2.heap.size, 2, none⟩ = some (.int .i64 rb.1) := by rw [hV]; simp [go_sem]
  have t3 : V.cell? ⟨w2.heap.size, 3, none⟩ = some (.int .i64 rb.2.1) := by rw [hV]; simp [go_sem]
  have t4 : V.cell? ⟨w2.heap.size, 4, none⟩ = some (.int .i64 rc.1) := by rw [hV]; simp [go_sem]
  have t5 : V.cell? ⟨w2.heap.size, 5, none⟩ = some (.int .i64 rc.2.1) := by rw [hV]; simp [go_sem]
  replace z0 : V.cell? ⟨w.heap.size + 1 + 1, 0, none⟩ = some (.int .i64 0) := by rw [hV]; exact (World.cell?_alloc_past _ _ _ (by first | omega | (simp [go_sem]; done) | (simp [go_sem]; omega))).trans (z0)
  replace z1 : V.cell? ⟨w.heap.size + 1 + 1, 1, none⟩ = some (.int .i64 0) := by rw [hV]; exact (World.cell?_alloc_past _ _ _ (by first | omega | (simp [go_sem]; done) | (simp [go_sem]; omega))).trans (z1)
  replace s0 : V.frozen? ⟨w.heap.size + 1 + 1, 0, none⟩ = false := by rw [hV]; exact (World.frozen?_alloc_past _ _ _ (by first | omega | (simp [go_sem]; done) | (simp [go_sem]; omega))).trans (s0)
  replace s1 : V.frozen? ⟨w.heap.size + 1 + 1, 1, none⟩ = false := by rw [hV]; exact (World.frozen?_alloc_past _ _ _ (by first | omega | (simp [go_sem]; done) | (simp [go_sem]; omega))).trans (s1)
  go_wp2_with (fail)
  rw [← hV]; clear hV
  go_region_held3 (fun w' => w'.cell? ⟨w.heap.size, 0, none⟩ = some (.pointer (some ⟨p, 0, none⟩)) ∧ w'.cell? ⟨w2.heap.size, 0, none⟩ = some (.int .i64 ra.1) ∧ w'.cell? ⟨w2.heap.size, 1, none⟩ = some (.int .i64 ra.2.1) ∧ w'.cell? ⟨w2.heap.size, 2, none⟩ = some (.int .i64 rb.1) ∧ w'.cell? ⟨w2.heap.size, 3, none⟩ = some (.int .i64 rb.2.1) ∧ w'.cell? ⟨w2.heap.size, 4, none⟩ = some (.int .i64 rc.1) ∧ w'.cell? ⟨w2.heap.size, 5, none⟩ = some (.int .i64 rc.2.1)) (first | exact ⟨hqc, t0, t1, t2, t3, t4, t5⟩ | exact ⟨(World.cell?_setCell_far _ _ _ _ (by simp only; omega)).trans ((World.cell?_setCell_far _ _ _ _ (by simp only; omega)).trans (hqc)), (World.cell?_setCell_far _ _ _ _ (by simp only; omega)).trans ((World.cell?_setCell_far _ _ _ _ (by simp only; omega)).trans (t0)), (World.cell?_setCell_far _ _ _ _ (by simp only; omega)).trans ((World.cell?_setCell_far _ _ _ _ (by simp only; omega)).trans (t1)), (World.cell?_setCell_far _ _ _ _ (by simp only; omega)).trans ((World.cell?_setCell_far _ _ _ _ (by simp only; omega)).trans (t2)), (World.cell?_setCell_far _ _ _ _ (by simp only; omega)).trans ((World.cell?_setCell_far _ _ _ _ (by simp only; omega)).trans (t3)), (World.cell?_setCell_far _ _ _ _ (by simp only; omega)).trans ((World.cell?_setCell_far _ _ _ _ (by simp only; omega)).trans (t4)), (World.cell?_setCell_far _ _ _ _ (by simp only; omega)).trans ((World.cell?_setCell_far _ _ _ _ (by simp only; omega)).trans (t5))⟩) (first | (go_at_call 120; refine (c_take6 p r3.1 r3.2.1 (fst2 (fst2 em r1.2.2) r2.2.2) r3.2.2 w5 (show p < w5.heap.size by omega) hcP hfP).mono ?_; rintro e w6 ⟨rfl, ho6, hcN, hfN⟩; (replace hcP := hcN); (replace hfP := hfN); (have hs6 := ho6.size); (replace hqc : w6.cell? ⟨w.heap.size, 0, none⟩ = some (.pointer (some ⟨p, 0, none⟩)) := (ho6.cell (by omega) (by omega)).trans hqc); (replace z0 := ko ho6 (by omega) (by omega) z0); (replace z1 := ko ho6 (by omega) (by omega) z1); (replace t0 := ko ho6 (by omega) (by omega) t0); (replace t1 := ko ho6 (by omega) (by omega) t1); (replace t2 := ko ho6 (by omega) (by omega) t2); (replace t3 := ko ho6 (by omega) (by omega) t3); (replace t4 := ko ho6 (by omega) (by omega) t4); (replace t5 := ko ho6 (by omega) (by omega) t5); (replace s0 := kof ho6 (by omega) (by omega) s0); (replace s1 := kof ho6 (by omega) (by omega) s1)) | (go_at_call 107; refine (c_spanSqrt r2.1 r2.2.1 w4).mono ?_; rw [← HR3.out]; rintro e w5 ⟨rfl, hb5⟩; (have hs5 := hb5.size); (replace hcP : w5.cell? ⟨p, 0, none⟩ = some (.int .i64 (fst2 (fst2 em r1.2.2) r2.2.2)) := ((bcell hb5).1 _ _ (by omega)).trans hcP); (replace hfP : w5.frozen? ⟨p, 0, none⟩ = false := ((bcell hb5).2 _ _ (by omega)).trans hfP); (replace hqc : w5.cell? ⟨w.heap.size, 0, none⟩ = some (.pointer (some ⟨p, 0, none⟩)) := ((bcell hb5).1 _ _ (by omega)).trans hqc); (replace z0 := kp hb5 (by omega) z0); (replace z1 := kp hb5 (by omega) z1); (replace t0 := kp hb5 (by omega) t0); (replace t1 := kp hb5 (by omega) t1); (replace t2 := kp hb5 (by omega) t2); (replace t3 := kp hb5 (by omega) t3); (replace t4 := kp hb5 (by omega) t4); (replace t5 := kp hb5 (by omega) t5); (replace s0 := kf hb5 (by omega) s0); (replace s1 := kf hb5 (by omega) s1)) | (go_at_call 65; refine (c_step_add p r1.1 r1.2.1 rc.1 rc.2.1 (fst2 em r1.2.2) w3 (show p < w3.heap.size by omega) hcP hfP).mono ?_; rw [← HR2.out]; rintro e w4 ⟨rfl, ho4, hcN, hfN⟩; (replace hcP := hcN); (replace hfP := hfN); (have hs4 := ho4.size); (replace hqc : w4.cell? ⟨w.heap.size, 0, none⟩ = some (.pointer (some ⟨p, 0, none⟩)) := (ho4.cell (by omega) (by omega)).trans hqc); (replace z0 := ko ho4 (by omega) (by omega) z0); (replace z1 := ko ho4 (by omega) (by omega) z1); (replace t0 := ko ho4 (by omega) (by omega) t0); (replace t1 := ko ho4 (by omega) (by omega) t1); (replace t2 := ko ho4 (by omega) (by omega) t2); (replace t3 := ko ho4 (by omega) (by omega) t3); (replace t4 := ko ho4 (by omega) (by omega) t4); (replace t5 := ko ho4 (by omega) (by omega) t5); (replace s0 := kof ho4 (by omega) (by omega) s0); (replace s1 := kof ho4 (by omega) (by omega) s1)) | (go_at_call 65; refine (c_step_add p ra.1 ra.2.1 rb.1 rb.2.1 em V.drew (show p < V.heap.size by omega) hcP hfP).mono ?_; rw [← HR1.out]; rintro e w3 ⟨rfl, ho3, hcN, hfN⟩; (replace ho3 := OnlyB.undrew ho3); (replace hcP := hcN); (replace hfP := hfN); (have hs3 := ho3.size); (replace hqc : w3.cell? ⟨w.heap.size, 0, none⟩ = some (.pointer (some ⟨p, 0, none⟩)) := (ho3.cell (by omega) (by omega)).trans hqc); (replace z0 := ko ho3 (by omega) (by omega) z0); (replace z1 := ko ho3 (by omega) (by omega) z1); (replace t0 := ko ho3 (by omega) (by omega) t0); (replace t1 := ko ho3 (by omega) (by omega) t1); (replace t2 := ko ho3 (by omega) (by omega) t2); (replace t3 := ko ho3 (by omega) (by omega) t3); (replace t4 := ko ho3 (by omega) (by omega) t4); (replace t5 := ko ho3 (by omega) (by omega) t5); (replace s0 := kof ho3 (by omega) (by omega) s0); (replace s1 := kof ho3 (by omega) (by omega) s1)))
  go_wp2_with (fail)
  have HOW : Hid (OnlyB p w w6) := (OnlyB.of_below (((hB.out.trans ho2).trans HOV.out |>.trans ho3).trans ho4) hb5 (by omega)).trans ho6
  obtain ⟨F, hF⟩ : ∃ F, F = ((w6.setCell ⟨w.heap.size + 1 + 1, 0, none⟩ (Value.int IntKind.i64 r3.1)).setCell ⟨w.heap.size + 1 + 1, 1, none⟩ (Value.int IntKind.i64 r3.2.1)) := ⟨_, rfl⟩
  obtain ⟨g0, g1⟩ := st2 w6 (w.heap.size + 1 + 1) (r3.1) (r3.2.1) z0 z1
  rw [← hF] at g0 g1
  have hFC : F.cell? ⟨p, 0, none⟩ = some (.int .i64 (fst2 (fst2 (fst2 em r1.2.2) r2.2.2) r3.2.2)) := by rw [hF, World.cell?_setCell_far _ _ _ _ (by simp only; omega), World.cell?_setCell_far _ _ _ _ (by simp only; omega)]; exact hcP
  have hFF : F.frozen? ⟨p, 0, none⟩ = false := by rw [hF, World.frozen?_setCell, World.frozen?_setCell]; exact hfP
  have hFB : Hid (OnlyB p w F) := by rw [hF]; unfold Hid; exact (HOW.out.set _ _ (by simp only; omega)).set _ _ (by simp only; omega)
  rw [← hF]
  clear hF
  refine bodyPost_ret (v := .agg #[.int .i64 r3.1, .int .i64 r3.2.1]) (by simp [results, Try.results70, go_sem, g0, g1]) rfl ⟨rfl, hFB.out, hFC, hFF⟩

end Go.Proofs.Ytpdaigenffecmaa

namespace Go.Proofs.Ytpdaigenffecmaa
open Go.RowKit Go.Shelf

theorem chk3_zero (e0 : Int) : chk3 e0 0 0 0 0 0 0 3 = e0 := by
  have h : spChk (0, 0) = 0 := by decide
  unfold chk3 errTo fst2; rw [h]
  by_cases e : e0 = 0 <;> simp [e]

set_option maxHeartbeats 1000000 in
theorem c_all1z (pb c : Nat) (w : World) (hpb : pb < w.heap.size) (hx : Hid (Tab6 w pb (six 0 0 0 0 0 0))) :
    Calls Try.prog 62 #[.slice (some ⟨pb, 0, none⟩) 1 c] w fun e w' => e = .returned (.pointer (some ⟨w.heap.size, 0, none⟩)) ∧ Below w.heap.size w w' ∧ w.heap.size < w'.heap.size ∧ w'.cell? ⟨w.heap.size, 0, none⟩ = some (.int .i64 (chk3 0 0 0 0 0 0 0 3)) ∧ w'.frozen? ⟨w.heap.size, 0, none⟩ = false := by
  have a0 : w.cell? ⟨pb, 0, none⟩ = some (.int .i64 0) := by have := hx.out 0 (by omega); simpa [six] using this
  have a1 : w.cell? ⟨pb, 1, none⟩ = some (.int .i64 0) := by have := hx.out 1 (by omega); simpa [six] using this
  have a2 : w.cell? ⟨pb, 2, none⟩ = some (.int .i64 0) := by have := hx.out 2 (by omega); simpa [six] using this
  have a3 : w.cell? ⟨pb, 3, none⟩ = some (.int .i64 0) := by have := hx.out 3 (by omega); simpa [six] using this
  have a4 : w.cell? ⟨pb, 4, none⟩ = some (.int .i64 0) := by have := hx.out 4 (by omega); simpa [six] using this
  have a5 : w.cell? ⟨pb, 5, none⟩ = some (.int .i64 0) := by have := hx.out 5 (by omega); simpa [six] using this
  have n0 : ¬ pb = w.heap.size := by omega
  have l0 : pb < w.heap.size + 1 := by omega
  have hE : ∀ w : World, (binOp .eql 25 (.agg #[.int .i64 0, .int .i64 0, .int .i64 0, .int .i64 0, .int .i64 0, .int .i64 0]) (.agg #[.int .i64 0, .int .i64 0, .int .i64 0, .int .i64 0, .int .i64 0, .int .i64 0])).run Try.prog w = .ok (.bool true) w := fun w => by rw [eql_vec]; rfl
  have HC := Lib.hid (chk3_zero 0)
  go_enter Try.func62, Try.ntmps62
  go_wp2_with (fail)
  refine wp_rounds 2 ?_
  refine rounds_step _ ?_
  intro _ _
  go_wp2_with (fail)
  refine rounds_step _ ?_
  intro _ _
  go_wp2_with (fail)
  go_ret
  exact ⟨rfl, by (repeat' (first | (with_reducible exact Below.refl _ _) | assumption | (with_reducible refine Below.setCell ?_ ?_ _) | (with_reducible refine Below.alloc ?_ ?_ _) | (with_reducible refine Below.drew ?_) | (with_reducible refine below_drewN ?_ _) | (with_reducible refine Below.trans ?_ (Below.mono (by assumption) ?_)) | omega | (simp; done) | (simp; omega) | (simp [World.setCell]; omega))), by (simp <;> omega), by rw [HC.out]; simp [go_sem], by simp [go_sem]⟩

theorem c_all1' (pb c : Nat) (x0 x1 x2 x3 x4 x5 : Int) (w : World) (hpb : pb < w.heap.size) (hx : Hid (Tab6 w pb (six x0 x1 x2 x3 x4 x5))) :
    Calls Try.prog 62 #[.slice (some ⟨pb, 0, none⟩) 1 c] w fun e w' => e = .returned (.pointer (some ⟨w.heap.size, 0, none⟩)) ∧ Below w.heap.size w w' ∧ w.heap.size < w'.heap.size ∧ w'.cell? ⟨w.heap.size, 0, none⟩ = some (.int .i64 (chk3 0 x0 x1 x2 x3 x4 x5 3)) ∧ w'.frozen? ⟨w.heap.size, 0, none⟩ = false := by
  by_cases h : x0 = 0 ∧ x1 = 0 ∧ x2 = 0 ∧ x3 = 0 ∧ x4 = 0 ∧ x5 = 0
  · obtain ⟨rfl, rfl, rfl, rfl, rfl, rfl⟩ := h
    exact c_all1z pb c w hpb hx
  · exact c_all1 pb c x0 x1 x2 x3 x4 x5 w hpb hx h

end Go.Proofs.Ytpdaigenffecmaa

namespace Go.Proofs.Ytpdaigenffecmaa
open Go.RowKit Go.Shelf

/-- Block b holds twelve numbers: two vectors. -/
def Tab12 (w : World) (b : Nat) (f g : Nat → Int) : Prop := (∀ j, j < 6 → w.cell? ⟨b, j, none⟩ = some (.int .i64 (f j))) ∧ ∀ j, j < 6 → w.cell? ⟨b, 6 + j, none⟩ = some (.int .i64 (g j))

set_option maxHeartbeats 2000000 in
theorem c_all2nn (pb c : Nat) (x0 x1 x2 x3 x4 x5 y0 y1 y2 y3 y4 y5 : Int) (w : World) (hpb : pb < w.heap.size) (hx : Hid (Tab12 w pb (six x0 x1 x2 x3 x4 x5) (six y0 y1 y2 y3 y4 y5))) (hne : ¬ (x0 = 0 ∧ x1 = 0 ∧ x2 = 0 ∧ x3 = 0 ∧ x4 = 0 ∧ x5 = 0)) (hne2 : ¬ (y0 = 0 ∧ y1 = 0 ∧ y2 = 0 ∧ y3 = 0 ∧ y4 = 0 ∧ y5 = 0)) :
    Calls Try.prog 62 #[.slice (some ⟨pb, 0, none⟩) 2 c] w fun e w' => e = .returned (.pointer (some ⟨w.heap.size, 0, none⟩)) ∧ Below w.heap.size w w' ∧ w.heap.size < w'.heap.size ∧ w'.cell? ⟨w.heap.size, 0, none⟩ = some (.int .i64 (chk3 (chk3 0 x0 x1 x2 x3 x4 x5 3) y0 y1 y2 y3 y4 y5 3)) ∧ w'.frozen? ⟨w.heap.size, 0, none⟩ = false := by
  have a0 : w.cell? ⟨pb, 0, none⟩ = some (.int .i64 x0) := by have := hx.out.1 0 (by omega); simpa [six] using this
  have a1 : w.cell? ⟨pb, 1, none⟩ = some (.int .i64 x1) := by have := hx.out.1 1 (by omega); simpa [six] using this
  have a2 : w.cell? ⟨pb, 2, none⟩ = some (.int .i64 x2) := by have := hx.out.1 2 (by omega); simpa [six] using this
  have a3 : w.cell? ⟨pb, 3, none⟩ = some (.int .i64 x3) := by have := hx.out.1 3 (by omega); simpa [six] using this
  have a4 : w.cell? ⟨pb, 4, none⟩ = some (.int .i64 x4) := by have := hx.out.1 4 (by omega); simpa [six] using this
  have a5 : w.cell? ⟨pb, 5, none⟩ = some (.int .i64 x5) := by have := hx.out.1 5 (by omega); simpa [six] using this
  have a6 : w.cell? ⟨pb, 6, none⟩ = some (.int .i64 y0) := by have := hx.out.2 0 (by omega); simpa [six] using this
  have a7 : w.cell? ⟨pb, 7, none⟩ = some (.int .i64 y1) := by have := hx.out.2 1 (by omega); simpa [six] using this
  have a8 : w.cell? ⟨pb, 8, none⟩ = some (.int .i64 y2) := by have := hx.out.2 2 (by omega); simpa [six] using this
  have a9 : w.cell? ⟨pb, 9, none⟩ = some (.int .i64 y3) := by have := hx.out.2 3 (by omega); simpa [six] using this
  have a10 : w.cell? ⟨pb, 10, none⟩ = some (.int .i64 y4) := by have := hx.out.2 4 (by omega); simpa [six] using this
  have a11 : w.cell? ⟨pb, 11, none⟩ = some (.int .i64 y5) := by have := hx.out.2 5 (by omega); simpa [six] using this
  have n0 : ¬ pb = w.heap.size := by omega
  have l0 : pb < w.heap.size + 1 := by omega
  have hq : (((x0 == 0) && (x1 == 0)) && (((x2 == 0) && (x3 == 0)) && ((x4 == 0) && (x5 == 0)))) = false := by
    rw [Bool.eq_false_iff]; intro h; simp at h; omega
  have hE : ∀ w : World, (binOp .eql 25 (.agg #[.int .i64 x0, .int .i64 x1, .int .i64 x2, .int .i64 x3, .int .i64 x4, .int .i64 x5]) (.agg #[.int .i64 0, .int .i64 0, .int .i64 0, .int .i64 0, .int .i64 0, .int .i64 0])).run Try.prog w = .ok (.bool false) w := fun w => by rw [eql_vec, hq]
  have hq2 : (((y0 == 0) && (y1 == 0)) && (((y2 == 0) && (y3 == 0)) && ((y4 == 0) && (y5 == 0)))) = false := by
    rw [Bool.eq_false_iff]; intro h; simp at h; omega
  have hE2 : ∀ w : World, (binOp .eql 25 (.agg #[.int .i64 y0, .int .i64 y1, .int .i64 y2, .int .i64 y3, .int .i64 y4, .int .i64 y5]) (.agg #[.int .i64 0, .int .i64 0, .int .i64 0, .int .i64 0, .int .i64 0, .int .i64 0])).run Try.prog w = .ok (.bool false) w := fun w => by rw [eql_vec, hq2]
  clear hq hne hq2 hne2
  go_enter Try.func62, Try.ntmps62
  go_wp2_with (fail)
  refine wp_rounds 3 ?_
  refine rounds_step _ ?_
  intro _ _
  go_wp2_with (fail)
  go_loopw [20] (fun iv wx => ∃ k : Nat, k ≤ 3 ∧ iv = .int .i64 (k : Int) ∧ wx.cell? ⟨w.heap.size, 0, none⟩ = some (.int .i64 (errTo 0 (spChk (x0, x1)) (spChk (x2, x3)) (spChk (x4, x5)) k)) ∧ wx.frozen? ⟨w.heap.size, 0, none⟩ = false ∧ Hid (Below w.heap.size w wx) ∧ w.heap.size + 1 < wx.heap.size) (fun iv _ => 3 - (intOf iv).toNat)
  case atStart => exact ⟨0, by omega, rfl, by simp [go_sem, errTo], by simp [go_sem], (by unfold Hid; (repeat' (first | (with_reducible exact Below.refl _ _) | assumption | (with_reducible refine Below.setCell ?_ ?_ _) | (with_reducible refine Below.alloc ?_ ?_ _) | (with_reducible refine Below.drew ?_) | (with_reducible refine below_drewN ?_ _) | (with_reducible refine Below.trans ?_ (Below.mono (by assumption) ?_)) | omega | (simp; done) | (simp; omega) | (simp [World.setCell]; omega)))), by simp⟩
  case round =>
    obtain ⟨k, hk, rfl, hc, hf, hbe, hsz⟩ := hrel
    rcases (by omega : k = 0 ∨ k = 1 ∨ k = 2 ∨ k = 3) with rfl | rfl | rfl | rfl
    · have hpw : w.heap.size < wr.heap.size := by omega
      have d1 : ¬ w.heap.size = wr.heap.size := by omega
      have d2 : ¬ wr.heap.size = w.heap.size := by omega
      have l1 : w.heap.size < wr.heap.size + 1 := by omega
      have EK : errTo 0 (spChk (x0, x1)) (spChk (x2, x3)) (spChk (x4, x5)) 1 = fst2 (errTo 0 (spChk (x0, x1)) (spChk (x2, x3)) (spChk (x4, x5)) 0) (spChk (x0, x1)) := by simp [errTo]
      have EK := Lib.hid EK
      obtain ⟨ek, hek⟩ : ∃ ek, ek = errTo 0 (spChk (x0, x1)) (spChk (x2, x3)) (spChk (x4, x5)) 0 := ⟨_, rfl⟩
      rw [← hek] at hc
      have HEK := Lib.hid hek; clear hek
      have q0 : (wr.alloc (Obj.cells #[Value.int IntKind.i64 x0, Value.int IntKind.i64 x1] 23)).cell? ⟨wr.heap.size, 0, none⟩ = some (.int .i64 x0) := by simp [go_sem]
      have q1 : (wr.alloc (Obj.cells #[Value.int IntKind.i64 x0, Value.int IntKind.i64 x1] 23)).cell? ⟨wr.heap.size, 1, none⟩ = some (.int .i64 x1) := by simp [go_sem]
      have q2 : (wr.alloc (Obj.cells #[Value.int IntKind.i64 x0, Value.int IntKind.i64 x1] 23)).cell? ⟨w.heap.size, 0, none⟩ = some (.int .i64 ek) := by simp [go_sem, *]
      have q3 : (wr.alloc (Obj.cells #[Value.int IntKind.i64 x0, Value.int IntKind.i64 x1] 23)).frozen? ⟨w.heap.size, 0, none⟩ = false := by simp [go_sem, *]
      go_wp2_with (fail)
      go_region_held3 (fun w' => w'.cell? ⟨wr.heap.size, 0, none⟩ = some (.int .i64 x0) ∧ w'.cell? ⟨wr.heap.size, 1, none⟩ = some (.int .i64 x1)) (go_keep) (first | (go_at_call 76; refine (c_spanCheck x0 x1 _).mono ?_; rintro e w1 ⟨rfl, hb1⟩; (have hs1 : wr.heap.size + 1 ≤ w1.heap.size := by have := hb1.size; simpa using this); (have b0 : w1.cell? ⟨wr.heap.size, 0, none⟩ = some (.int .i64 x0) := (hb1.cell (p := ⟨wr.heap.size, 0, none⟩) (by simp)).trans q0); (have b1 : w1.cell? ⟨wr.heap.size, 1, none⟩ = some (.int .i64 x1) := (hb1.cell (p := ⟨wr.heap.size, 1, none⟩) (by simp)).trans q1); (have p1 : w1.cell? ⟨w.heap.size, 0, none⟩ = some (.int .i64 ek) := (hb1.cell (p := ⟨w.heap.size, 0, none⟩) (by simp; omega)).trans q2); (have pf1 : w1.frozen? ⟨w.heap.size, 0, none⟩ = false := ((bcell hb1).2 w.heap.size 0 (by simp; omega)).trans q3)) | (go_at_call 120; refine (c_take6 w.heap.size _ _ ek _ _ (by omega) p1 pf1).mono ?_; rintro e w2 ⟨rfl, ho2, hc2, hf2⟩; (have hs2 := ho2.size); (have b0' : w2.cell? ⟨wr.heap.size, 0, none⟩ = some (.int .i64 x0) := (ho2.cell (by omega) (by omega)).trans b0); (have b1' : w2.cell? ⟨wr.heap.size, 1, none⟩ = some (.int .i64 x1) := (ho2.cell (by omega) (by omega)).trans b1)))
      go_wp2
      go_roundw
      case rel =>
        have hb2 : Below w.heap.size w1 w2 := ho2.toBelow (by omega) (Nat.le_refl _)
        have hb0 : Below w.heap.size (wr.alloc (Obj.cells #[Value.int IntKind.i64 x0, Value.int IntKind.i64 x1] 23)) w1 := by
          have h9 : w.heap.size ≤ (wr.alloc (Obj.cells #[Value.int IntKind.i64 x0, Value.int IntKind.i64 x1] 23)).heap.size := by simp; omega
          exact Below.mono ⟨hb1.os, hb1.tape, hb1.output, hb1.size, hb1.block⟩ h9
        exact ⟨1, by omega, rfl, by rw [EK.out, ← HEK.out]; exact hc2, hf2, ((hbe.out.alloc (by omega) _).trans hb0).trans hb2, by omega⟩
      case measure => simp [intOf]
    · have hpw : w.heap.size < wr.heap.size := by omega
      have d1 : ¬ w.heap.size = wr.heap.size := by omega
      have d2 : ¬ wr.heap.size = w.heap.size := by omega
      have l1 : w.heap.size < wr.heap.size + 1 := by omega
      have EK : errTo 0 (spChk (x0, x1)) (spChk (x2, x3)) (spChk (x4, x5)) 2 = fst2 (errTo 0 (spChk (x0, x1)) (spChk (x2, x3)) (spChk (x4, x5)) 1) (spChk (x2, x3)) := by simp [errTo]
      have EK := Lib.hid EK
      obtain ⟨ek, hek⟩ : ∃ ek, ek = errTo 0 (spChk (x0, x1)) (spChk (x2, x3)) (spChk (x4, x5)) 1 := ⟨_, rfl⟩
      rw [← hek] at hc
      have HEK := Lib.hid hek; clear hek
      have q0 : (wr.alloc (Obj.cells #[Value.int IntKind.i64 x2, Value.int IntKind.i64 x3] 23)).cell? ⟨wr.heap.size, 0, none⟩ = some (.int .i64 x2) := by simp [go_sem]
      have q1 : (wr.alloc (Obj.cells #[Value.int IntKind.i64 x2, Value.int IntKind.i64 x3] 23)).cell? ⟨wr.heap.size, 1, none⟩ = some (.int .i64 x3) := by simp [go_sem]
      have q2 : (wr.alloc (Obj.cells #[Value.int IntKind.i64 x2, Value.int IntKind.i64 x3] 23)).cell? ⟨w.heap.size, 0, none⟩ = some (.int .i64 ek) := by simp [go_sem, *]
      have q3 : (wr.alloc (Obj.cells #[Value.int IntKind.i64 x2, Value.int IntKind.i64 x3] 23)).frozen? ⟨w.heap.size, 0, none⟩ = false := by simp [go_sem, *]
      go_wp2_with (fail)
      go_region_held3 (fun w' => w'.cell? ⟨wr.heap.size, 0, none⟩ = some (.int .i64 x2) ∧ w'.cell? ⟨wr.heap.size, 1, none⟩ = some (.int .i64 x3)) (go_keep) (first | (go_at_call 76; refine (c_spanCheck x2 x3 _).mono ?_; rintro e w1 ⟨rfl, hb1⟩; (have hs1 : wr.heap.size + 1 ≤ w1.heap.size := by have := hb1.size; simpa using this); (have b0 : w1.cell? ⟨wr.heap.size, 0, none⟩ = some (.int .i64 x2) := (hb1.cell (p := ⟨wr.heap.size, 0, none⟩) (by simp)).trans q0); (have b1 : w1.cell? ⟨wr.heap.size, 1, none⟩ = some (.int .i64 x3) := (hb1.cell (p := ⟨wr.heap.size, 1, none⟩) (by simp)).trans q1); (have p1 : w1.cell? ⟨w.heap.size, 0, none⟩ = some (.int .i64 ek) := (hb1.cell (p := ⟨w.heap.size, 0, none⟩) (by simp; omega)).trans q2); (have pf1 : w1.frozen? ⟨w.heap.size, 0, none⟩ = false := ((bcell hb1).2 w.heap.size 0 (by simp; omega)).trans q3)) | (go_at_call 120; refine (c_take6 w.heap.size _ _ ek _ _ (by omega) p1 pf1).mono ?_; rintro e w2 ⟨rfl, ho2, hc2, hf2⟩; (have hs2 := ho2.size); (have b0' : w2.cell? ⟨wr.heap.size, 0, none⟩ = some (.int .i64 x2) := (ho2.cell (by omega) (by omega)).trans b0); (have b1' : w2.cell? ⟨wr.heap.size, 1, none⟩ = some (.int .i64 x3) := (ho2.cell (by omega) (by omega)).trans b1)))
      go_wp2
      go_roundw
      case rel =>
        have hb2 : Below w.heap.size w1 w2 := ho2.toBelow (by omega) (Nat.le_refl _)
        have hb0 : Below w.heap.size (wr.alloc (Obj.cells #[Value.int IntKind.i64 x2, Value.int IntKind.i64 x3] 23)) w1 := by
          have h9 : w.heap.size ≤ (wr.alloc (Obj.cells #[Value.int IntKind.i64 x2, Value.int IntKind.i64 x3] 23)).heap.size := by simp; omega
          exact Below.mono ⟨hb1.os, hb1.tape, hb1.output, hb1.size, hb1.block⟩ h9
        exact ⟨2, by omega, rfl, by rw [EK.out, ← HEK.out]; exact hc2, hf2, ((hbe.out.alloc (by omega) _).trans hb0).trans hb2, by omega⟩
      case measure => simp [intOf]
    · have hpw : w.heap.size < wr.heap.size := by omega
      have d1 : ¬ w.heap.size = wr.heap.size := by omega
      have d2 : ¬ wr.heap.size = w.heap.size := by omega
      have l1 : w.heap.size < wr.heap.size + 1 := by omega
      have EK : errTo 0 (spChk (x0, x1)) (spChk (x2, x3)) (spChk (x4, x5)) 3 = fst2 (errTo 0 (spChk (x0, x1)) (spChk (x2, x3)) (spChk (x4, x5)) 2) (spChk (x4, x5)) := by simp [errTo]
      have EK := Lib.hid EK
      obtain ⟨ek, hek⟩ : ∃ ek, ek = errTo 0 (spChk (x0, x1)) (spChk (x2, x3)) (spChk (x4, x5)) 2 := ⟨_, rfl⟩
      rw [← hek] at hc
      have HEK := Lib.hid hek; clear hek
      have q0 : (wr.alloc (Obj.cells #[Value.int IntKind.i64 x4, Value.int IntKind.i64 x5] 23)).cell? ⟨wr.heap.size, 0, none⟩ = some (.int .i64 x4) := by simp [go_sem]
      have q1 : (wr.alloc (Obj.cells #[Value.int IntKind.i64 x4, Value.int IntKind.i64 x5] 23)).cell? ⟨wr.heap.size, 1, none⟩ = some (.int .i64 x5) := by simp [go_sem]
      have q2 : (wr.alloc (Obj.cells #[Value.int IntKind.i64 x4, Value.int IntKind.i64 x5] 23)).cell? ⟨w.heap.size, 0, none⟩ = some (.int .i64 ek) := by simp [go_sem, *]
      have q3 : (wr.alloc (Obj.cells #[Value.int IntKind.i64 x4, Value.int IntKind.i64 x5] 23)).frozen? ⟨w.heap.size, 0, none⟩ = false := by simp [go_sem, *]
      go_wp2_with (fail)
      go_region_held3 (fun w' => w'.cell? ⟨wr.heap.size, 0, none⟩ = some (.int .i64 x4) ∧ w'.cell? ⟨wr.heap.size, 1, none⟩ = some (.int .i64 x5)) (go_keep) (first | (go_at_call 76; refine (c_spanCheck x4 x5 _).mono ?_; rintro e w1 ⟨rfl, hb1⟩; (have hs1 : wr.heap.size + 1 ≤ w1.heap.size := by have := hb1.size; simpa using this); (have b0 : w1.cell? ⟨wr.heap.size, 0, none⟩ = some (.int .i64 x4) := (hb1.cell (p := ⟨wr.heap.size, 0, none⟩) (by simp)).trans q0); (have b1 : w1.cell? ⟨wr.heap.size, 1, none⟩ = some (.int .i64 x5) := (hb1.cell (p := ⟨wr.heap.size, 1, none⟩) (by simp)).trans q1); (have p1 : w1.cell? ⟨w.heap.size, 0, none⟩ = some (.int .i64 ek) := (hb1.cell (p := ⟨w.heap.size, 0, none⟩) (by simp; omega)).trans q2); (have pf1 : w1.frozen? ⟨w.heap.size, 0, none⟩ = false := ((bcell hb1).2 w.heap.size 0 (by simp; omega)).trans q3)) | (go_at_call 120; refine (c_take6 w.heap.size _ _ ek _ _ (by omega) p1 pf1).mono ?_; rintro e w2 ⟨rfl, ho2, hc2, hf2⟩; (have hs2 := ho2.size); (have b0' : w2.cell? ⟨wr.heap.size, 0, none⟩ = some (.int .i64 x4) := (ho2.cell (by omega) (by omega)).trans b0); (have b1' : w2.cell? ⟨wr.heap.size, 1, none⟩ = some (.int .i64 x5) := (ho2.cell (by omega) (by omega)).trans b1)))
      go_wp2
      go_roundw
      case rel =>
        have hb2 : Below w.heap.size w1 w2 := ho2.toBelow (by omega) (Nat.le_refl _)
        have hb0 : Below w.heap.size (wr.alloc (Obj.cells #[Value.int IntKind.i64 x4, Value.int IntKind.i64 x5] 23)) w1 := by
          have h9 : w.heap.size ≤ (wr.alloc (Obj.cells #[Value.int IntKind.i64 x4, Value.int IntKind.i64 x5] 23)).heap.size := by simp; omega
          exact Below.mono ⟨hb1.os, hb1.tape, hb1.output, hb1.size, hb1.block⟩ h9
        exact ⟨3, by omega, rfl, by rw [EK.out, ← HEK.out]; exact hc2, hf2, ((hbe.out.alloc (by omega) _).trans hb0).trans hb2, by omega⟩
      case measure => simp [intOf]
    · have hc2 : wr.cell? ⟨w.heap.size, 0, none⟩ = some (.int .i64 (chk3 0 x0 x1 x2 x3 x4 x5 3)) := hc
      clear hc
      obtain ⟨e1, he1⟩ : ∃ e1, e1 = chk3 0 x0 x1 x2 x3 x4 x5 3 := ⟨_, rfl⟩
      rw [← he1] at hc2
      have HE1 := Lib.hid he1; clear he1
      have b6 : wr.cell? ⟨pb, 6, none⟩ = some (.int .i64 y0) := ((bcell hbe.out).1 _ _ hpb).trans a6
      have b7 : wr.cell? ⟨pb, 7, none⟩ = some (.int .i64 y1) := ((bcell hbe.out).1 _ _ hpb).trans a7
      have b8 : wr.cell? ⟨pb, 8, none⟩ = some (.int .i64 y2) := ((bcell hbe.out).1 _ _ hpb).trans a8
      have b9 : wr.cell? ⟨pb, 9, none⟩ = some (.int .i64 y3) := ((bcell hbe.out).1 _ _ hpb).trans a9
      have b10 : wr.cell? ⟨pb, 10, none⟩ = some (.int .i64 y4) := ((bcell hbe.out).1 _ _ hpb).trans a10
      have b11 : wr.cell? ⟨pb, 11, none⟩ = some (.int .i64 y5) := ((bcell hbe.out).1 _ _ hpb).trans a11
      have hw2 : w.heap.size < wr.heap.size := by omega
      have d8 : ¬ w.heap.size = wr.heap.size := by omega
      have d9 : ¬ wr.heap.size = w.heap.size := by omega
      have l8 : w.heap.size < wr.heap.size + 1 := by omega
      have hpbr : pb < wr.heap.size := by have := hbe.out.size; omega
      go_wp2_with (fail)
      refine rounds_step _ ?_
      intro _ _
      go_wp2_with (fail)
      go_loopw [20] (fun iv wx => ∃ k : Nat, k ≤ 3 ∧ iv = .int .i64 (k : Int) ∧ wx.cell? ⟨w.heap.size, 0, none⟩ = some (.int .i64 (errTo e1 (spChk (y0, y1)) (spChk (y2, y3)) (spChk (y4, y5)) k)) ∧ wx.frozen? ⟨w.heap.size, 0, none⟩ = false ∧ Hid (Below w.heap.size w wx) ∧ w.heap.size + 1 < wx.heap.size) (fun iv _ => 3 - (intOf iv).toNat)
      case atStart => exact ⟨0, by omega, rfl, by simp [go_sem, errTo, *], by simp [go_sem, *], (by have := hbe.out; unfold Hid; (repeat' (first | (with_reducible exact Below.refl _ _) | assumption | (with_reducible refine Below.setCell ?_ ?_ _) | (with_reducible refine Below.alloc ?_ ?_ _) | (with_reducible refine Below.drew ?_) | (with_reducible refine below_drewN ?_ _) | (with_reducible refine Below.trans ?_ (Below.mono (by assumption) ?_)) | omega | (simp; done) | (simp; omega) | (simp [World.setCell]; omega)))), by (simp <;> omega)⟩
      case round =>
        obtain ⟨k, hk, rfl, hc, hf, hbe, hsz⟩ := hrel
        rcases (by omega : k = 0 ∨ k = 1 ∨ k = 2 ∨ k = 3) with rfl | rfl | rfl | rfl
        · have hpw : w.heap.size < wr.heap.size := by omega
          have d1 : ¬ w.heap.size = wr.heap.size := by omega
          have d2 : ¬ wr.heap.size = w.heap.size := by omega
          have l1 : w.heap.size < wr.heap.size + 1 := by omega
          have EK : errTo e1 (spChk (y0, y1)) (spChk (y2, y3)) (spChk (y4, y5)) 1 = fst2 (errTo e1 (spChk (y0, y1)) (spChk (y2, y3)) (spChk (y4, y5)) 0) (spChk (y0, y1)) := by simp [errTo]
          have EK := Lib.hid EK
          obtain ⟨ek, hek⟩ : ∃ ek, ek = errTo e1 (spChk (y0, y1)) (spChk (y2, y3)) (spChk (y4, y5)) 0 := ⟨_, rfl⟩
          rw [← hek] at hc
          have HEK := Lib.hid hek; clear hek
          have q0 : (wr.alloc (Obj.cells #[Value.int IntKind.i64 y0, Value.int IntKind.i64 y1] 23)).cell? ⟨wr.heap.size, 0, none⟩ = some (.int .i64 y0) := by simp [go_sem]
          have q1 : (wr.alloc (Obj.cells #[Value.int IntKind.i64 y0, Value.int IntKind.i64 y1] 23)).cell? ⟨wr.heap.size, 1, none⟩ = some (.int .i64 y1) := by simp [go_sem]
          have q2 : (wr.alloc (Obj.cells #[Value.int IntKind.i64 y0, Value.int IntKind.i64 y1] 23)).cell? ⟨w.heap.size, 0, none⟩ = some (.int .i64 ek) := by simp [go_sem, *]
          have q3 : (wr.alloc (Obj.cells #[Value.int IntKind.i64 y0, Value.int IntKind.i64 y1] 23)).frozen? ⟨w.heap.size, 0, none⟩ = false := by simp [go_sem, *]
          go_wp2_with (fail)
          go_region_held3 (fun w' => w'.cell? ⟨wr.heap.size, 0, none⟩ = some (.int .i64 y0) ∧ w'.cell? ⟨wr.heap.size, 1, none⟩ = some (.int .i64 y1)) (go_keep) (first | (go_at_call 76; refine (c_spanCheck y0 y1 _).mono ?_; rintro e w1 ⟨rfl, hb1⟩; (have hs1 : wr.heap.size + 1 ≤ w1.heap.size := by have := hb1.size; simpa using this); (have b0 : w1.cell? ⟨wr.heap.size, 0, none⟩ = some (.int .i64 y0) := (hb1.cell (p := ⟨wr.heap.size, 0, none⟩) (by simp)).trans q0); (have b1 : w1.cell? ⟨wr.heap.size, 1, none⟩ = some (.int .i64 y1) := (hb1.cell (p := ⟨wr.heap.size, 1, none⟩) (by simp)).trans q1); (have p1 : w1.cell? ⟨w.heap.size, 0, none⟩ = some (.int .i64 ek) := (hb1.cell (p := ⟨w.heap.size, 0, none⟩) (by simp; omega)).trans q2); (have pf1 : w1.frozen? ⟨w.heap.size, 0, none⟩ = false := ((bcell hb1).2 w.heap.size 0 (by simp; omega)).trans q3)) | (go_at_call 120; refine (c_take6 w.heap.size _ _ ek _ _ (by omega) p1 pf1).mono ?_; rintro e w2 ⟨rfl, ho2, hc2, hf2⟩; (have hs2 := ho2.size); (have b0' : w2.cell? ⟨wr.heap.size, 0, none⟩ = some (.int .i64 y0) := (ho2.cell (by omega) (by omega)).trans b0); (have b1' : w2.cell? ⟨wr.heap.size, 1, none⟩ = some (.int .i64 y1) := (ho2.cell (by omega) (by omega)).trans b1)))
          go_wp2
          go_roundw
          case rel =>
            have hb2 : Below w.heap.size w1 w2 := ho2.toBelow (by omega) (Nat.le_refl _)
            have hb0 : Below w.heap.size (wr.alloc (Obj.cells #[Value.int IntKind.i64 y0, Value.int IntKind.i64 y1] 23)) w1 := by
              have h9 : w.heap.size ≤ (wr.alloc (Obj.cells #[Value.int IntKind.i64 y0, Value.int IntKind.i64 y1] 23)).heap.size := by simp; omega
              exact Below.mono ⟨hb1.os, hb1.tape, hb1.output, hb1.size, hb1.block⟩ h9
            exact ⟨1, by omega, rfl, by rw [EK.out, ← HEK.out]; exact hc2, hf2, ((hbe.out.alloc (by omega) _).trans hb0).trans hb2, by omega⟩
          case measure => simp [intOf]
        · have hpw : w.heap.size < wr.heap.size := by omega
          have d1 : ¬ w.heap.size = wr.heap.size := by omega
          have d2 : ¬ wr.heap.size = w.heap.size := by omega
          have l1 : w.heap.size < wr.heap.size + 1 := by omega
          have EK : errTo e1 (spChk (y0, y1)) (spChk (y2, y3)) (spChk (y4, y5)) 2 = fst2 (errTo e1 (spChk (y0, y1)) (spChk (y2, y3)) (spChk (y4, y5)) 1) (spChk (y2, y3)) := by simp [errTo]
          have EK := Lib.hid EK
          obtain ⟨ek, hek⟩ : ∃ ek, ek = errTo e1 (spChk (y0, y1)) (spChk (y2, y3)) (spChk (y4, y5)) 1 := ⟨_, rfl⟩
          rw [← hek] at hc
          have HEK := Lib.hid hek; clear hek
          have q0 : (wr.alloc (Obj.cells #[Value.int IntKind.i64 y2, Value.int IntKind.i64 y3] 23)).cell? ⟨wr.heap.size, 0, none⟩ = some (.int .i64 y2) := by simp [go_sem]
          have q1 : (wr.alloc (Obj.cells #[Value.int IntKind.i64 y2, Value.int IntKind.i64 y3] 23)).cell? ⟨wr.heap.size, 1, none⟩ = some (.int .i64 y3) := by simp [go_sem]
          have q2 : (wr.alloc (Obj.cells #[Value.int IntKind.i64 y2, Value.int IntKind.i64 y3] 23)).cell? ⟨w.heap.size, 0, none⟩ = some (.int .i64 ek) := by simp [go_sem, *]
          have q3 : (wr.alloc (Obj.cells #[Value.int IntKind.i64 y2, Value.int IntKind.i64 y3] 23)).frozen? ⟨w.heap.size, 0, none⟩ = false := by simp [go_sem, *]
          go_wp2_with (fail)
          go_region_held3 (fun w' => w'.cell? ⟨wr.heap.size, 0, none⟩ = some (.int .i64 y2) ∧ w'.cell? ⟨wr.heap.size, 1, none⟩ = some (.int .i64 y3)) (go_keep) (first | (go_at_call 76; refine (c_spanCheck y2 y3 _).mono ?_; rintro e w1 ⟨rfl, hb1⟩; (have hs1 : wr.heap.size + 1 ≤ w1.heap.size := by have := hb1.size; simpa using this); (have b0 : w1.cell? ⟨wr.heap.size, 0, none⟩ = some (.int .i64 y2) := (hb1.cell (p := ⟨wr.heap.size, 0, none⟩) (by simp)).trans q0); (have b1 : w1.cell? ⟨wr.heap.size, 1, none⟩ = some (.int .i64 y3) := (hb1.cell (p := ⟨wr.heap.size, 1, none⟩) (by simp)).trans q1); (have p1 : w1.cell? ⟨w.heap.size, 0, none⟩ = some (.int .i64 ek) := (hb1.cell (p := ⟨w.heap.size, 0, none⟩) (by simp; omega)).trans q2); (have pf1 : w1.frozen? ⟨w.heap.size, 0, none⟩ = false := ((bcell hb1).2 w.heap.size 0 (by simp; omega)).trans q3)) | (go_at_call 120; refine (c_take6 w.heap.size _ _ ek _ _ (by omega) p1 pf1).mono ?_; rintro e w2 ⟨rfl, ho2, hc2, hf2⟩; (have hs2 := ho2.size); (have b0' : w2.cell? ⟨wr.heap.size, 0, none⟩ = some (.int .i64 y2) := (ho2.cell (by omega) (by omega)).trans b0); (have b1' : w2.cell? ⟨wr.heap.size, 1, none⟩ = some (.int .i64 y3) := (ho2.cell (by omega) (by omega)).trans b1)))
          go_wp2
          go_roundw
          case rel =>
            have hb2 : Below w.heap.size w1 w2 := ho2.toBelow (by omega) (Nat.le_refl _)
            have hb0 : Below w.heap.size (wr.alloc (Obj.cells #[Value.int IntKind.i64 y2, Value.int IntKind.i64 y3] 23)) w1 := by
              have h9 : w.heap.size ≤ (wr.alloc (Obj.cells #[Value.int IntKind.i64 y2, Value.int IntKind.i64 y3] 23)).heap.size := by simp; omega
              exact Below.mono ⟨hb1.os, hb1.tape, hb1.output, hb1.size, hb1.block⟩ h9
            exact ⟨2, by omega, rfl, by rw [EK.out, ← HEK.out]; exact hc2, hf2, ((hbe.out.alloc (by omega) _).trans hb0).trans hb2, by omega⟩
          case measure => simp [intOf]
        · have hpw : w.heap.size < wr.heap.size := by omega
          have d1 : ¬ w.heap.size = wr.heap.size := by omega
          have d2 : ¬ wr.heap.size = w.heap.size := by omega
          have l1 : w.heap.size < wr.heap.size + 1 := by omega
          have EK : errTo e1 (spChk (y0, y1)) (spChk (y2, y3)) (spChk (y4, y5)) 3 = fst2 (errTo e1 (spChk (y0, y1)) (spChk (y2, y3)) (spChk (y4, y5)) 2) (spChk (y4, y5)) := by simp [errTo]
          have EK := Lib.hid EK
          obtain ⟨ek, hek⟩ : ∃ ek, ek = errTo e1 (spChk (y0, y1)) (spChk (y2, y3)) (spChk (y4, y5)) 2 := ⟨_, rfl⟩
          rw [← hek] at hc
          have HEK := Lib.hid hek; clear hek
          have q0 : (wr.alloc (Obj.cells #[Value.int IntKind.i64 y4, Value.int IntKind.i64 y5] 23)).cell? ⟨wr.heap.size, 0, none⟩ = some (.int .i64 y4) := by simp [go_sem]
          have q1 : (wr.alloc (Obj.cells #[Value.int IntKind.i64 y4, Value.int IntKind.i64 y5] 23)).cell? ⟨wr.heap.size, 1, none⟩ = some (.int .i64 y5) := by simp [go_sem]
          have q2 : (wr.alloc (Obj.cells #[Value.int IntKind.i64 y4, Value.int IntKind.i64 y5] 23)).cell? ⟨w.heap.size, 0, none⟩ = some (.int .i64 ek) := by simp [go_sem, *]
          have q3 : (wr.alloc (Obj.cells #[Value.int IntKind.i64 y4, Value.int IntKind.i64 y5] 23)).frozen? ⟨w.heap.size, 0, none⟩ = false := by simp [go_sem, *]
          go_wp2_with (fail)
          go_region_held3 (fun w' => w'.cell? ⟨wr.heap.size, 0, none⟩ = some (.int .i64 y4) ∧ w'.cell? ⟨wr.heap.size, 1, none⟩ = some (.int .i64 y5)) (go_keep) (first | (go_at_call 76; refine (c_spanCheck y4 y5 _).mono ?_; rintro e w1 ⟨rfl, hb1⟩; (have hs1 : wr.heap.size + 1 ≤ w1.heap.size := by have := hb1.size; simpa using this); (have b0 : w1.cell? ⟨wr.heap.size, 0, none⟩ = some (.int .i64 y4) := (hb1.cell (p := ⟨wr.heap.size, 0, none⟩) (by simp)).trans q0); (have b1 : w1.cell? ⟨wr.heap.size, 1, none⟩ = some (.int .i64 y5) := (hb1.cell (p := ⟨wr.heap.size, 1, none⟩) (by simp)).trans q1); (have p1 : w1.cell? ⟨w.heap.size, 0, none⟩ = some (.int .i64 ek) := (hb1.cell (p := ⟨w.heap.size, 0, none⟩) (by simp; omega)).trans q2); (have pf1 : w1.frozen? ⟨w.heap.size, 0, none⟩ = false := ((bcell hb1).2 w.heap.size 0 (by simp; omega)).trans q3)) | (go_at_call 120; refine (c_take6 w.heap.size _ _ ek _ _ (by omega) p1 pf1).mono ?_; rintro e w2 ⟨rfl, ho2, hc2, hf2⟩; (have hs2 := ho2.size); (have b0' : w2.cell? ⟨wr.heap.size, 0, none⟩ = some (.int .i64 y4) := (ho2.cell (by omega) (by omega)).trans b0); (have b1' : w2.cell? ⟨wr.heap.size, 1, none⟩ = some (.int .i64 y5) := (ho2.cell (by omega) (by omega)).trans b1)))
          go_wp2
          go_roundw
          case rel =>
            have hb2 : Below w.heap.size w1 w2 := ho2.toBelow (by omega) (Nat.le_refl _)
            have hb0 : Below w.heap.size (wr.alloc (Obj.cells #[Value.int IntKind.i64 y4, Value.int IntKind.i64 y5] 23)) w1 := by
              have h9 : w.heap.size ≤ (wr.alloc (Obj.cells #[Value.int IntKind.i64 y4, Value.int IntKind.i64 y5] 23)).heap.size := by simp; omega
              exact Below.mono ⟨hb1.os, hb1.tape, hb1.output, hb1.size, hb1.block⟩ h9
            exact ⟨3, by omega, rfl, by rw [EK.out, ← HEK.out]; exact hc2, hf2, ((hbe.out.alloc (by omega) _).trans hb0).trans hb2, by omega⟩
          case measure => simp [intOf]
        · go_wp2_with (fail)
          refine rounds_step _ ?_
          intro _ _
          go_wp2_with (fail)
          go_ret
          exact ⟨rfl, hbe.out, by omega, by rw [← HE1.out]; exact hc, hf⟩

end Go.Proofs.Ytpdaigenffecmaa
