/-
  Package vec: the calculator's dot. Package vec: the function that norm makes. Drafts of intervals and vectors.
-/
import Derived.Test.YtpdaigenffecmaaM17
import Derived.Test.YtpdaigenffecmaaM18
set_option linter.all false
namespace Go.Proofs.Ytpdaigenffecmaa
open Go.RowKit Go.Shelf

theorem OnlyB.undrew {p : Nat} {w w' : World} (h : OnlyB p w.drew w') : OnlyB p w w' := ⟨h.os, h.tape, h.output, h.size, h.block⟩

set_option maxHeartbeats 1000000 in
theorem c_dot (p : Nat) (x0 x1 x2 x3 x4 x5 y0 y1 y2 y3 y4 y5 e0 : Int) (w : World) (hp : p < w.heap.size) (hc : w.cell? ⟨p, 0, none⟩ = some (.int .i64 e0)) (hf : w.frozen? ⟨p, 0, none⟩ = false) :
    Calls Try.prog 73 #[.pointer (some ⟨p, 0, none⟩), .agg #[.int .i64 x0, .int .i64 x1, .int .i64 x2, .int .i64 x3, .int .i64 x4, .int .i64 x5], .agg #[.int .i64 y0, .int .i64 y1, .int .i64 y2, .int .i64 y3, .int .i64 y4, .int .i64 y5]] w
      (Took p (.agg #[.int .i64 (sum3 (spMul (x0, x1) (y0, y1)) (spMul (x2, x3) (y2, y3)) (spMul (x4, x5) (y4, y5))).1, .int .i64 (sum3 (spMul (x0, x1) (y0, y1)) (spMul (x2, x3) (y2, y3)) (spMul (x4, x5) (y4, y5))).2.1]) (sumE e0 (spMul (x0, x1) (y0, y1)) (spMul (x2, x3) (y2, y3)) (spMul (x4, x5) (y4, y5))) w) := by
  obtain ⟨ra, hra⟩ : ∃ r, r = spMul (x0, x1) (y0, y1) := ⟨_, rfl⟩
  obtain ⟨rb, hrb⟩ : ∃ r, r = spMul (x2, x3) (y2, y3) := ⟨_, rfl⟩
  obtain ⟨rc, hrc⟩ : ∃ r, r = spMul (x4, x5) (y4, y5) := ⟨_, rfl⟩
  rw [← hra, ← hrb, ← hrc]
  obtain ⟨em, hem⟩ : ∃ e, e = errTo e0 ra.2.2 rb.2.2 rc.2.2 3 := ⟨_, rfl⟩
  obtain ⟨r1, hr1⟩ : ∃ r, r = spAdd (ra.1, ra.2.1) (rb.1, rb.2.1) := ⟨_, rfl⟩
  obtain ⟨r2, hr2⟩ : ∃ r, r = spAdd (r1.1, r1.2.1) (rc.1, rc.2.1) := ⟨_, rfl⟩
  have q1 : sum3 ra rb rc = r2 := by rw [hr2, hr1]; rfl
  have q2 : sumE e0 ra rb rc = fst2 (fst2 em r1.2.2) r2.2.2 := by rw [hr2, hr1, hem]; rfl
  rw [q1, q2]
  clear q1 q2
  have HEM := Lib.hid hem; clear hem
  have HR1 := Lib.hid hr1; clear hr1
  have HR2 := Lib.hid hr2; clear hr2
  have HRA := Lib.hid hra; clear hra
  have HRB := Lib.hid hrb; clear hrb
  have HRC := Lib.hid hrc; clear hrc
  have hn0 : ¬ p = w.heap.size := by omega
  have hn1 : ¬ p = w.heap.size + 1 := by omega
  have hn2 : ¬ p = w.heap.size + 1 + 1 := by omega
  obtain ⟨W, hW⟩ : ∃ W, W = ((w.alloc (Obj.cells #[Value.int IntKind.i64 x0, Value.int IntKind.i64 x1, Value.int IntKind.i64 x2, Value.int IntKind.i64 x3, Value.int IntKind.i64 x4, Value.int IntKind.i64 x5] 25)).alloc (Obj.cells #[Value.int IntKind.i64 y0, Value.int IntKind.i64 y1, Value.int IntKind.i64 y2, Value.int IntKind.i64 y3, Value.int IntKind.i64 y4, Value.int IntKind.i64 y5] 25)).alloc (Obj.cells #[Value.int IntKind.i64 0, Value.int IntKind.i64 0] 23) := ⟨_, rfl⟩
  have hsW : w.heap.size + 1 + 1 < W.heap.size := by rw [hW]; simp
  have hcW : W.cell? ⟨p, 0, none⟩ = some (.int .i64 e0) := by rw [hW]; exact (World.cell?_alloc_past _ _ _ (by first | omega | (simp [go_sem]; done) | (simp [go_sem]; omega))).trans ((World.cell?_alloc_past _ _ _ (by first | omega | (simp [go_sem]; done) | (simp [go_sem]; omega))).trans ((World.cell?_alloc_past _ _ _ (by first | omega | (simp [go_sem]; done) | (simp [go_sem]; omega))).trans (hc)))
  have hfW : W.frozen? ⟨p, 0, none⟩ = false := by rw [hW]; exact (World.frozen?_alloc_past _ _ _ (by first | omega | (simp [go_sem]; done) | (simp [go_sem]; omega))).trans ((World.frozen?_alloc_past _ _ _ (by first | omega | (simp [go_sem]; done) | (simp [go_sem]; omega))).trans ((World.frozen?_alloc_past _ _ _ (by first | omega | (simp [go_sem]; done) | (simp [go_sem]; omega))).trans (hf)))
  have hB : Hid (OnlyB p w W) := by rw [hW]; unfold Hid; (repeat' (first | (with_reducible exact OnlyB.refl _ _) | (with_reducible refine OnlyB.set ?_ _ _ ?_) | (with_reducible refine OnlyB.alloc ?_ _) | (with_reducible refine OnlyB.drew ?_) | (with_reducible assumption) | (with_reducible refine OnlyB.of_below ?_ (by with_reducible assumption) ?_) | (with_reducible refine OnlyB.trans ?_ (by with_reducible assumption)) | omega | (simp; done) | (simp; omega)))
  have z0 : W.cell? ⟨w.heap.size + 1 + 1, 0, none⟩ = some (.int .i64 0) := by rw [hW]; simp [go_sem]
  have z1 : W.cell? ⟨w.heap.size + 1 + 1, 1, none⟩ = some (.int .i64 0) := by rw [hW]; simp [go_sem]
  have s0 : W.frozen? ⟨w.heap.size + 1 + 1, 0, none⟩ = false := by rw [hW]; simp [go_sem]
  have s1 : W.frozen? ⟨w.heap.size + 1 + 1, 1, none⟩ = false := by rw [hW]; simp [go_sem]
  go_enter Try.func73, Try.ntmps73
  go_wp2_with (fail)
  rw [← hW]
  clear hW hc hf
  go_at_call 64
  refine Calls.mono (c_each_mul p x0 x1 x2 x3 x4 x5 y0 y1 y2 y3 y4 y5 e0 W (by omega) hcW hfW) ?_
  rw [← HRA.out, ← HRB.out, ← HRC.out]
  rintro e w2 ⟨rfl, ho2, hc2, hf2⟩
  rw [← HEM.out] at hc2
  have hs2 := ho2.size
  (replace z0 := ko ho2 (by omega) (by omega) z0); (replace z1 := ko ho2 (by omega) (by omega) z1); (replace s0 := kof ho2 (by omega) (by omega) s0); (replace s1 := kof ho2 (by omega) (by omega) s1)
  clear hcW hfW
  have hn3 : ¬ p = w2.heap.size := by omega
  have hn4 : ¬ w.heap.size + 1 + 1 = w2.heap.size := by omega
  have hn5 : ¬ w2.heap.size = w.heap.size + 1 + 1 := by omega
  have hn6 : ¬ w2.heap.size = p := by omega
  have hn7 : ¬ w.heap.size + 1 + 1 = p := by omega
  obtain ⟨V, hV⟩ : ∃ V, V = w2.alloc (Obj.cells #[Value.int IntKind.i64 ra.1, Value.int IntKind.i64 ra.2.1, Value.int IntKind.i64 rb.1, Value.int IntKind.i64 rb.2.1, Value.int IntKind.i64 rc.1, Value.int IntKind.i64 rc.2.1] 25) := ⟨_, rfl⟩
  have hsV : V.heap.size = w2.heap.size + 1 := by rw [hV]; simp
  have hpV : p < V.heap.size := by omega
  have hrV : w2.heap.size < V.heap.size := by omega
  have hqV : w.heap.size + 1 + 1 + 1 ≤ V.heap.size := by omega
  clear hsV
  have hcV : V.cell? ⟨p, 0, none⟩ = some (.int .i64 em) := by rw [hV]; exact (World.cell?_alloc_past _ _ _ (by first | omega | (simp [go_sem]; done) | (simp [go_sem]; omega))).trans (hc2)
  have hfV : V.frozen? ⟨p, 0, none⟩ = false := by rw [hV]; exact (World.frozen?_alloc_past _ _ _ (by first | omega | (simp [go_sem]; done) | (simp [go_sem]; omega))).trans (hf2)
  have HOV : Hid (OnlyB p w2 V) := by rw [hV]; unfold Hid; (repeat' (first | (with_reducible exact OnlyB.refl _ _) | (with_reducible refine OnlyB.set ?_ _ _ ?_) | (with_reducible refine OnlyB.alloc ?_ _) | (with_reducible refine OnlyB.drew ?_) | (with_reducible assumption) | (with_reducible refine OnlyB.of_below ?_ (by with_reducible assumption) ?_) | (with_reducible refine OnlyB.trans ?_ (by with_reducible assumption)) | omega | (simp; done) | (simp; omega)))
  have t0 : V.cell? ⟨w2.heap.size, 0, none⟩ = some (.int .i64 ra.1) := by rw [hV]; simp [go_sem]
  have t1 : V.cell? ⟨w2.heap.size, 1, none⟩ = some (.int .i64 ra.2.1) := by rw [hV]; simp [go_sem]
  have t2 : V.cell? ⟨w2.heap.size, 2, none⟩ = some (.int .i64 rb.1) := by rw [hV]; simp [go_sem]
  have t3 : V.cell? ⟨w2.heap.size, 3, none⟩ = some (.int .i64 rb.2.1) := by rw [hV]; simp [go_sem]
  have t4 : V.cell? ⟨w2.heap.size, 4, none⟩ = some (.int .i64 rc.1) := by rw [hV]; simp [go_sem]
  have t5 : V.cell? ⟨w2.heap.size, 5, none⟩ = some (.int .i64 rc.2.1) := by rw [hV]; simp [go_sem]
  replace z0 : V.cell? ⟨w.heap.size + 1 + 1, 0, none⟩ = some (.int .i64 0) := by rw [hV]; exact (World.cell?_alloc_past _ _ _ (by first | omega | (simp [go_sem]; done) | (simp [go_sem]; omega))).trans (z0)
  replace z1 : V.cell? ⟨w.heap.size + 1 + 1, 1, none⟩ = some (.int .i64 0) := by rw [hV]; exact (World.cell?_alloc_past _ _ _ (by first | omega | (simp [go_sem]; done) | (simp [go_sem]; omega))).trans (z1)
  replace s0 : V.frozen? ⟨w.heap.size + 1 + 1, 0, none⟩ = false := by rw [hV]; exact (World.frozen?_alloc_past _ _ _ (by first | omega | (simp [go_sem]; done) | (simp [go_sem]; omega))).trans (s0)
  replace s1 : V.frozen? ⟨w.heap.size + 1 + 1, 1, none⟩ = false := by rw [hV]; exact (World.frozen?_alloc_past _ _ _ (by first | omega | (simp [go_sem]; done) | (simp [go_sem]; omega))).trans (s1)
  go_wp2_with (fail)
  rw [← hV]; clear hV
  go_region_held3 (fun w' => w'.cell? ⟨w2.heap.size, 0, none⟩ = some (.int .i64 ra.1) ∧ w'.cell? ⟨w2.heap.size, 1, none⟩ = some (.int .i64 ra.2.1) ∧ w'.cell? ⟨w2.heap.size, 2, none⟩ = some (.int .i64 rb.1) ∧ w'.cell? ⟨w2.heap.size, 3, none⟩ = some (.int .i64 rb.2.1) ∧ w'.cell? ⟨w2.heap.size, 4, none⟩ = some (.int .i64 rc.1) ∧ w'.cell? ⟨w2.heap.size, 5, none⟩ = some (.int .i64 rc.2.1)) (first | exact ⟨t0, t1, t2, t3, t4, t5⟩ | exact ⟨(World.cell?_setCell_far _ _ _ _ (by simp only; omega)).trans ((World.cell?_setCell_far _ _ _ _ (by simp only; omega)).trans (t0)), (World.cell?_setCell_far _ _ _ _ (by simp only; omega)).trans ((World.cell?_setCell_far _ _ _ _ (by simp only; omega)).trans (t1)), (World.cell?_setCell_far _ _ _ _ (by simp only; omega)).trans ((World.cell?_setCell_far _ _ _ _ (by simp only; omega)).trans (t2)), (World.cell?_setCell_far _ _ _ _ (by simp only; omega)).trans ((World.cell?_setCell_far _ _ _ _ (by simp only; omega)).trans (t3)), (World.cell?_setCell_far _ _ _ _ (by simp only; omega)).trans ((World.cell?_setCell_far _ _ _ _ (by simp only; omega)).trans (t4)), (World.cell?_setCell_far _ _ _ _ (by simp only; omega)).trans ((World.cell?_setCell_far _ _ _ _ (by simp only; omega)).trans (t5))⟩) (first | (go_at_call 65; refine (c_step_add p r1.1 r1.2.1 rc.1 rc.2.1 (fst2 em r1.2.2) w3 hp3 hc3 hf3).mono ?_; rw [← HR2.out]; rintro e w4 ⟨rfl, ho4, hc4, hf4⟩; (have hs4 := ho4.size); (have hp4 : p < w4.heap.size := by omega); (have hq4 : w.heap.size + 1 + 1 + 1 ≤ w4.heap.size := by omega); (have hr4 : w2.heap.size < w4.heap.size := by omega); (replace z0 := ko ho4 (by omega) (by omega) z0); (replace z1 := ko ho4 (by omega) (by omega) z1); (replace t0 := ko ho4 (by omega) (by omega) t0); (replace t1 := ko ho4 (by omega) (by omega) t1); (replace t2 := ko ho4 (by omega) (by omega) t2); (replace t3 := ko ho4 (by omega) (by omega) t3); (replace t4 := ko ho4 (by omega) (by omega) t4); (replace t5 := ko ho4 (by omega) (by omega) t5); (replace s0 := kof ho4 (by omega) (by omega) s0); (replace s1 := kof ho4 (by omega) (by omega) s1)) | (go_at_call 65; refine (c_step_add p ra.1 ra.2.1 rb.1 rb.2.1 em V.drew hpV hcV hfV).mono ?_; rw [← HR1.out]; rintro e w3 ⟨rfl, ho3, hc3, hf3⟩; (replace ho3 := OnlyB.undrew ho3); (have hs3 := ho3.size); (have hp3 : p < w3.heap.size := by omega); (have hq3 : w.heap.size + 1 + 1 + 1 ≤ w3.heap.size := by omega); (have hr3 : w2.heap.size < w3.heap.size := by omega); (replace z0 := ko ho3 (by omega) (by omega) z0); (replace z1 := ko ho3 (by omega) (by omega) z1); (replace t0 := ko ho3 (by omega) (by omega) t0); (replace t1 := ko ho3 (by omega) (by omega) t1); (replace t2 := ko ho3 (by omega) (by omega) t2); (replace t3 := ko ho3 (by omega) (by omega) t3); (replace t4 := ko ho3 (by omega) (by omega) t4); (replace t5 := ko ho3 (by omega) (by omega) t5); (replace s0 := kof ho3 (by omega) (by omega) s0); (replace s1 := kof ho3 (by omega) (by omega) s1)))
  go_wp2_with (fail)
  have HOW : Hid (OnlyB p w w4) := ((hB.out.trans ho2).trans HOV.out |>.trans ho3).trans ho4
  obtain ⟨F, hF⟩ : ∃ F, F = ((w4.setCell ⟨w.heap.size + 1 + 1, 0, none⟩ (Value.int IntKind.i64 r2.1)).setCell ⟨w.heap.size + 1 + 1, 1, none⟩ (Value.int IntKind.i64 r2.2.1)) := ⟨_, rfl⟩
  obtain ⟨g0, g1⟩ := st2 w4 (w.heap.size + 1 + 1) (r2.1) (r2.2.1) z0 z1
  rw [← hF] at g0 g1
  have hFC : F.cell? ⟨p, 0, none⟩ = some (.int .i64 (fst2 (fst2 em r1.2.2) r2.2.2)) := by rw [hF, World.cell?_setCell_far _ _ _ _ (by simp only; omega), World.cell?_setCell_far _ _ _ _ (by simp only; omega)]; exact hc4
  have hFF : F.frozen? ⟨p, 0, none⟩ = false := by rw [hF, World.frozen?_setCell, World.frozen?_setCell]; exact hf4
  have hFB : Hid (OnlyB p w F) := by rw [hF]; unfold Hid; exact (HOW.out.set _ _ (by simp only; omega)).set _ _ (by simp only; omega)
  rw [← hF]
  clear hF
  refine bodyPost_ret (v := .agg #[.int .i64 r2.1, .int .i64 r2.2.1]) (by simp [results, Try.results73, go_sem, g0, g1]) rfl ⟨rfl, hFB.out, hFC, hFF⟩
end Go.Proofs.Ytpdaigenffecmaa

namespace Go.Proofs.Ytpdaigenffecmaa
open Go.RowKit Go.Shelf

theorem Below.undrew {n : Nat} {w w' : World} (h : Below n w.drew w') : Below n w w' := ⟨h.os, h.tape, h.output, h.size, h.block⟩

set_option maxHeartbeats 1000000 in
theorem c_norm1 (q p : Nat) (al ah bl bh e0 : Int) (w : World) (hp : p < w.heap.size) (hq : q < w.heap.size) (hqp : ¬ q = p) (hqc : w.cell? ⟨q, 0, none⟩ = some (.pointer (some ⟨p, 0, none⟩))) (hc : w.cell? ⟨p, 0, none⟩ = some (.int .i64 e0)) (hf : w.frozen? ⟨p, 0, none⟩ = false) :
    Calls Try.prog 121 #[.agg #[.int .i64 al, .int .i64 ah], .agg #[.int .i64 bl, .int .i64 bh], .pointer (some ⟨q, 0, none⟩)] w
      (Took p (.agg #[.int .i64 (spPow (al, ah) 2).1, .int .i64 (spPow (al, ah) 2).2.1]) (fst2 e0 (spPow (al, ah) 2).2.2) w) := by
  obtain ⟨r, hr⟩ : ∃ r, r = spPow (al, ah) 2 := ⟨_, rfl⟩
  rw [← hr]
  have HR := Lib.hid hr; clear hr
  obtain ⟨W, hW⟩ : ∃ W, W = ((w.alloc (Obj.cells #[Value.int IntKind.i64 al, Value.int IntKind.i64 ah] 23)).alloc (Obj.cells #[Value.int IntKind.i64 bl, Value.int IntKind.i64 bh] 23)).alloc (Obj.cells #[Value.int IntKind.i64 0, Value.int IntKind.i64 0] 23) := ⟨_, rfl⟩
  have hsW : w.heap.size + 1 + 1 < W.heap.size := by rw [hW]; simp
  have hcW : W.cell? ⟨p, 0, none⟩ = some (.int .i64 e0) := by rw [hW]; exact (World.cell?_alloc_past _ _ _ (by first | omega | (simp [go_sem]; done) | (simp [go_sem]; omega))).trans ((World.cell?_alloc_past _ _ _ (by first | omega | (simp [go_sem]; done) | (simp [go_sem]; omega))).trans ((World.cell?_alloc_past _ _ _ (by first | omega | (simp [go_sem]; done) | (simp [go_sem]; omega))).trans (hc)))
  have hfW : W.frozen? ⟨p, 0, none⟩ = false := by rw [hW]; exact (World.frozen?_alloc_past _ _ _ (by first | omega | (simp [go_sem]; done) | (simp [go_sem]; omega))).trans ((World.frozen?_alloc_past _ _ _ (by first | omega | (simp [go_sem]; done) | (simp [go_sem]; omega))).trans ((World.frozen?_alloc_past _ _ _ (by first | omega | (simp [go_sem]; done) | (simp [go_sem]; omega))).trans (hf)))
  replace hqc : W.cell? ⟨q, 0, none⟩ = some (.pointer (some ⟨p, 0, none⟩)) := by rw [hW]; exact (World.cell?_alloc_past _ _ _ (by first | omega | (simp [go_sem]; done) | (simp [go_sem]; omega))).trans ((World.cell?_alloc_past _ _ _ (by first | omega | (simp [go_sem]; done) | (simp [go_sem]; omega))).trans ((World.cell?_alloc_past _ _ _ (by first | omega | (simp [go_sem]; done) | (simp [go_sem]; omega))).trans (hqc)))
  have hB : Hid (OnlyB p w W) := by rw [hW]; unfold Hid; (repeat' (first | (with_reducible exact OnlyB.refl _ _) | (with_reducible refine OnlyB.set ?_ _ _ ?_) | (with_reducible refine OnlyB.alloc ?_ _) | (with_reducible refine OnlyB.drew ?_) | (with_reducible assumption) | (with_reducible refine OnlyB.of_below ?_ (by with_reducible assumption) ?_) | (with_reducible refine OnlyB.trans ?_ (by with_reducible assumption)) | omega | (simp; done) | (simp; omega)))
  have a0 : W.cell? ⟨w.heap.size, 0, none⟩ = some (.int .i64 al) := by rw [hW]; simp [go_sem]
  have a1 : W.cell? ⟨w.heap.size, 1, none⟩ = some (.int .i64 ah) := by rw [hW]; simp [go_sem]
  have z0 : W.cell? ⟨w.heap.size + 1 + 1, 0, none⟩ = some (.int .i64 0) := by rw [hW]; simp [go_sem]
  have z1 : W.cell? ⟨w.heap.size + 1 + 1, 1, none⟩ = some (.int .i64 0) := by rw [hW]; simp [go_sem]
  have s0 : W.frozen? ⟨w.heap.size + 1 + 1, 0, none⟩ = false := by rw [hW]; simp [go_sem]
  have s1 : W.frozen? ⟨w.heap.size + 1 + 1, 1, none⟩ = false := by rw [hW]; simp [go_sem]
  clear hc hf
  go_enter Try.func121, Try.ntmps121
  go_wp2_with (fail)
  rw [← hW]
  clear hW
  go_region_held3 (fun w' => w'.cell? ⟨q, 0, none⟩ = some (.pointer (some ⟨p, 0, none⟩)) ∧ w'.cell? ⟨w.heap.size, 0, none⟩ = some (.int .i64 al) ∧ w'.cell? ⟨w.heap.size, 1, none⟩ = some (.int .i64 ah)) (first | exact ⟨hqc, a0, a1⟩ | exact ⟨(World.cell?_setCell_far _ _ _ _ (by simp only; omega)).trans ((World.cell?_setCell_far _ _ _ _ (by simp only; omega)).trans (hqc)), (World.cell?_setCell_far _ _ _ _ (by simp only; omega)).trans ((World.cell?_setCell_far _ _ _ _ (by simp only; omega)).trans (a0)), (World.cell?_setCell_far _ _ _ _ (by simp only; omega)).trans ((World.cell?_setCell_far _ _ _ _ (by simp only; omega)).trans (a1))⟩) (first | (go_at_call 120; refine (c_take6 p r.1 r.2.1 e0 r.2.2 w3 (by omega) hcW hfW).mono ?_; rintro e w4 ⟨rfl, ho4, hc4, hf4⟩; (have hs4 := ho4.size); (replace hqc : w4.cell? ⟨q, 0, none⟩ = some (.pointer (some ⟨p, 0, none⟩)) := (ho4.cell (by omega) (by omega)).trans hqc); (replace a0 := ko ho4 (by omega) (by omega) a0); (replace a1 := ko ho4 (by omega) (by omega) a1); (replace z0 := ko ho4 (by omega) (by omega) z0); (replace z1 := ko ho4 (by omega) (by omega) z1); (replace s0 := kof ho4 (by omega) (by omega) s0); (replace s1 := kof ho4 (by omega) (by omega) s1)) | (go_at_call 47; refine (c_spanSqr al ah W.drew).mono ?_; rw [← HR.out]; rintro e w3 ⟨rfl, hb3⟩; (replace hb3 : Below W.heap.size W w3 := Below.undrew hb3); (have hs3 := hb3.size); (replace hqc : w3.cell? ⟨q, 0, none⟩ = some (.pointer (some ⟨p, 0, none⟩)) := ((bcell hb3).1 _ _ (by omega)).trans hqc); (replace hcW : w3.cell? ⟨p, 0, none⟩ = some (.int .i64 e0) := ((bcell hb3).1 _ _ (by omega)).trans hcW); (replace hfW : w3.frozen? ⟨p, 0, none⟩ = false := ((bcell hb3).2 _ _ (by omega)).trans hfW); (replace a0 := kp hb3 (by omega) a0); (replace a1 := kp hb3 (by omega) a1); (replace z0 := kp hb3 (by omega) z0); (replace z1 := kp hb3 (by omega) z1); (replace s0 := kf hb3 (by omega) s0); (replace s1 := kf hb3 (by omega) s1)))
  go_wp2_with (fail)
  obtain ⟨F, hF⟩ : ∃ F, F = ((w4.setCell ⟨w.heap.size + 1 + 1, 0, none⟩ (Value.int IntKind.i64 r.1)).setCell ⟨w.heap.size + 1 + 1, 1, none⟩ (Value.int IntKind.i64 r.2.1)) := ⟨_, rfl⟩
  obtain ⟨g0, g1⟩ := st2 w4 (w.heap.size + 1 + 1) (r.1) (r.2.1) z0 z1
  rw [← hF] at g0 g1
  have hFC : F.cell? ⟨p, 0, none⟩ = some (.int .i64 (fst2 e0 r.2.2)) := by rw [hF, World.cell?_setCell_far _ _ _ _ (by simp only; omega), World.cell?_setCell_far _ _ _ _ (by simp only; omega)]; exact hc4
  have hFF : F.frozen? ⟨p, 0, none⟩ = false := by rw [hF, World.frozen?_setCell, World.frozen?_setCell]; exact hf4
  have HOW : Hid (OnlyB p w w4) := (OnlyB.of_below hB.out hb3 (by omega)).trans ho4
  have hFB : Hid (OnlyB p w F) := by rw [hF]; unfold Hid; exact (HOW.out.set _ _ (by simp only; omega)).set _ _ (by simp only; omega)
  rw [← hF]
  clear hF
  refine bodyPost_ret (v := .agg #[.int .i64 r.1, .int .i64 r.2.1]) (by simp [results, Try.results121, go_sem, g0, g1]) rfl ⟨rfl, hFB.out, hFC, hFF⟩
end Go.Proofs.Ytpdaigenffecmaa

namespace Go.Proofs.Ytpdaigenffecmaa
open Go.RowKit Go.Shelf

theorem pow_bounds (n m : Nat) (h : n ≤ m) : (1 : Int) ≤ 2 ^ n ∧ (2 : Int) ^ n ≤ 2 ^ m := by
  have h1 : (1 : Nat) ≤ 2 ^ n := Nat.one_le_two_pow
  have h2 : 2 ^ n ≤ 2 ^ m := Nat.pow_le_pow_right (by decide) h
  constructor
  · exact_mod_cast h1
  · exact_mod_cast h2
theorem tmod_bounds (a P : Int) (h : 0 < P) : -P < a.tmod P ∧ a.tmod P < P := by
  have h1 := Int.tmod_lt_of_pos a h
  have h2 := Int.lt_tmod_of_pos a h
  exact ⟨h2, h1⟩
theorem w64_id {x : Int} (h1 : -9223372036854775808 ≤ x) (h2 : x ≤ 9223372036854775807) : wrap64 x = x := by unfold wrap64; omega
/-- The number 2 to a draft's exponent, and what the code makes of it. -/
theorem pow_code (b : Int) (k m : Nat) (M : Int) (hM : M = 2 ^ m) (hm : k ≤ m + 1) (hk : 0 < k) (hM2 : M ≤ 4611686018427387904) :
    ∃ P : Int, wrap64 (2 ^ (b % (k : Int)).toNat) = P ∧ wrap64 (P + 1) = P + 1 ∧ 1 ≤ P ∧ P ≤ M := by
  have hb : (b % (k : Int)).toNat ≤ m := by
    have := Int.emod_lt_of_pos b (show (0 : Int) < k by omega)
    omega
  obtain ⟨h1, h2⟩ := pow_bounds _ _ hb
  rw [← hM] at h2
  exact ⟨_, rfl, w64_id (by rw [w64_id (by omega) (by omega)]; omega) (by rw [w64_id (by omega) (by omega)]; omega), by rw [w64_id (by omega) (by omega)]; omega, by rw [w64_id (by omega) (by omega)]; omega⟩
theorem shr_code (wd : Int) (n : Nat) (hw : 0 ≤ wd ∧ wd ≤ 4294967295) : ∃ Q : Int, wrap64 (wd / 2 ^ n) = Q ∧ 0 ≤ Q ∧ Q ≤ 4294967295 := by
  have h0 : 0 ≤ wd / 2 ^ n := Int.ediv_nonneg hw.1 (by have := (pow_bounds n n (Nat.le_refl _)).1; omega)
  have h1 : wd / 2 ^ n ≤ wd := Int.ediv_le_self _ hw.1
  exact ⟨_, rfl, by rw [w64_id (by omega) (by omega)]; exact h0, by rw [w64_id (by omega) (by omega)]; omega⟩

/-- The ends of a small draft. -/
def SmallI (lo hi : Int) : Prop := -68719476736 ≤ lo ∧ lo ≤ 68719476736 ∧ lo ≤ hi ∧ hi ≤ lo + 4294967295
theorem SmallI.ok {lo hi : Int} (h : SmallI lo hi) : spChk (lo, hi) = 0 := by
  obtain ⟨h1, h2, h3, h4⟩ := h
  exact spChk_mk (by simp only; omega) (by simp only; omega) (by simp only; omega)

theorem c_dsmall (at_ b wd : Int) (hb : 0 ≤ b ∧ b ≤ 255) (hw : 0 ≤ wd ∧ wd ≤ 4294967295) (w : World) :
    Calls Try.prog 101 #[.agg #[.int .i64 at_, .int .u8 b, .int .u32 wd]] w fun e w' => ∃ lo hi, SmallI lo hi ∧ e = .returned (.agg #[.int .i64 lo, .int .i64 hi]) ∧ Below w.heap.size w w' := by
  obtain ⟨P, hp1, hp2, hp3, hp4⟩ := pow_code b 37 36 68719476736 (by decide) (by decide) (by decide) (by decide)
  obtain ⟨Q, hq1, hq2, hq3⟩ := shr_code wd (b % 32).toNat hw
  rw [show ((37 : Nat) : Int) = 37 from rfl] at hp1
  have ht := tmod_bounds at_ (P + 1) (by omega)
  obtain ⟨lo, hlo⟩ : ∃ lo, at_.tmod (P + 1) = lo := ⟨_, rfl⟩
  rw [hlo] at ht
  have hz : ¬ P + 1 = 0 := by omega
  have hs : wrap64 (lo + Q) = lo + Q := w64_id (by omega) (by omega)
  have HV : Hid (SmallI lo (lo + Q)) := by unfold Hid SmallI; omega
  clear ht hp3 hp4 hq2 hq3
  go_enter Try.func101, Try.ntmps101
  go_wp2_with (fail)
  refine bodyPost_ret (v := .agg #[.int .i64 lo, .int .i64 (lo + Q)]) (by simp [results, Try.results101, go_sem, *]) rfl ⟨lo, lo + Q, HV.out, rfl, by (repeat' (first | (with_reducible exact Below.refl _ _) | (with_reducible refine Below.setCell ?_ ?_ _) | (with_reducible refine Below.alloc ?_ ?_ _) | (with_reducible refine Below.drew ?_) | (with_reducible refine below_drewN ?_ _) | (with_reducible assumption) | (with_reducible refine Below.trans ?_ (Below.mono (by with_reducible assumption) ?_)) | omega | (simp; done) | (simp; omega) | (simp [World.setCell]; omega)))⟩

theorem c_dspan (at_ b wd : Int) (hb : 0 ≤ b ∧ b ≤ 255) (hw : 0 ≤ wd ∧ wd ≤ 4294967295) (w : World) :
    Calls Try.prog 100 #[.agg #[.int .i64 at_, .int .u8 b, .int .u32 wd]] w fun e w' => ∃ lo hi, spChk (lo, hi) = 0 ∧ e = .returned (.agg #[.int .i64 lo, .int .i64 hi]) ∧ Below w.heap.size w w' := by
  obtain ⟨P, hp1, hp2, hp3, hp4⟩ := pow_code b 52 51 2251799813685248 (by decide) (by decide) (by decide) (by decide)
  rw [show ((52 : Nat) : Int) = 52 from rfl] at hp1
  have ht := tmod_bounds at_ (P + 1) (by omega)
  obtain ⟨lo, hlo⟩ : ∃ lo, at_.tmod (P + 1) = lo := ⟨_, rfl⟩
  rw [hlo] at ht
  have hz : ¬ P + 1 = 0 := by omega
  have hq : wrap64 wd = wd := w64_id (by omega) (by omega)
  have hs : wrap64 (lo + wd) = lo + wd := w64_id (by omega) (by omega)
  have HV : Hid (spChk (lo, min (lo + wd) 4503599627370496) = 0) := by unfold Hid; exact spChk_mk (by simp only; omega) (by simp only; omega) (by simp only; omega)
  clear ht hp3 hp4
  go_enter Try.func100, Try.ntmps100
  go_wp2_with (fail)

  refine bodyPost_ret (v := .agg #[.int .i64 lo, .int .i64 (min (lo + wd) 4503599627370496)]) (by simp [results, Try.results100, go_sem, *]) rfl ⟨lo, _, HV.out, rfl, by (repeat' (first | (with_reducible exact Below.refl _ _) | (with_reducible refine Below.setCell ?_ ?_ _) | (with_reducible refine Below.alloc ?_ ?_ _) | (with_reducible refine Below.drew ?_) | (with_reducible refine below_drewN ?_ _) | (with_reducible assumption) | (with_reducible refine Below.trans ?_ (Below.mono (by with_reducible assumption) ?_)) | omega | (simp; done) | (simp; omega) | (simp [World.setCell]; omega)))⟩

end Go.Proofs.Ytpdaigenffecmaa
