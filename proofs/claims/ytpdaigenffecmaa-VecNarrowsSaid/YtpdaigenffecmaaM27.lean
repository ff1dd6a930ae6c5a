/-
  Package vec: Neg, Check, Dot, Norm.
-/
import Derived.Test.YtpdaigenffecmaaM21
import Derived.Test.YtpdaigenffecmaaM22
import Derived.Test.YtpdaigenffecmaaM23
import Derived.Test.YtpdaigenffecmaaM26
set_option linter.all false
namespace Go.Proofs.Ytpdaigenffecmaa
open Go.RowKit Go.Shelf

set_option maxHeartbeats 2000000 in
theorem c_vecNeg (x0 x1 x2 x3 x4 x5 : Int) (w : World) :
    Calls Try.prog 21 #[.agg #[.int .i64 x0, .int .i64 x1, .int .i64 x2, .int .i64 x3, .int .i64 x4, .int .i64 x5]] w fun e w' => e = .returned (vRes (errTo (chk3 0 x0 x1 x2 x3 x4 x5 3) (spNeg (x0, x1)).2.2 (spNeg (x2, x3)).2.2 (spNeg (x4, x5)).2.2 3) (spNeg (x0, x1)) (spNeg (x2, x3)) (spNeg (x4, x5))) ∧ Below w.heap.size w w' := by
  obtain ⟨ra, hra⟩ : ∃ r, r = spNeg (x0, x1) := ⟨_, rfl⟩
  obtain ⟨rb, hrb⟩ : ∃ r, r = spNeg (x2, x3) := ⟨_, rfl⟩
  obtain ⟨rc, hrc⟩ : ∃ r, r = spNeg (x4, x5) := ⟨_, rfl⟩
  obtain ⟨e0, he0⟩ : ∃ e, e = chk3 0 x0 x1 x2 x3 x4 x5 3 := ⟨_, rfl⟩
  rw [← hra, ← hrb, ← hrc, ← he0]
  obtain ⟨ek, hek⟩ : ∃ ek, ek = errTo e0 ra.2.2 rb.2.2 rc.2.2 3 := ⟨_, rfl⟩
  rw [← hek]
  obtain ⟨n0, n1, n2, n3, n4, n5, hn⟩ := vRes_form ek ra rb rc
  rw [hn]
  have HN := Lib.hid hn; clear hn
  have HEK := Lib.hid hek; clear hek
  have HE0 := Lib.hid he0; clear he0
  have HRA := Lib.hid hra; clear hra
  have HRB := Lib.hid hrb; clear hrb
  have HRC := Lib.hid hrc; clear hrc

  obtain ⟨W, hW⟩ : ∃ W, W = ((w.alloc (Obj.cells #[Value.int IntKind.i64 x0, Value.int IntKind.i64 x1, Value.int IntKind.i64 x2, Value.int IntKind.i64 x3, Value.int IntKind.i64 x4, Value.int IntKind.i64 x5] 25)).alloc (Obj.cells #[Value.int IntKind.i64 0, Value.int IntKind.i64 0, Value.int IntKind.i64 0, Value.int IntKind.i64 0, Value.int IntKind.i64 0, Value.int IntKind.i64 0] 25)).alloc (Obj.cells #[Value.int IntKind.i64 x0, Value.int IntKind.i64 x1, Value.int IntKind.i64 x2, Value.int IntKind.i64 x3, Value.int IntKind.i64 x4, Value.int IntKind.i64 x5] 25) := ⟨_, rfl⟩
  have hsW : w.heap.size + 1 + 1 < W.heap.size := by rw [hW]; simp
  have hB : Hid (Below w.heap.size w W) := by rw [hW]; unfold Hid; (repeat' (first | (with_reducible exact Below.refl _ _) | (with_reducible refine Below.setCell ?_ ?_ _) | (with_reducible refine Below.alloc ?_ ?_ _) | (with_reducible refine Below.drew ?_) | (with_reducible refine below_drewN ?_ _) | (with_reducible assumption) | (with_reducible refine Below.trans ?_ (Below.mono (by with_reducible assumption) ?_)) | omega | (simp; done) | (simp; omega) | (simp [World.setCell]; omega)))
  have hT : Hid (Tab6 W (w.heap.size + 1 + 1) (six x0 x1 x2 x3 x4 x5)) := by
    rw [hW]; intro j hj; rcases (by omega : j = 0 ∨ j = 1 ∨ j = 2 ∨ j = 3 ∨ j = 4 ∨ j = 5) with rfl | rfl | rfl | rfl | rfl | rfl <;> simp [go_sem, six]
  have a0 : W.cell? ⟨w.heap.size, 0, none⟩ = some (.int .i64 x0) := by rw [hW]; simp [go_sem]
  have a1 : W.cell? ⟨w.heap.size, 1, none⟩ = some (.int .i64 x1) := by rw [hW]; simp [go_sem]
  have a2 : W.cell? ⟨w.heap.size, 2, none⟩ = some (.int .i64 x2) := by rw [hW]; simp [go_sem]
  have a3 : W.cell? ⟨w.heap.size, 3, none⟩ = some (.int .i64 x3) := by rw [hW]; simp [go_sem]
  have a4 : W.cell? ⟨w.heap.size, 4, none⟩ = some (.int .i64 x4) := by rw [hW]; simp [go_sem]
  have a5 : W.cell? ⟨w.heap.size, 5, none⟩ = some (.int .i64 x5) := by rw [hW]; simp [go_sem]
  have z0 : W.cell? ⟨w.heap.size + 1, 0, none⟩ = some (.int .i64 0) := by rw [hW]; simp [go_sem]
  have z1 : W.cell? ⟨w.heap.size + 1, 1, none⟩ = some (.int .i64 0) := by rw [hW]; simp [go_sem]
  have z2 : W.cell? ⟨w.heap.size + 1, 2, none⟩ = some (.int .i64 0) := by rw [hW]; simp [go_sem]
  have z3 : W.cell? ⟨w.heap.size + 1, 3, none⟩ = some (.int .i64 0) := by rw [hW]; simp [go_sem]
  have z4 : W.cell? ⟨w.heap.size + 1, 4, none⟩ = some (.int .i64 0) := by rw [hW]; simp [go_sem]
  have z5 : W.cell? ⟨w.heap.size + 1, 5, none⟩ = some (.int .i64 0) := by rw [hW]; simp [go_sem]
  have s0 : W.frozen? ⟨w.heap.size + 1, 0, none⟩ = false := by rw [hW]; simp [go_sem]
  have s1 : W.frozen? ⟨w.heap.size + 1, 1, none⟩ = false := by rw [hW]; simp [go_sem]
  have s2 : W.frozen? ⟨w.heap.size + 1, 2, none⟩ = false := by rw [hW]; simp [go_sem]
  have s3 : W.frozen? ⟨w.heap.size + 1, 3, none⟩ = false := by rw [hW]; simp [go_sem]
  have s4 : W.frozen? ⟨w.heap.size + 1, 4, none⟩ = false := by rw [hW]; simp [go_sem]
  have s5 : W.frozen? ⟨w.heap.size + 1, 5, none⟩ = false := by rw [hW]; simp [go_sem]
  go_enter Try.func21, Try.ntmps21
  go_wp2_with (fail)
  rw [← hW]
  clear hW
  go_at_call 62
  refine Calls.mono (c_all1' _ _ x0 x1 x2 x3 x4 x5 W (by omega) hT) ?_
  rintro e w1 ⟨rfl, hb1, hz1, hcP, hfP⟩
  rw [← HE0.out] at hcP
  have hs1 := hb1.size
  (replace a0 := kp hb1 (by omega) a0); (replace a1 := kp hb1 (by omega) a1); (replace a2 := kp hb1 (by omega) a2); (replace a3 := kp hb1 (by omega) a3); (replace a4 := kp hb1 (by omega) a4); (replace a5 := kp hb1 (by omega) a5); (replace z0 := kp hb1 (by omega) z0); (replace z1 := kp hb1 (by omega) z1); (replace z2 := kp hb1 (by omega) z2); (replace z3 := kp hb1 (by omega) z3); (replace z4 := kp hb1 (by omega) z4); (replace z5 := kp hb1 (by omega) z5); (replace s0 := kf hb1 (by omega) s0); (replace s1 := kf hb1 (by omega) s1); (replace s2 := kf hb1 (by omega) s2); (replace s3 := kf hb1 (by omega) s3); (replace s4 := kf hb1 (by omega) s4); (replace s5 := kf hb1 (by omega) s5)
  go_wp2_with (fail)
  (go_at_call 64; refine (c_each_neg W.heap.size x0 x1 x2 x3 x4 x5 x0 x1 x2 x3 x4 x5 e0 w1 (show W.heap.size < w1.heap.size by omega) hcP hfP).mono ?_; rw [← HRA.out, ← HRB.out, ← HRC.out, ← HEK.out]; rintro e w2 ⟨rfl, ho2, hcN, hfN⟩; (replace hcP := hcN); (replace hfP := hfN); (have hs2 := ho2.size); (have HB2 : Below w.heap.size w1 w2 := ho2.toBelow (by omega) (by omega)); (replace a0 := ko ho2 (by omega) (by omega) a0); (replace a1 := ko ho2 (by omega) (by omega) a1); (replace a2 := ko ho2 (by omega) (by omega) a2); (replace a3 := ko ho2 (by omega) (by omega) a3); (replace a4 := ko ho2 (by omega) (by omega) a4); (replace a5 := ko ho2 (by omega) (by omega) a5); (replace z0 := ko ho2 (by omega) (by omega) z0); (replace z1 := ko ho2 (by omega) (by omega) z1); (replace z2 := ko ho2 (by omega) (by omega) z2); (replace z3 := ko ho2 (by omega) (by omega) z3); (replace z4 := ko ho2 (by omega) (by omega) z4); (replace z5 := ko ho2 (by omega) (by omega) z5); (replace s0 := kof ho2 (by omega) (by omega) s0); (replace s1 := kof ho2 (by omega) (by omega) s1); (replace s2 := kof ho2 (by omega) (by omega) s2); (replace s3 := kof ho2 (by omega) (by omega) s3); (replace s4 := kof ho2 (by omega) (by omega) s4); (replace s5 := kof ho2 (by omega) (by omega) s5))
  go_wp2_with (fail)
  (go_at_call 63; refine (c_toldV W.heap.size ra rb rc ek w2 (show W.heap.size < w2.heap.size by omega) hcP).mono ?_; rw [HN.out]; rintro e w3 ⟨rfl, hb3⟩; (have hs3 := hb3.size); (replace hcP : w3.cell? ⟨W.heap.size, 0, none⟩ = some (.int .i64 (ek)) := ((bcell hb3).1 _ _ (by omega)).trans hcP); (replace hfP : w3.frozen? ⟨W.heap.size, 0, none⟩ = false := ((bcell hb3).2 _ _ (by omega)).trans hfP); (replace a0 := kp hb3 (by omega) a0); (replace a1 := kp hb3 (by omega) a1); (replace a2 := kp hb3 (by omega) a2); (replace a3 := kp hb3 (by omega) a3); (replace a4 := kp hb3 (by omega) a4); (replace a5 := kp hb3 (by omega) a5); (replace z0 := kp hb3 (by omega) z0); (replace z1 := kp hb3 (by omega) z1); (replace z2 := kp hb3 (by omega) z2); (replace z3 := kp hb3 (by omega) z3); (replace z4 := kp hb3 (by omega) z4); (replace z5 := kp hb3 (by omega) z5); (replace s0 := kf hb3 (by omega) s0); (replace s1 := kf hb3 (by omega) s1); (replace s2 := kf hb3 (by omega) s2); (replace s3 := kf hb3 (by omega) s3); (replace s4 := kf hb3 (by omega) s4); (replace s5 := kf hb3 (by omega) s5))
  go_wp2_with (fail)
  have HB := hB.out
  obtain ⟨F, hF⟩ : ∃ F, F = ((((((w3.setCell ⟨w.heap.size + 1, 0, none⟩ (Value.int IntKind.i64 n0)).setCell ⟨w.heap.size + 1, 1, none⟩ (Value.int IntKind.i64 n1)).setCell ⟨w.heap.size + 1, 2, none⟩ (Value.int IntKind.i64 n2)).setCell ⟨w.heap.size + 1, 3, none⟩ (Value.int IntKind.i64 n3)).setCell ⟨w.heap.size + 1, 4, none⟩ (Value.int IntKind.i64 n4)).setCell ⟨w.heap.size + 1, 5, none⟩ (Value.int IntKind.i64 n5)) := ⟨_, rfl⟩
  have g := st6 w3 (w.heap.size + 1) (n0) (n1) (n2) (n3) (n4) (n5) z0 z1 z2 z3 z4 z5
  rw [← hF] at g
  have g0 : F.cell? ⟨w.heap.size + 1, 0, none⟩ = some (.int .i64 (n0)) := g 0 (by decide)
  have g1 : F.cell? ⟨w.heap.size + 1, 1, none⟩ = some (.int .i64 (n1)) := g 1 (by decide)
  have g2 : F.cell? ⟨w.heap.size + 1, 2, none⟩ = some (.int .i64 (n2)) := g 2 (by decide)
  have g3 : F.cell? ⟨w.heap.size + 1, 3, none⟩ = some (.int .i64 (n3)) := g 3 (by decide)
  have g4 : F.cell? ⟨w.heap.size + 1, 4, none⟩ = some (.int .i64 (n4)) := g 4 (by decide)
  have g5 : F.cell? ⟨w.heap.size + 1, 5, none⟩ = some (.int .i64 (n5)) := g 5 (by decide)
  clear g
  have hFB : Hid (Below w.heap.size w F) := by rw [hF]; unfold Hid; (repeat' (first | (with_reducible exact Below.refl _ _) | (with_reducible refine Below.setCell ?_ ?_ _) | (with_reducible refine Below.alloc ?_ ?_ _) | (with_reducible refine Below.drew ?_) | (with_reducible refine below_drewN ?_ _) | (with_reducible assumption) | (with_reducible refine Below.trans ?_ (Below.mono (by with_reducible assumption) ?_)) | omega | (simp; done) | (simp; omega) | (simp [World.setCell]; omega)))
  rw [← hF]
  clear hF
  refine bodyPost_ret (v := .tuple #[.agg #[.int .i64 n0, .int .i64 n1, .int .i64 n2, .int .i64 n3, .int .i64 n4, .int .i64 n5], .int .i64 ek]) (by simp [results, Try.results21, go_sem, g0, g1, g2, g3, g4, g5]) rfl ⟨rfl, hFB.out⟩


set_option maxHeartbeats 2000000 in
theorem c_vecCheck (x0 x1 x2 x3 x4 x5 : Int) (w : World) :
    Calls Try.prog 32 #[.agg #[.int .i64 x0, .int .i64 x1, .int .i64 x2, .int .i64 x3, .int .i64 x4, .int .i64 x5]] w fun e w' => e = .returned (.int .i64 (chk3 0 x0 x1 x2 x3 x4 x5 3)) ∧ Below w.heap.size w w' := by
  obtain ⟨e0, he0⟩ : ∃ e, e = chk3 0 x0 x1 x2 x3 x4 x5 3 := ⟨_, rfl⟩
  rw [← he0]
  have HE0 := Lib.hid he0; clear he0

  obtain ⟨W, hW⟩ : ∃ W, W = (w.alloc (Obj.cells #[Value.int IntKind.i64 x0, Value.int IntKind.i64 x1, Value.int IntKind.i64 x2, Value.int IntKind.i64 x3, Value.int IntKind.i64 x4, Value.int IntKind.i64 x5] 25)).alloc (Obj.cells #[Value.int IntKind.i64 x0, Value.int IntKind.i64 x1, Value.int IntKind.i64 x2, Value.int IntKind.i64 x3, Value.int IntKind.i64 x4, Value.int IntKind.i64 x5] 25) := ⟨_, rfl⟩
  have hsW : w.heap.size + 1 < W.heap.size := by rw [hW]; simp
  have hB : Hid (Below w.heap.size w W) := by rw [hW]; unfold Hid; (repeat' (first | (with_reducible exact Below.refl _ _) | (with_reducible refine Below.setCell ?_ ?_ _) | (with_reducible refine Below.alloc ?_ ?_ _) | (with_reducible refine Below.drew ?_) | (with_reducible refine below_drewN ?_ _) | (with_reducible assumption) | (with_reducible refine Below.trans ?_ (Below.mono (by with_reducible assumption) ?_)) | omega | (simp; done) | (simp; omega) | (simp [World.setCell]; omega)))
  have hT : Hid (Tab6 W (w.heap.size + 1) (six x0 x1 x2 x3 x4 x5)) := by
    rw [hW]; intro j hj; rcases (by omega : j = 0 ∨ j = 1 ∨ j = 2 ∨ j = 3 ∨ j = 4 ∨ j = 5) with rfl | rfl | rfl | rfl | rfl | rfl <;> simp [go_sem, six]
  go_enter Try.func32, Try.ntmps32
  go_wp2_with (fail)
  rw [← hW]
  clear hW
  go_at_call 62
  refine Calls.mono (c_all1' _ _ x0 x1 x2 x3 x4 x5 W (by omega) hT) ?_
  rintro e w1 ⟨rfl, hb1, hz1, hcP, hfP⟩
  rw [← HE0.out] at hcP
  have hs1 := hb1.size
  
  go_wp2_with (fail)
  have HB := hB.out
  refine bodyPost_ret (v := .int .i64 e0) (by simp [results, Try.results32, go_sem, hcP]) rfl ⟨rfl, by (repeat' (first | (with_reducible exact Below.refl _ _) | (with_reducible refine Below.setCell ?_ ?_ _) | (with_reducible refine Below.alloc ?_ ?_ _) | (with_reducible refine Below.drew ?_) | (with_reducible refine below_drewN ?_ _) | (with_reducible assumption) | (with_reducible refine Below.trans ?_ (Below.mono (by with_reducible assumption) ?_)) | omega | (simp; done) | (simp; omega) | (simp [World.setCell]; omega)))⟩

set_option maxHeartbeats 2000000 in
theorem c_vecDot (x0 x1 x2 x3 x4 x5 y0 y1 y2 y3 y4 y5 : Int) (w : World) :
    Calls Try.prog 18 #[.agg #[.int .i64 x0, .int .i64 x1, .int .i64 x2, .int .i64 x3, .int .i64 x4, .int .i64 x5], .agg #[.int .i64 y0, .int .i64 y1, .int .i64 y2, .int .i64 y3, .int .i64 y4, .int .i64 y5]] w fun e w' => e = .returned (iRes (sumE (chk3 (chk3 0 x0 x1 x2 x3 x4 x5 3) y0 y1 y2 y3 y4 y5 3) (spMul (x0, x1) (y0, y1)) (spMul (x2, x3) (y2, y3)) (spMul (x4, x5) (y4, y5))) (sum3 (spMul (x0, x1) (y0, y1)) (spMul (x2, x3) (y2, y3)) (spMul (x4, x5) (y4, y5)))) ∧ Below w.heap.size w w' := by
  obtain ⟨ra, hra⟩ : ∃ r, r = spMul (x0, x1) (y0, y1) := ⟨_, rfl⟩
  obtain ⟨rb, hrb⟩ : ∃ r, r = spMul (x2, x3) (y2, y3) := ⟨_, rfl⟩
  obtain ⟨rc, hrc⟩ : ∃ r, r = spMul (x4, x5) (y4, y5) := ⟨_, rfl⟩
  obtain ⟨e0, he0⟩ : ∃ e, e = chk3 (chk3 0 x0 x1 x2 x3 x4 x5 3) y0 y1 y2 y3 y4 y5 3 := ⟨_, rfl⟩
  rw [← hra, ← hrb, ← hrc, ← he0]
  obtain ⟨rd, hrd⟩ : ∃ r, r = sum3 ra rb rc := ⟨_, rfl⟩
  rw [← hrd]
  obtain ⟨ek, hek⟩ : ∃ ek, ek = sumE e0 ra rb rc := ⟨_, rfl⟩
  rw [← hek]
  obtain ⟨n0, n1, hn⟩ := iRes_form ek rd
  rw [hn]
  have HN := Lib.hid hn; clear hn
  have HEK := Lib.hid hek; clear hek
  have HE0 := Lib.hid he0; clear he0
  have HRD := Lib.hid hrd; clear hrd
  have HRA := Lib.hid hra; clear hra
  have HRB := Lib.hid hrb; clear hrb
  have HRC := Lib.hid hrc; clear hrc

  obtain ⟨W, hW⟩ : ∃ W, W = (((w.alloc (Obj.cells #[Value.int IntKind.i64 x0, Value.int IntKind.i64 x1, Value.int IntKind.i64 x2, Value.int IntKind.i64 x3, Value.int IntKind.i64 x4, Value.int IntKind.i64 x5] 25)).alloc (Obj.cells #[Value.int IntKind.i64 y0, Value.int IntKind.i64 y1, Value.int IntKind.i64 y2, Value.int IntKind.i64 y3, Value.int IntKind.i64 y4, Value.int IntKind.i64 y5] 25)).alloc (Obj.cells #[Value.int IntKind.i64 0, Value.int IntKind.i64 0] 23)).alloc (Obj.cells #[Value.int IntKind.i64 x0, Value.int IntKind.i64 x1, Value.int IntKind.i64 x2, Value.int IntKind.i64 x3, Value.int IntKind.i64 x4, Value.int IntKind.i64 x5, Value.int IntKind.i64 y0, Value.int IntKind.i64 y1, Value.int IntKind.i64 y2, Value.int IntKind.i64 y3, Value.int IntKind.i64 y4, Value.int IntKind.i64 y5] 25) := ⟨_, rfl⟩
  have hsW : w.heap.size + 1 + 1 + 1 < W.heap.size := by rw [hW]; simp
  have hB : Hid (Below w.heap.size w W) := by rw [hW]; unfold Hid; (repeat' (first | (with_reducible exact Below.refl _ _) | (with_reducible refine Below.setCell ?_ ?_ _) | (with_reducible refine Below.alloc ?_ ?_ _) | (with_reducible refine Below.drew ?_) | (with_reducible refine below_drewN ?_ _) | (with_reducible assumption) | (with_reducible refine Below.trans ?_ (Below.mono (by with_reducible assumption) ?_)) | omega | (simp; done) | (simp; omega) | (simp [World.setCell]; omega)))
  have hT : Hid (Tab12 W (w.heap.size + 1 + 1 + 1) (six x0 x1 x2 x3 x4 x5) (six y0 y1 y2 y3 y4 y5)) := by
    rw [hW]; constructor
    · intro j hj; rcases (by omega : j = 0 ∨ j = 1 ∨ j = 2 ∨ j = 3 ∨ j = 4 ∨ j = 5) with rfl | rfl | rfl | rfl | rfl | rfl <;> simp [go_sem, six]
    · intro j hj; rcases (by omega : j = 0 ∨ j = 1 ∨ j = 2 ∨ j = 3 ∨ j = 4 ∨ j = 5) with rfl | rfl | rfl | rfl | rfl | rfl <;> simp [go_sem, six]
  have a0 : W.cell? ⟨w.heap.size, 0, none⟩ = some (.int .i64 x0) := by rw [hW]; simp [go_sem]
  have a1 : W.cell? ⟨w.heap.size, 1, none⟩ = some (.int .i64 x1) := by rw [hW]; simp [go_sem]
  have a2 : W.cell? ⟨w.heap.size, 2, none⟩ = some (.int .i64 x2) := by rw [hW]; simp [go_sem]
  have a3 : W.cell? ⟨w.heap.size, 3, none⟩ = some (.int .i64 x3) := by rw [hW]; simp [go_sem]
  have a4 : W.cell? ⟨w.heap.size, 4, none⟩ = some (.int .i64 x4) := by rw [hW]; simp [go_sem]
  have a5 : W.cell? ⟨w.heap.size, 5, none⟩ = some (.int .i64 x5) := by rw [hW]; simp [go_sem]
  have b0 : W.cell? ⟨w.heap.size + 1, 0, none⟩ = some (.int .i64 y0) := by rw [hW]; simp [go_sem]
  have b1 : W.cell? ⟨w.heap.size + 1, 1, none⟩ = some (.int .i64 y1) := by rw [hW]; simp [go_sem]
  have b2 : W.cell? ⟨w.heap.size + 1, 2, none⟩ = some (.int .i64 y2) := by rw [hW]; simp [go_sem]
  have b3 : W.cell? ⟨w.heap.size + 1, 3, none⟩ = some (.int .i64 y3) := by rw [hW]; simp [go_sem]
  have b4 : W.cell? ⟨w.heap.size + 1, 4, none⟩ = some (.int .i64 y4) := by rw [hW]; simp [go_sem]
  have b5 : W.cell? ⟨w.heap.size + 1, 5, none⟩ = some (.int .i64 y5) := by rw [hW]; simp [go_sem]
  have z0 : W.cell? ⟨w.heap.size + 1 + 1, 0, none⟩ = some (.int .i64 0) := by rw [hW]; simp [go_sem]
  have z1 : W.cell? ⟨w.heap.size + 1 + 1, 1, none⟩ = some (.int .i64 0) := by rw [hW]; simp [go_sem]
  have s0 : W.frozen? ⟨w.heap.size + 1 + 1, 0, none⟩ = false := by rw [hW]; simp [go_sem]
  have s1 : W.frozen? ⟨w.heap.size + 1 + 1, 1, none⟩ = false := by rw [hW]; simp [go_sem]
  go_enter Try.func18, Try.ntmps18
  go_wp2_with (fail)
  rw [← hW]
  clear hW
  go_at_call 62
  refine Calls.mono (c_all2 _ _ x0 x1 x2 x3 x4 x5 y0 y1 y2 y3 y4 y5 W (by omega) hT) ?_
  rintro e w1 ⟨rfl, hb1, hz1, hcP, hfP⟩
  rw [← HE0.out] at hcP
  have hs1 := hb1.size
  (replace a0 := kp hb1 (by omega) a0); (replace a1 := kp hb1 (by omega) a1); (replace a2 := kp hb1 (by omega) a2); (replace a3 := kp hb1 (by omega) a3); (replace a4 := kp hb1 (by omega) a4); (replace a5 := kp hb1 (by omega) a5); (replace b0 := kp hb1 (by omega) b0); (replace b1 := kp hb1 (by omega) b1); (replace b2 := kp hb1 (by omega) b2); (replace b3 := kp hb1 (by omega) b3); (replace b4 := kp hb1 (by omega) b4); (replace b5 := kp hb1 (by omega) b5); (replace z0 := kp hb1 (by omega) z0); (replace z1 := kp hb1 (by omega) z1); (replace s0 := kf hb1 (by omega) s0); (replace s1 := kf hb1 (by omega) s1)
  go_wp2_with (fail)
  (go_at_call 73; refine (c_dot W.heap.size x0 x1 x2 x3 x4 x5 y0 y1 y2 y3 y4 y5 e0 w1 (show W.heap.size < w1.heap.size by omega) hcP hfP).mono ?_; rw [← HRA.out, ← HRB.out, ← HRC.out, ← HRD.out, ← HEK.out]; rintro e w2 ⟨rfl, ho2, hcN, hfN⟩; (replace hcP := hcN); (replace hfP := hfN); (have hs2 := ho2.size); (have HB2 : Below w.heap.size w1 w2 := ho2.toBelow (by omega) (by omega)); (replace a0 := ko ho2 (by omega) (by omega) a0); (replace a1 := ko ho2 (by omega) (by omega) a1); (replace a2 := ko ho2 (by omega) (by omega) a2); (replace a3 := ko ho2 (by omega) (by omega) a3); (replace a4 := ko ho2 (by omega) (by omega) a4); (replace a5 := ko ho2 (by omega) (by omega) a5); (replace b0 := ko ho2 (by omega) (by omega) b0); (replace b1 := ko ho2 (by omega) (by omega) b1); (replace b2 := ko ho2 (by omega) (by omega) b2); (replace b3 := ko ho2 (by omega) (by omega) b3); (replace b4 := ko ho2 (by omega) (by omega) b4); (replace b5 := ko ho2 (by omega) (by omega) b5); (replace z0 := ko ho2 (by omega) (by omega) z0); (replace z1 := ko ho2 (by omega) (by omega) z1); (replace s0 := kof ho2 (by omega) (by omega) s0); (replace s1 := kof ho2 (by omega) (by omega) s1))
  go_wp2_with (fail)
  (go_at_call 72; refine (c_toldS W.heap.size rd ek w2 (show W.heap.size < w2.heap.size by omega) hcP).mono ?_; rw [HN.out]; rintro e w3 ⟨rfl, hb3⟩; (have hs3 := hb3.size); (replace hcP : w3.cell? ⟨W.heap.size, 0, none⟩ = some (.int .i64 (ek)) := ((bcell hb3).1 _ _ (by omega)).trans hcP); (replace hfP : w3.frozen? ⟨W.heap.size, 0, none⟩ = false := ((bcell hb3).2 _ _ (by omega)).trans hfP); (replace a0 := kp hb3 (by omega) a0); (replace a1 := kp hb3 (by omega) a1); (replace a2 := kp hb3 (by omega) a2); (replace a3 := kp hb3 (by omega) a3); (replace a4 := kp hb3 (by omega) a4); (replace a5 := kp hb3 (by omega) a5); (replace b0 := kp hb3 (by omega) b0); (replace b1 := kp hb3 (by omega) b1); (replace b2 := kp hb3 (by omega) b2); (replace b3 := kp hb3 (by omega) b3); (replace b4 := kp hb3 (by omega) b4); (replace b5 := kp hb3 (by omega) b5); (replace z0 := kp hb3 (by omega) z0); (replace z1 := kp hb3 (by omega) z1); (replace s0 := kf hb3 (by omega) s0); (replace s1 := kf hb3 (by omega) s1))
  go_wp2_with (fail)
  have HB := hB.out
  obtain ⟨F, hF⟩ : ∃ F, F = ((w3.setCell ⟨w.heap.size + 1 + 1, 0, none⟩ (Value.int IntKind.i64 n0)).setCell ⟨w.heap.size + 1 + 1, 1, none⟩ (Value.int IntKind.i64 n1)) := ⟨_, rfl⟩
  obtain ⟨g0, g1⟩ := st2 w3 (w.heap.size + 1 + 1) (n0) (n1) z0 z1
  rw [← hF] at g0 g1
  have hFB : Hid (Below w.heap.size w F) := by rw [hF]; unfold Hid; (repeat' (first | (with_reducible exact Below.refl _ _) | (with_reducible refine Below.setCell ?_ ?_ _) | (with_reducible refine Below.alloc ?_ ?_ _) | (with_reducible refine Below.drew ?_) | (with_reducible refine below_drewN ?_ _) | (with_reducible assumption) | (with_reducible refine Below.trans ?_ (Below.mono (by with_reducible assumption) ?_)) | omega | (simp; done) | (simp; omega) | (simp [World.setCell]; omega)))
  rw [← hF]
  clear hF
  refine bodyPost_ret (v := .tuple #[.agg #[.int .i64 n0, .int .i64 n1], .int .i64 ek]) (by simp [results, Try.results18, go_sem, g0, g1]) rfl ⟨rfl, hFB.out⟩


set_option maxHeartbeats 2000000 in
theorem c_vecNorm (x0 x1 x2 x3 x4 x5 : Int) (w : World) :
    Calls Try.prog 20 #[.agg #[.int .i64 x0, .int .i64 x1, .int .i64 x2, .int .i64 x3, .int .i64 x4, .int .i64 x5]] w fun e w' => e = .returned (iRes (normE (chk3 0 x0 x1 x2 x3 x4 x5 3) (spPow (x0, x1) 2) (spPow (x2, x3) 2) (spPow (x4, x5) 2)) (norm3 (spPow (x0, x1) 2) (spPow (x2, x3) 2) (spPow (x4, x5) 2))) ∧ Below w.heap.size w w' := by
  obtain ⟨ra, hra⟩ : ∃ r, r = spPow (x0, x1) 2 := ⟨_, rfl⟩
  obtain ⟨rb, hrb⟩ : ∃ r, r = spPow (x2, x3) 2 := ⟨_, rfl⟩
  obtain ⟨rc, hrc⟩ : ∃ r, r = spPow (x4, x5) 2 := ⟨_, rfl⟩
  obtain ⟨e0, he0⟩ : ∃ e, e = chk3 0 x0 x1 x2 x3 x4 x5 3 := ⟨_, rfl⟩
  rw [← hra, ← hrb, ← hrc, ← he0]
  obtain ⟨rd, hrd⟩ : ∃ r, r = norm3 ra rb rc := ⟨_, rfl⟩
  rw [← hrd]
  obtain ⟨ek, hek⟩ : ∃ ek, ek = normE e0 ra rb rc := ⟨_, rfl⟩
  rw [← hek]
  obtain ⟨n0, n1, hn⟩ := iRes_form ek rd
  rw [hn]
  have HN := Lib.hid hn; clear hn
  have HEK := Lib.hid hek; clear hek
  have HE0 := Lib.hid he0; clear he0
  have HRD := Lib.hid hrd; clear hrd
  have HRA := Lib.hid hra; clear hra
  have HRB := Lib.hid hrb; clear hrb
  have HRC := Lib.hid hrc; clear hrc

  obtain ⟨W, hW⟩ : ∃ W, W = ((w.alloc (Obj.cells #[Value.int IntKind.i64 x0, Value.int IntKind.i64 x1, Value.int IntKind.i64 x2, Value.int IntKind.i64 x3, Value.int IntKind.i64 x4, Value.int IntKind.i64 x5] 25)).alloc (Obj.cells #[Value.int IntKind.i64 0, Value.int IntKind.i64 0] 23)).alloc (Obj.cells #[Value.int IntKind.i64 x0, Value.int IntKind.i64 x1, Value.int IntKind.i64 x2, Value.int IntKind.i64 x3, Value.int IntKind.i64 x4, Value.int IntKind.i64 x5] 25) := ⟨_, rfl⟩
  have hsW : w.heap.size + 1 + 1 < W.heap.size := by rw [hW]; simp
  have hB : Hid (Below w.heap.size w W) := by rw [hW]; unfold Hid; (repeat' (first | (with_reducible exact Below.refl _ _) | (with_reducible refine Below.setCell ?_ ?_ _) | (with_reducible refine Below.alloc ?_ ?_ _) | (with_reducible refine Below.drew ?_) | (with_reducible refine below_drewN ?_ _) | (with_reducible assumption) | (with_reducible refine Below.trans ?_ (Below.mono (by with_reducible assumption) ?_)) | omega | (simp; done) | (simp; omega) | (simp [World.setCell]; omega)))
  have hT : Hid (Tab6 W (w.heap.size + 1 + 1) (six x0 x1 x2 x3 x4 x5)) := by
    rw [hW]; intro j hj; rcases (by omega : j = 0 ∨ j = 1 ∨ j = 2 ∨ j = 3 ∨ j = 4 ∨ j = 5) with rfl | rfl | rfl | rfl | rfl | rfl <;> simp [go_sem, six]
  have a0 : W.cell? ⟨w.heap.size, 0, none⟩ = some (.int .i64 x0) := by rw [hW]; simp [go_sem]
  have a1 : W.cell? ⟨w.heap.size, 1, none⟩ = some (.int .i64 x1) := by rw [hW]; simp [go_sem]
  have a2 : W.cell? ⟨w.heap.size, 2, none⟩ = some (.int .i64 x2) := by rw [hW]; simp [go_sem]
  have a3 : W.cell? ⟨w.heap.size, 3, none⟩ = some (.int .i64 x3) := by rw [hW]; simp [go_sem]
  have a4 : W.cell? ⟨w.heap.size, 4, none⟩ = some (.int .i64 x4) := by rw [hW]; simp [go_sem]
  have a5 : W.cell? ⟨w.heap.size, 5, none⟩ = some (.int .i64 x5) := by rw [hW]; simp [go_sem]
  have z0 : W.cell? ⟨w.heap.size + 1, 0, none⟩ = some (.int .i64 0) := by rw [hW]; simp [go_sem]
  have z1 : W.cell? ⟨w.heap.size + 1, 1, none⟩ = some (.int .i64 0) := by rw [hW]; simp [go_sem]
  have s0 : W.frozen? ⟨w.heap.size + 1, 0, none⟩ = false := by rw [hW]; simp [go_sem]
  have s1 : W.frozen? ⟨w.heap.size + 1, 1, none⟩ = false := by rw [hW]; simp [go_sem]
  go_enter Try.func20, Try.ntmps20
  go_wp2_with (fail)
  rw [← hW]
  clear hW
  go_at_call 62
  refine Calls.mono (c_all1' _ _ x0 x1 x2 x3 x4 x5 W (by omega) hT) ?_
  rintro e w1 ⟨rfl, hb1, hz1, hcP, hfP⟩
  rw [← HE0.out] at hcP
  have hs1 := hb1.size
  (replace a0 := kp hb1 (by omega) a0); (replace a1 := kp hb1 (by omega) a1); (replace a2 := kp hb1 (by omega) a2); (replace a3 := kp hb1 (by omega) a3); (replace a4 := kp hb1 (by omega) a4); (replace a5 := kp hb1 (by omega) a5); (replace z0 := kp hb1 (by omega) z0); (replace z1 := kp hb1 (by omega) z1); (replace s0 := kf hb1 (by omega) s0); (replace s1 := kf hb1 (by omega) s1)
  go_wp2_with (fail)
  (go_at_call 70; refine (c_norm W.heap.size x0 x1 x2 x3 x4 x5 e0 w1 (show W.heap.size < w1.heap.size by omega) hcP hfP).mono ?_; rw [← HRA.out, ← HRB.out, ← HRC.out, ← HRD.out, ← HEK.out]; rintro e w2 ⟨rfl, ho2, hcN, hfN⟩; (replace hcP := hcN); (replace hfP := hfN); (have hs2 := ho2.size); (have HB2 : Below w.heap.size w1 w2 := ho2.toBelow (by omega) (by omega)); (replace a0 := ko ho2 (by omega) (by omega) a0); (replace a1 := ko ho2 (by omega) (by omega) a1); (replace a2 := ko ho2 (by omega) (by omega) a2); (replace a3 := ko ho2 (by omega) (by omega) a3); (replace a4 := ko ho2 (by omega) (by omega) a4); (replace a5 := ko ho2 (by omega) (by omega) a5); (replace z0 := ko ho2 (by omega) (by omega) z0); (replace z1 := ko ho2 (by omega) (by omega) z1); (replace s0 := kof ho2 (by omega) (by omega) s0); (replace s1 := kof ho2 (by omega) (by omega) s1))
  go_wp2_with (fail)
  (go_at_call 72; refine (c_toldS W.heap.size rd ek w2 (show W.heap.size < w2.heap.size by omega) hcP).mono ?_; rw [HN.out]; rintro e w3 ⟨rfl, hb3⟩; (have hs3 := hb3.size); (replace hcP : w3.cell? ⟨W.heap.size, 0, none⟩ = some (.int .i64 (ek)) := ((bcell hb3).1 _ _ (by omega)).trans hcP); (replace hfP : w3.frozen? ⟨W.heap.size, 0, none⟩ = false := ((bcell hb3).2 _ _ (by omega)).trans hfP); (replace a0 := kp hb3 (by omega) a0); (replace a1 := kp hb3 (by omega) a1); (replace a2 := kp hb3 (by omega) a2); (replace a3 := kp hb3 (by omega) a3); (replace a4 := kp hb3 (by omega) a4); (replace a5 := kp hb3 (by omega) a5); (replace z0 := kp hb3 (by omega) z0); (replace z1 := kp hb3 (by omega) z1); (replace s0 := kf hb3 (by omega) s0); (replace s1 := kf hb3 (by omega) s1))
  go_wp2_with (fail)
  have HB := hB.out
  obtain ⟨F, hF⟩ : ∃ F, F = ((w3.setCell ⟨w.heap.size + 1, 0, none⟩ (Value.int IntKind.i64 n0)).setCell ⟨w.heap.size + 1, 1, none⟩ (Value.int IntKind.i64 n1)) := ⟨_, rfl⟩
  obtain ⟨g0, g1⟩ := st2 w3 (w.heap.size + 1) (n0) (n1) z0 z1
  rw [← hF] at g0 g1
  have hFB : Hid (Below w.heap.size w F) := by rw [hF]; unfold Hid; (repeat' (first | (with_reducible exact Below.refl _ _) | (with_reducible refine Below.setCell ?_ ?_ _) | (with_reducible refine Below.alloc ?_ ?_ _) | (with_reducible refine Below.drew ?_) | (with_reducible refine below_drewN ?_ _) | (with_reducible assumption) | (with_reducible refine Below.trans ?_ (Below.mono (by with_reducible assumption) ?_)) | omega | (simp; done) | (simp; omega) | (simp [World.setCell]; omega)))
  rw [← hF]
  clear hF
  refine bodyPost_ret (v := .tuple #[.agg #[.int .i64 n0, .int .i64 n1], .int .i64 ek]) (by simp [results, Try.results20, go_sem, g0, g1]) rfl ⟨rfl, hFB.out⟩


end Go.Proofs.Ytpdaigenffecmaa
