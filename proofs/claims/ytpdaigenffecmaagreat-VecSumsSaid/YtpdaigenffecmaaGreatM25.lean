/-
  The reference 06: Add, Sub, Neg, Scale, Check.
-/
import Derived.Test.YtpdaigenffecmaaGreatM24
set_option linter.all false
namespace Go.Proofs.YtpdaigenffecmaaGreat
open Go.RowKit Go.Shelf

theorem vRes_bad (a b c : Int × Int × Int) : vRes 20 a b c = .tuple #[.agg #[.int .i64 0, .int .i64 0, .int .i64 0, .int .i64 0, .int .i64 0, .int .i64 0], .int .i64 20] := by unfold vRes; rw [if_neg (by decide)]
theorem iRes_bad (r : Int × Int × Int) : iRes 20 r = .tuple #[.agg #[.int .i64 0, .int .i64 0], .int .i64 20] := by unfold iRes; rw [if_neg (by decide)]
theorem sumE_20 (a b c : Int × Int × Int) : sumE 20 a b c = 20 := by unfold sumE; rw [errTo3_of (show (20 : Int) ≠ 0 by decide), fst2_of (show (20 : Int) ≠ 0 by decide), fst2_of (show (20 : Int) ≠ 0 by decide)]
theorem rThree_none (a b c : Int × Int × Int) : NoneR (rThree a b c) := by
  unfold rThree; split
  · intro _; rfl
  · split
    · intro _; rfl
    · exact spAdd_none _ _
theorem iRes_none {r : Int × Int × Int} (h : NoneR r) : iRes r.2.2 r = .tuple #[.agg #[.int .i64 r.1, .int .i64 r.2.1], .int .i64 r.2.2] := by
  unfold iRes; split
  · rename_i h0; rw [h0]
  · rename_i h0; have := h h0; rw [this]
theorem rThree_told (a b c : Int × Int × Int) : iRes (rThree a b c).2.2 (rThree a b c) = .tuple #[.agg #[.int .i64 (rThree a b c).1, .int .i64 (rThree a b c).2.1], .int .i64 (rThree a b c).2.2] := iRes_none (rThree_none a b c)

set_option maxHeartbeats 1000000 in
theorem c_vAdd (x0 x1 x2 x3 x4 x5 y0 y1 y2 y3 y4 y5 : Int) (w : World) :
    Calls Tryz.prog 12 #[.agg #[.int .i64 x0, .int .i64 x1, .int .i64 x2, .int .i64 x3, .int .i64 x4, .int .i64 x5], .agg #[.int .i64 y0, .int .i64 y1, .int .i64 y2, .int .i64 y3, .int .i64 y4, .int .i64 y5]] w fun e w' => e = .returned (vRes (errTo (chk3 (chk3 0 x0 x1 x2 x3 x4 x5 3) y0 y1 y2 y3 y4 y5 3) (spAdd (x0, x1) (y0, y1)).2.2 (spAdd (x2, x3) (y2, y3)).2.2 (spAdd (x4, x5) (y4, y5)).2.2 3) (spAdd (x0, x1) (y0, y1)) (spAdd (x2, x3) (y2, y3)) (spAdd (x4, x5) (y4, y5))) ∧ Below w.heap.size w w' := by
  by_cases hx : ok3 x0 x1 x2 x3 x4 x5 = true
  · by_cases hy : ok3 y0 y1 y2 y3 y4 y5 = true
    · obtain hE : chk3 (chk3 0 x0 x1 x2 x3 x4 x5 3) y0 y1 y2 y3 y4 y5 3 = 0 := by rw [chk3_ok (ok3_iff.1 hx)]; exact chk3_ok (ok3_iff.1 hy)
      rw [hE]; clear hE
      obtain ⟨ra, hra⟩ : ∃ r, r = spAdd (x0, x1) (y0, y1) := ⟨_, rfl⟩
      obtain ⟨rb, hrb⟩ : ∃ r, r = spAdd (x2, x3) (y2, y3) := ⟨_, rfl⟩
      obtain ⟨rc, hrc⟩ : ∃ r, r = spAdd (x4, x5) (y4, y5) := ⟨_, rfl⟩
      rw [← hra, ← hrb, ← hrc]
      obtain ⟨ek, hek⟩ : ∃ ek, ek = errTo 0 ra.2.2 rb.2.2 rc.2.2 3 := ⟨_, rfl⟩
      rw [← hek]
      obtain ⟨n0, n1, n2, n3, n4, n5, hn⟩ := vRes_form ek ra rb rc
      rw [hn]
      have HN := Lib.hid hn; clear hn
      have HEK := Lib.hid hek; clear hek
      have HRA := Lib.hid hra; clear hra
      have HRB := Lib.hid hrb; clear hrb
      have HRC := Lib.hid hrc; clear hrc
      obtain ⟨W, hW⟩ : ∃ W, W = (((w.alloc (Obj.cells #[Value.int IntKind.i64 x0, Value.int IntKind.i64 x1, Value.int IntKind.i64 x2, Value.int IntKind.i64 x3, Value.int IntKind.i64 x4, Value.int IntKind.i64 x5] 25)).alloc (Obj.cells #[Value.int IntKind.i64 y0, Value.int IntKind.i64 y1, Value.int IntKind.i64 y2, Value.int IntKind.i64 y3, Value.int IntKind.i64 y4, Value.int IntKind.i64 y5] 25)).alloc (Obj.cells #[Value.int IntKind.i64 0, Value.int IntKind.i64 0, Value.int IntKind.i64 0, Value.int IntKind.i64 0, Value.int IntKind.i64 0, Value.int IntKind.i64 0] 25)) := ⟨_, rfl⟩
      have hsW : w.heap.size + 2 < W.heap.size := by rw [hW]; simp
      have hB : Hid (Below w.heap.size w W) := by rw [hW]; unfold Hid; (repeat' (first | (with_reducible exact Below.refl _ _) | (with_reducible refine Below.setCell ?_ ?_ _) | (with_reducible refine Below.alloc ?_ ?_ _) | (with_reducible refine Below.drew ?_) | (with_reducible refine below_drewN ?_ _) | (with_reducible assumption) | (with_reducible refine Below.trans ?_ (Below.mono (by with_reducible assumption) ?_)) | omega | (simp; done) | (simp; omega) | (simp [World.setCell]; omega)))
      have a0 : W.cell? ⟨w.heap.size, 0, none⟩ = some (.int .i64 x0) := by rw [hW]; simp [go_sem]
      have a1 : W.cell? ⟨w.heap.size, 1, none⟩ = some (.int .i64 x1) := by rw [hW]; simp [go_sem]
      have a2 : W.cell? ⟨w.heap.size, 2, none⟩ = some (.int .i64 x2) := by rw [hW]; simp [go_sem]
      have a3 : W.cell? ⟨w.heap.size, 3, none⟩ = some (.int .i64 x3) := by rw [hW]; simp [go_sem]
      have a4 : W.cell? ⟨w.heap.size, 4, none⟩ = some (.int .i64 x4) := by rw [hW]; simp [go_sem]
      have a5 : W.cell? ⟨w.heap.size, 5, none⟩ = some (.int .i64 x5) := by rw [hW]; simp [go_sem]
      have b0 : W.cell? ⟨w.heap.size + 1, 0, none⟩ = some (.int .i64 y0) := by rw [hW]; simp [go_sem]
      have b1 : W.cell? ⟨w.heap.size + 1, 1, none⟩ = some (.int .i64 y1) := by rw [hW]; simp [go_sem]
      have b2 : W.cell? ⟨w.heap.size + 1, 2, none⟩ = some (.int .i64 y2) := by rw [hW]; simp [go_sem]
      have b3 : W.cell? ⟨w.heap.size + 1, 3, none⟩ = some (.int .i64 y3) := by rw [hW]; simp [go_sem]
      have b4 : W.cell? ⟨w.heap.size + 1, 4, none⟩ = some (.int .i64 y4) := by rw [hW]; simp [go_sem]
      have b5 : W.cell? ⟨w.heap.size + 1, 5, none⟩ = some (.int .i64 y5) := by rw [hW]; simp [go_sem]
      have z0 : W.cell? ⟨w.heap.size + 1 + 1, 0, none⟩ = some (.int .i64 0) := by rw [hW]; simp [go_sem]
      have z1 : W.cell? ⟨w.heap.size + 1 + 1, 1, none⟩ = some (.int .i64 0) := by rw [hW]; simp [go_sem]
      have z2 : W.cell? ⟨w.heap.size + 1 + 1, 2, none⟩ = some (.int .i64 0) := by rw [hW]; simp [go_sem]
      have z3 : W.cell? ⟨w.heap.size + 1 + 1, 3, none⟩ = some (.int .i64 0) := by rw [hW]; simp [go_sem]
      have z4 : W.cell? ⟨w.heap.size + 1 + 1, 4, none⟩ = some (.int .i64 0) := by rw [hW]; simp [go_sem]
      have z5 : W.cell? ⟨w.heap.size + 1 + 1, 5, none⟩ = some (.int .i64 0) := by rw [hW]; simp [go_sem]
      have s0 : W.frozen? ⟨w.heap.size + 1 + 1, 0, none⟩ = false := by rw [hW]; simp [go_sem]
      have s1 : W.frozen? ⟨w.heap.size + 1 + 1, 1, none⟩ = false := by rw [hW]; simp [go_sem]
      have s2 : W.frozen? ⟨w.heap.size + 1 + 1, 2, none⟩ = false := by rw [hW]; simp [go_sem]
      have s3 : W.frozen? ⟨w.heap.size + 1 + 1, 3, none⟩ = false := by rw [hW]; simp [go_sem]
      have s4 : W.frozen? ⟨w.heap.size + 1 + 1, 4, none⟩ = false := by rw [hW]; simp [go_sem]
      have s5 : W.frozen? ⟨w.heap.size + 1 + 1, 5, none⟩ = false := by rw [hW]; simp [go_sem]
      go_enter Tryz.func12, Tryz.ntmps12
      go_wp2_with (fail)
      rw [← hW]; clear hW
      go_wp2_with (fail)
      go_at_call 56
      refine Calls.mono (c_vRight x0 x1 x2 x3 x4 x5 _) ?_
      rintro e w1 ⟨rfl, hb1⟩
      have hs1 := hb1.size
      try simp only [World.size_alloc, World.drew_heap, World.size_setCell] at hs1
      have y1_0 : w.heap.size < w1.heap.size := by omega
      have y1_1 : w.heap.size + 1 < w1.heap.size := by omega
      have y1_2 : w.heap.size + 1 + 1 < w1.heap.size := by omega
      (replace a0 := kp hb1 (by omega) a0); (replace a1 := kp hb1 (by omega) a1); (replace a2 := kp hb1 (by omega) a2); (replace a3 := kp hb1 (by omega) a3); (replace a4 := kp hb1 (by omega) a4); (replace a5 := kp hb1 (by omega) a5); (replace b0 := kp hb1 (by omega) b0); (replace b1 := kp hb1 (by omega) b1); (replace b2 := kp hb1 (by omega) b2); (replace b3 := kp hb1 (by omega) b3); (replace b4 := kp hb1 (by omega) b4); (replace b5 := kp hb1 (by omega) b5); (replace z0 := kp hb1 (by omega) z0); (replace z1 := kp hb1 (by omega) z1); (replace z2 := kp hb1 (by omega) z2); (replace z3 := kp hb1 (by omega) z3); (replace z4 := kp hb1 (by omega) z4); (replace z5 := kp hb1 (by omega) z5); (replace s0 := kf hb1 (by omega) s0); (replace s1 := kf hb1 (by omega) s1); (replace s2 := kf hb1 (by omega) s2); (replace s3 := kf hb1 (by omega) s3); (replace s4 := kf hb1 (by omega) s4); (replace s5 := kf hb1 (by omega) s5)
      go_wp2_with (fail)
      go_at_call 56
      refine Calls.mono (c_vRight y0 y1 y2 y3 y4 y5 _) ?_
      rintro e w2 ⟨rfl, hb2⟩
      have hs2 := hb2.size
      try simp only [World.size_alloc, World.drew_heap, World.size_setCell] at hs2
      have y2_0 : w.heap.size < w2.heap.size := by omega
      have y2_1 : w.heap.size + 1 < w2.heap.size := by omega
      have y2_2 : w.heap.size + 1 + 1 < w2.heap.size := by omega
      try (have x2_1 : w1.heap.size < w2.heap.size := by omega)
      (replace a0 := kp hb2 (by omega) a0); (replace a1 := kp hb2 (by omega) a1); (replace a2 := kp hb2 (by omega) a2); (replace a3 := kp hb2 (by omega) a3); (replace a4 := kp hb2 (by omega) a4); (replace a5 := kp hb2 (by omega) a5); (replace b0 := kp hb2 (by omega) b0); (replace b1 := kp hb2 (by omega) b1); (replace b2 := kp hb2 (by omega) b2); (replace b3 := kp hb2 (by omega) b3); (replace b4 := kp hb2 (by omega) b4); (replace b5 := kp hb2 (by omega) b5); (replace z0 := kp hb2 (by omega) z0); (replace z1 := kp hb2 (by omega) z1); (replace z2 := kp hb2 (by omega) z2); (replace z3 := kp hb2 (by omega) z3); (replace z4 := kp hb2 (by omega) z4); (replace z5 := kp hb2 (by omega) z5); (replace s0 := kf hb2 (by omega) s0); (replace s1 := kf hb2 (by omega) s1); (replace s2 := kf hb2 (by omega) s2); (replace s3 := kf hb2 (by omega) s3); (replace s4 := kf hb2 (by omega) s4); (replace s5 := kf hb2 (by omega) s5)
      go_wp2_with (fail)
      go_at_call 57
      refine Calls.mono (c_sAdd x0 x1 y0 y1 _) ?_
      rw [← HRA.out]
      rintro e w3 ⟨rfl, hb3⟩
      have hs3 := hb3.size
      try simp only [World.size_alloc, World.drew_heap, World.size_setCell] at hs3
      have y3_0 : w.heap.size < w3.heap.size := by omega
      have y3_1 : w.heap.size + 1 < w3.heap.size := by omega
      have y3_2 : w.heap.size + 1 + 1 < w3.heap.size := by omega
      try (have x3_1 : w1.heap.size < w3.heap.size := by omega)
      try (have x3_2 : w2.heap.size < w3.heap.size := by omega)
      (replace a0 := kp hb3 (by omega) a0); (replace a1 := kp hb3 (by omega) a1); (replace a2 := kp hb3 (by omega) a2); (replace a3 := kp hb3 (by omega) a3); (replace a4 := kp hb3 (by omega) a4); (replace a5 := kp hb3 (by omega) a5); (replace b0 := kp hb3 (by omega) b0); (replace b1 := kp hb3 (by omega) b1); (replace b2 := kp hb3 (by omega) b2); (replace b3 := kp hb3 (by omega) b3); (replace b4 := kp hb3 (by omega) b4); (replace b5 := kp hb3 (by omega) b5); (replace z0 := kp hb3 (by omega) z0); (replace z1 := kp hb3 (by omega) z1); (replace z2 := kp hb3 (by omega) z2); (replace z3 := kp hb3 (by omega) z3); (replace z4 := kp hb3 (by omega) z4); (replace z5 := kp hb3 (by omega) z5); (replace s0 := kf hb3 (by omega) s0); (replace s1 := kf hb3 (by omega) s1); (replace s2 := kf hb3 (by omega) s2); (replace s3 := kf hb3 (by omega) s3); (replace s4 := kf hb3 (by omega) s4); (replace s5 := kf hb3 (by omega) s5)
      go_wp2_with (fail)
      go_at_call 57
      refine Calls.mono (c_sAdd x2 x3 y2 y3 _) ?_
      rw [← HRB.out]
      rintro e w4 ⟨rfl, hb4⟩
      have hs4 := hb4.size
      try simp only [World.size_alloc, World.drew_heap, World.size_setCell] at hs4
      have y4_0 : w.heap.size < w4.heap.size := by omega
      have y4_1 : w.heap.size + 1 < w4.heap.size := by omega
      have y4_2 : w.heap.size + 1 + 1 < w4.heap.size := by omega
      try (have x4_1 : w1.heap.size < w4.heap.size := by omega)
      try (have x4_2 : w2.heap.size < w4.heap.size := by omega)
      try (have x4_3 : w3.heap.size < w4.heap.size := by omega)
      (replace a0 := kp1 hb4 (by omega) a0); (replace a1 := kp1 hb4 (by omega) a1); (replace a2 := kp1 hb4 (by omega) a2); (replace a3 := kp1 hb4 (by omega) a3); (replace a4 := kp1 hb4 (by omega) a4); (replace a5 := kp1 hb4 (by omega) a5); (replace b0 := kp1 hb4 (by omega) b0); (replace b1 := kp1 hb4 (by omega) b1); (replace b2 := kp1 hb4 (by omega) b2); (replace b3 := kp1 hb4 (by omega) b3); (replace b4 := kp1 hb4 (by omega) b4); (replace b5 := kp1 hb4 (by omega) b5); (replace z0 := kp1 hb4 (by omega) z0); (replace z1 := kp1 hb4 (by omega) z1); (replace z2 := kp1 hb4 (by omega) z2); (replace z3 := kp1 hb4 (by omega) z3); (replace z4 := kp1 hb4 (by omega) z4); (replace z5 := kp1 hb4 (by omega) z5); (replace s0 := kf1 hb4 (by omega) s0); (replace s1 := kf1 hb4 (by omega) s1); (replace s2 := kf1 hb4 (by omega) s2); (replace s3 := kf1 hb4 (by omega) s3); (replace s4 := kf1 hb4 (by omega) s4); (replace s5 := kf1 hb4 (by omega) s5)
      have g0 : w4.cell? ⟨w3.heap.size, 0, none⟩ = some (.int .i64 ra.1) := (kn hb4 0).trans rfl
      have g1 : w4.cell? ⟨w3.heap.size, 1, none⟩ = some (.int .i64 ra.2.1) := (kn hb4 1).trans rfl
      go_wp2_with (fail)
      go_at_call 57
      refine Calls.mono (c_sAdd x4 x5 y4 y5 _) ?_
      rw [← HRC.out]
      rintro e w5 ⟨rfl, hb5⟩
      have hs5 := hb5.size
      try simp only [World.size_alloc, World.drew_heap, World.size_setCell] at hs5
      have y5_0 : w.heap.size < w5.heap.size := by omega
      have y5_1 : w.heap.size + 1 < w5.heap.size := by omega
      have y5_2 : w.heap.size + 1 + 1 < w5.heap.size := by omega
      try (have x5_1 : w1.heap.size < w5.heap.size := by omega)
      try (have x5_2 : w2.heap.size < w5.heap.size := by omega)
      try (have x5_3 : w3.heap.size < w5.heap.size := by omega)
      try (have x5_4 : w4.heap.size < w5.heap.size := by omega)
      (replace a0 := kp1 hb5 (by omega) a0); (replace a1 := kp1 hb5 (by omega) a1); (replace a2 := kp1 hb5 (by omega) a2); (replace a3 := kp1 hb5 (by omega) a3); (replace a4 := kp1 hb5 (by omega) a4); (replace a5 := kp1 hb5 (by omega) a5); (replace b0 := kp1 hb5 (by omega) b0); (replace b1 := kp1 hb5 (by omega) b1); (replace b2 := kp1 hb5 (by omega) b2); (replace b3 := kp1 hb5 (by omega) b3); (replace b4 := kp1 hb5 (by omega) b4); (replace b5 := kp1 hb5 (by omega) b5); (replace z0 := kp1 hb5 (by omega) z0); (replace z1 := kp1 hb5 (by omega) z1); (replace z2 := kp1 hb5 (by omega) z2); (replace z3 := kp1 hb5 (by omega) z3); (replace z4 := kp1 hb5 (by omega) z4); (replace z5 := kp1 hb5 (by omega) z5); (replace g0 := kp1 hb5 (by omega) g0); (replace g1 := kp1 hb5 (by omega) g1); (replace s0 := kf1 hb5 (by omega) s0); (replace s1 := kf1 hb5 (by omega) s1); (replace s2 := kf1 hb5 (by omega) s2); (replace s3 := kf1 hb5 (by omega) s3); (replace s4 := kf1 hb5 (by omega) s4); (replace s5 := kf1 hb5 (by omega) s5)
      have h0 : w5.cell? ⟨w4.heap.size, 0, none⟩ = some (.int .i64 rb.1) := (kn hb5 0).trans rfl
      have h1 : w5.cell? ⟨w4.heap.size, 1, none⟩ = some (.int .i64 rb.2.1) := (kn hb5 1).trans rfl
      go_wp2_with (fail)
      go_at_call 58
      refine Calls.mono (c_vvector ra rb rc _) ?_
      rw [← HEK.out, HN.out]
      rintro e w6 ⟨rfl, hb6⟩
      have hs6 := hb6.size
      try simp only [World.size_alloc, World.drew_heap, World.size_setCell] at hs6
      have y6_0 : w.heap.size < w6.heap.size := by omega
      have y6_1 : w.heap.size + 1 < w6.heap.size := by omega
      have y6_2 : w.heap.size + 1 + 1 < w6.heap.size := by omega
      try (have x6_1 : w1.heap.size < w6.heap.size := by omega)
      try (have x6_2 : w2.heap.size < w6.heap.size := by omega)
      try (have x6_3 : w3.heap.size < w6.heap.size := by omega)
      try (have x6_4 : w4.heap.size < w6.heap.size := by omega)
      try (have x6_5 : w5.heap.size < w6.heap.size := by omega)
      (replace a0 := kp1 hb6 (by omega) a0); (replace a1 := kp1 hb6 (by omega) a1); (replace a2 := kp1 hb6 (by omega) a2); (replace a3 := kp1 hb6 (by omega) a3); (replace a4 := kp1 hb6 (by omega) a4); (replace a5 := kp1 hb6 (by omega) a5); (replace b0 := kp1 hb6 (by omega) b0); (replace b1 := kp1 hb6 (by omega) b1); (replace b2 := kp1 hb6 (by omega) b2); (replace b3 := kp1 hb6 (by omega) b3); (replace b4 := kp1 hb6 (by omega) b4); (replace b5 := kp1 hb6 (by omega) b5); (replace z0 := kp1 hb6 (by omega) z0); (replace z1 := kp1 hb6 (by omega) z1); (replace z2 := kp1 hb6 (by omega) z2); (replace z3 := kp1 hb6 (by omega) z3); (replace z4 := kp1 hb6 (by omega) z4); (replace z5 := kp1 hb6 (by omega) z5); (replace g0 := kp1 hb6 (by omega) g0); (replace g1 := kp1 hb6 (by omega) g1); (replace h0 := kp1 hb6 (by omega) h0); (replace h1 := kp1 hb6 (by omega) h1); (replace s0 := kf1 hb6 (by omega) s0); (replace s1 := kf1 hb6 (by omega) s1); (replace s2 := kf1 hb6 (by omega) s2); (replace s3 := kf1 hb6 (by omega) s3); (replace s4 := kf1 hb6 (by omega) s4); (replace s5 := kf1 hb6 (by omega) s5)
      have i0 : w6.cell? ⟨w5.heap.size, 0, none⟩ = some (.int .i64 rc.1) := (kn hb6 0).trans rfl
      have i1 : w6.cell? ⟨w5.heap.size, 1, none⟩ = some (.int .i64 rc.2.1) := (kn hb6 1).trans rfl
      go_wp2
      have HB := hB.out
      refine bodyPost_ret (v := .tuple #[.agg #[.int .i64 n0, .int .i64 n1, .int .i64 n2, .int .i64 n3, .int .i64 n4, .int .i64 n5], .int .i64 ek]) (by simp [results, Tryz.results12, go_sem, *]) rfl ⟨rfl, by (repeat' (first | (with_reducible exact Below.refl _ _) | (with_reducible refine Below.setCell ?_ ?_ _) | (with_reducible refine Below.alloc ?_ ?_ _) | (with_reducible refine Below.drew ?_) | (with_reducible refine below_drewN ?_ _) | (with_reducible assumption) | (with_reducible refine Below.trans ?_ (Below.mono (by with_reducible assumption) ?_)) | omega | (simp; done) | (simp; omega) | (simp [World.setCell]; omega)))⟩

    · obtain hE : chk3 (chk3 0 x0 x1 x2 x3 x4 x5 3) y0 y1 y2 y3 y4 y5 3 = 20 := by rw [chk3_ok (ok3_iff.1 hx)]; exact chk3_bad (fun h => hy (ok3_iff.2 h))
      rw [hE, errTo3_of (by decide)]
      rw [vRes_bad]
      clear hE
      have hy0 : (ok3 y0 y1 y2 y3 y4 y5) = false := by simpa using hy
      clear hy
      obtain ⟨W, hW⟩ : ∃ W, W = (((w.alloc (Obj.cells #[Value.int IntKind.i64 x0, Value.int IntKind.i64 x1, Value.int IntKind.i64 x2, Value.int IntKind.i64 x3, Value.int IntKind.i64 x4, Value.int IntKind.i64 x5] 25)).alloc (Obj.cells #[Value.int IntKind.i64 y0, Value.int IntKind.i64 y1, Value.int IntKind.i64 y2, Value.int IntKind.i64 y3, Value.int IntKind.i64 y4, Value.int IntKind.i64 y5] 25)).alloc (Obj.cells #[Value.int IntKind.i64 0, Value.int IntKind.i64 0, Value.int IntKind.i64 0, Value.int IntKind.i64 0, Value.int IntKind.i64 0, Value.int IntKind.i64 0] 25)) := ⟨_, rfl⟩
      have hsW : w.heap.size + 2 < W.heap.size := by rw [hW]; simp
      have hB : Hid (Below w.heap.size w W) := by rw [hW]; unfold Hid; (repeat' (first | (with_reducible exact Below.refl _ _) | (with_reducible refine Below.setCell ?_ ?_ _) | (with_reducible refine Below.alloc ?_ ?_ _) | (with_reducible refine Below.drew ?_) | (with_reducible refine below_drewN ?_ _) | (with_reducible assumption) | (with_reducible refine Below.trans ?_ (Below.mono (by with_reducible assumption) ?_)) | omega | (simp; done) | (simp; omega) | (simp [World.setCell]; omega)))
      have a0 : W.cell? ⟨w.heap.size, 0, none⟩ = some (.int .i64 x0) := by rw [hW]; simp [go_sem]
      have a1 : W.cell? ⟨w.heap.size, 1, none⟩ = some (.int .i64 x1) := by rw [hW]; simp [go_sem]
      have a2 : W.cell? ⟨w.heap.size, 2, none⟩ = some (.int .i64 x2) := by rw [hW]; simp [go_sem]
      have a3 : W.cell? ⟨w.heap.size, 3, none⟩ = some (.int .i64 x3) := by rw [hW]; simp [go_sem]
      have a4 : W.cell? ⟨w.heap.size, 4, none⟩ = some (.int .i64 x4) := by rw [hW]; simp [go_sem]
      have a5 : W.cell? ⟨w.heap.size, 5, none⟩ = some (.int .i64 x5) := by rw [hW]; simp [go_sem]
      have b0 : W.cell? ⟨w.heap.size + 1, 0, none⟩ = some (.int .i64 y0) := by rw [hW]; simp [go_sem]
      have b1 : W.cell? ⟨w.heap.size + 1, 1, none⟩ = some (.int .i64 y1) := by rw [hW]; simp [go_sem]
      have b2 : W.cell? ⟨w.heap.size + 1, 2, none⟩ = some (.int .i64 y2) := by rw [hW]; simp [go_sem]
      have b3 : W.cell? ⟨w.heap.size + 1, 3, none⟩ = some (.int .i64 y3) := by rw [hW]; simp [go_sem]
      have b4 : W.cell? ⟨w.heap.size + 1, 4, none⟩ = some (.int .i64 y4) := by rw [hW]; simp [go_sem]
      have b5 : W.cell? ⟨w.heap.size + 1, 5, none⟩ = some (.int .i64 y5) := by rw [hW]; simp [go_sem]
      have z0 : W.cell? ⟨w.heap.size + 1 + 1, 0, none⟩ = some (.int .i64 0) := by rw [hW]; simp [go_sem]
      have z1 : W.cell? ⟨w.heap.size + 1 + 1, 1, none⟩ = some (.int .i64 0) := by rw [hW]; simp [go_sem]
      have z2 : W.cell? ⟨w.heap.size + 1 + 1, 2, none⟩ = some (.int .i64 0) := by rw [hW]; simp [go_sem]
      have z3 : W.cell? ⟨w.heap.size + 1 + 1, 3, none⟩ = some (.int .i64 0) := by rw [hW]; simp [go_sem]
      have z4 : W.cell? ⟨w.heap.size + 1 + 1, 4, none⟩ = some (.int .i64 0) := by rw [hW]; simp [go_sem]
      have z5 : W.cell? ⟨w.heap.size + 1 + 1, 5, none⟩ = some (.int .i64 0) := by rw [hW]; simp [go_sem]
      have s0 : W.frozen? ⟨w.heap.size + 1 + 1, 0, none⟩ = false := by rw [hW]; simp [go_sem]
      have s1 : W.frozen? ⟨w.heap.size + 1 + 1, 1, none⟩ = false := by rw [hW]; simp [go_sem]
      have s2 : W.frozen? ⟨w.heap.size + 1 + 1, 2, none⟩ = false := by rw [hW]; simp [go_sem]
      have s3 : W.frozen? ⟨w.heap.size + 1 + 1, 3, none⟩ = false := by rw [hW]; simp [go_sem]
      have s4 : W.frozen? ⟨w.heap.size + 1 + 1, 4, none⟩ = false := by rw [hW]; simp [go_sem]
      have s5 : W.frozen? ⟨w.heap.size + 1 + 1, 5, none⟩ = false := by rw [hW]; simp [go_sem]
      go_enter Tryz.func12, Tryz.ntmps12
      go_wp2_with (fail)
      rw [← hW]; clear hW
      go_wp2_with (fail)
      go_at_call 56
      refine Calls.mono (c_vRight x0 x1 x2 x3 x4 x5 _) ?_
      rintro e w1 ⟨rfl, hb1⟩
      have hs1 := hb1.size
      try simp only [World.size_alloc, World.drew_heap, World.size_setCell] at hs1
      have y1_0 : w.heap.size < w1.heap.size := by omega
      have y1_1 : w.heap.size + 1 < w1.heap.size := by omega
      have y1_2 : w.heap.size + 1 + 1 < w1.heap.size := by omega
      (replace a0 := kp hb1 (by omega) a0); (replace a1 := kp hb1 (by omega) a1); (replace a2 := kp hb1 (by omega) a2); (replace a3 := kp hb1 (by omega) a3); (replace a4 := kp hb1 (by omega) a4); (replace a5 := kp hb1 (by omega) a5); (replace b0 := kp hb1 (by omega) b0); (replace b1 := kp hb1 (by omega) b1); (replace b2 := kp hb1 (by omega) b2); (replace b3 := kp hb1 (by omega) b3); (replace b4 := kp hb1 (by omega) b4); (replace b5 := kp hb1 (by omega) b5); (replace z0 := kp hb1 (by omega) z0); (replace z1 := kp hb1 (by omega) z1); (replace z2 := kp hb1 (by omega) z2); (replace z3 := kp hb1 (by omega) z3); (replace z4 := kp hb1 (by omega) z4); (replace z5 := kp hb1 (by omega) z5); (replace s0 := kf hb1 (by omega) s0); (replace s1 := kf hb1 (by omega) s1); (replace s2 := kf hb1 (by omega) s2); (replace s3 := kf hb1 (by omega) s3); (replace s4 := kf hb1 (by omega) s4); (replace s5 := kf hb1 (by omega) s5)
      go_wp2_with (fail)
      go_at_call 56
      refine Calls.mono (c_vRight y0 y1 y2 y3 y4 y5 _) ?_
      rintro e w2 ⟨rfl, hb2⟩
      have hs2 := hb2.size
      try simp only [World.size_alloc, World.drew_heap, World.size_setCell] at hs2
      have y2_0 : w.heap.size < w2.heap.size := by omega
      have y2_1 : w.heap.size + 1 < w2.heap.size := by omega
      have y2_2 : w.heap.size + 1 + 1 < w2.heap.size := by omega
      try (have x2_1 : w1.heap.size < w2.heap.size := by omega)
      (replace a0 := kp hb2 (by omega) a0); (replace a1 := kp hb2 (by omega) a1); (replace a2 := kp hb2 (by omega) a2); (replace a3 := kp hb2 (by omega) a3); (replace a4 := kp hb2 (by omega) a4); (replace a5 := kp hb2 (by omega) a5); (replace b0 := kp hb2 (by omega) b0); (replace b1 := kp hb2 (by omega) b1); (replace b2 := kp hb2 (by omega) b2); (replace b3 := kp hb2 (by omega) b3); (replace b4 := kp hb2 (by omega) b4); (replace b5 := kp hb2 (by omega) b5); (replace z0 := kp hb2 (by omega) z0); (replace z1 := kp hb2 (by omega) z1); (replace z2 := kp hb2 (by omega) z2); (replace z3 := kp hb2 (by omega) z3); (replace z4 := kp hb2 (by omega) z4); (replace z5 := kp hb2 (by omega) z5); (replace s0 := kf hb2 (by omega) s0); (replace s1 := kf hb2 (by omega) s1); (replace s2 := kf hb2 (by omega) s2); (replace s3 := kf hb2 (by omega) s3); (replace s4 := kf hb2 (by omega) s4); (replace s5 := kf hb2 (by omega) s5)
      go_wp2
      have HB := hB.out
      refine bodyPost_ret (v := .tuple #[.agg #[.int .i64 0, .int .i64 0, .int .i64 0, .int .i64 0, .int .i64 0, .int .i64 0], .int .i64 20]) (by simp [results, Tryz.results12, go_sem, *]) rfl ⟨rfl, by (repeat' (first | (with_reducible exact Below.refl _ _) | (with_reducible refine Below.setCell ?_ ?_ _) | (with_reducible refine Below.alloc ?_ ?_ _) | (with_reducible refine Below.drew ?_) | (with_reducible refine below_drewN ?_ _) | (with_reducible assumption) | (with_reducible refine Below.trans ?_ (Below.mono (by with_reducible assumption) ?_)) | omega | (simp; done) | (simp; omega) | (simp [World.setCell]; omega)))⟩

  · obtain hE : chk3 (chk3 0 x0 x1 x2 x3 x4 x5 3) y0 y1 y2 y3 y4 y5 3 = 20 := by rw [chk3_bad (fun h => hx (ok3_iff.2 h))]; exact chk3_20 y0 y1 y2 y3 y4 y5
    rw [hE, errTo3_of (by decide)]
    rw [vRes_bad]
    clear hE
    have hx0 : ok3 x0 x1 x2 x3 x4 x5 = false := by simpa using hx
    clear hx
    obtain ⟨W, hW⟩ : ∃ W, W = (((w.alloc (Obj.cells #[Value.int IntKind.i64 x0, Value.int IntKind.i64 x1, Value.int IntKind.i64 x2, Value.int IntKind.i64 x3, Value.int IntKind.i64 x4, Value.int IntKind.i64 x5] 25)).alloc (Obj.cells #[Value.int IntKind.i64 y0, Value.int IntKind.i64 y1, Value.int IntKind.i64 y2, Value.int IntKind.i64 y3, Value.int IntKind.i64 y4, Value.int IntKind.i64 y5] 25)).alloc (Obj.cells #[Value.int IntKind.i64 0, Value.int IntKind.i64 0, Value.int IntKind.i64 0, Value.int IntKind.i64 0, Value.int IntKind.i64 0, Value.int IntKind.i64 0] 25)) := ⟨_, rfl⟩
    have hsW : w.heap.size + 2 < W.heap.size := by rw [hW]; simp
    have hB : Hid (Below w.heap.size w W) := by rw [hW]; unfold Hid; (repeat' (first | (with_reducible exact Below.refl _ _) | (with_reducible refine Below.setCell ?_ ?_ _) | (with_reducible refine Below.alloc ?_ ?_ _) | (with_reducible refine Below.drew ?_) | (with_reducible refine below_drewN ?_ _) | (with_reducible assumption) | (with_reducible refine Below.trans ?_ (Below.mono (by with_reducible assumption) ?_)) | omega | (simp; done) | (simp; omega) | (simp [World.setCell]; omega)))
    have a0 : W.cell? ⟨w.heap.size, 0, none⟩ = some (.int .i64 x0) := by rw [hW]; simp [go_sem]
    have a1 : W.cell? ⟨w.heap.size, 1, none⟩ = some (.int .i64 x1) := by rw [hW]; simp [go_sem]
    have a2 : W.cell? ⟨w.heap.size, 2, none⟩ = some (.int .i64 x2) := by rw [hW]; simp [go_sem]
    have a3 : W.cell? ⟨w.heap.size, 3, none⟩ = some (.int .i64 x3) := by rw [hW]; simp [go_sem]
    have a4 : W.cell? ⟨w.heap.size, 4, none⟩ = some (.int .i64 x4) := by rw [hW]; simp [go_sem]
    have a5 : W.cell? ⟨w.heap.size, 5, none⟩ = some (.int .i64 x5) := by rw [hW]; simp [go_sem]
    have b0 : W.cell? ⟨w.heap.size + 1, 0, none⟩ = some (.int .i64 y0) := by rw [hW]; simp [go_sem]
    have b1 : W.cell? ⟨w.heap.size + 1, 1, none⟩ = some (.int .i64 y1) := by rw [hW]; simp [go_sem]
    have b2 : W.cell? ⟨w.heap.size + 1, 2, none⟩ = some (.int .i64 y2) := by rw [hW]; simp [go_sem]
    have b3 : W.cell? ⟨w.heap.size + 1, 3, none⟩ = some (.int .i64 y3) := by rw [hW]; simp [go_sem]
    have b4 : W.cell? ⟨w.heap.size + 1, 4, none⟩ = some (.int .i64 y4) := by rw [hW]; simp [go_sem]
    have b5 : W.cell? ⟨w.heap.size + 1, 5, none⟩ = some (.int .i64 y5) := by rw [hW]; simp [go_sem]
    have z0 : W.cell? ⟨w.heap.size + 1 + 1, 0, none⟩ = some (.int .i64 0) := by rw [hW]; simp [go_sem]
    have z1 : W.cell? ⟨w.heap.size + 1 + 1, 1, none⟩ = some (.int .i64 0) := by rw [hW]; simp [go_sem]
    have z2 : W.cell? ⟨w.heap.size + 1 + 1, 2, none⟩ = some (.int .i64 0) := by rw [hW]; simp [go_sem]
    have z3 : W.cell? ⟨w.heap.size + 1 + 1, 3, none⟩ = some (.int .i64 0) := by rw [hW]; simp [go_sem]
    have z4 : W.cell? ⟨w.heap.size + 1 + 1, 4, none⟩ = some (.int .i64 0) := by rw [hW]; simp [go_sem]
    have z5 : W.cell? ⟨w.heap.size + 1 + 1, 5, none⟩ = some (.int .i64 0) := by rw [hW]; simp [go_sem]
    have s0 : W.frozen? ⟨w.heap.size + 1 + 1, 0, none⟩ = false := by rw [hW]; simp [go_sem]
    have s1 : W.frozen? ⟨w.heap.size + 1 + 1, 1, none⟩ = false := by rw [hW]; simp [go_sem]
    have s2 : W.frozen? ⟨w.heap.size + 1 + 1, 2, none⟩ = false := by rw [hW]; simp [go_sem]
    have s3 : W.frozen? ⟨w.heap.size + 1 + 1, 3, none⟩ = false := by rw [hW]; simp [go_sem]
    have s4 : W.frozen? ⟨w.heap.size + 1 + 1, 4, none⟩ = false := by rw [hW]; simp [go_sem]
    have s5 : W.frozen? ⟨w.heap.size + 1 + 1, 5, none⟩ = false := by rw [hW]; simp [go_sem]
    go_enter Tryz.func12, Tryz.ntmps12
    go_wp2_with (fail)
    rw [← hW]; clear hW
    go_wp2_with (fail)
    go_at_call 56
    refine Calls.mono (c_vRight x0 x1 x2 x3 x4 x5 _) ?_
    rintro e w1 ⟨rfl, hb1⟩
    have hs1 := hb1.size
    try simp only [World.size_alloc, World.drew_heap, World.size_setCell] at hs1
    have y1_0 : w.heap.size < w1.heap.size := by omega
    have y1_1 : w.heap.size + 1 < w1.heap.size := by omega
    have y1_2 : w.heap.size + 1 + 1 < w1.heap.size := by omega
    (replace a0 := kp hb1 (by omega) a0); (replace a1 := kp hb1 (by omega) a1); (replace a2 := kp hb1 (by omega) a2); (replace a3 := kp hb1 (by omega) a3); (replace a4 := kp hb1 (by omega) a4); (replace a5 := kp hb1 (by omega) a5); (replace b0 := kp hb1 (by omega) b0); (replace b1 := kp hb1 (by omega) b1); (replace b2 := kp hb1 (by omega) b2); (replace b3 := kp hb1 (by omega) b3); (replace b4 := kp hb1 (by omega) b4); (replace b5 := kp hb1 (by omega) b5); (replace z0 := kp hb1 (by omega) z0); (replace z1 := kp hb1 (by omega) z1); (replace z2 := kp hb1 (by omega) z2); (replace z3 := kp hb1 (by omega) z3); (replace z4 := kp hb1 (by omega) z4); (replace z5 := kp hb1 (by omega) z5); (replace s0 := kf hb1 (by omega) s0); (replace s1 := kf hb1 (by omega) s1); (replace s2 := kf hb1 (by omega) s2); (replace s3 := kf hb1 (by omega) s3); (replace s4 := kf hb1 (by omega) s4); (replace s5 := kf hb1 (by omega) s5)
    go_wp2
    have HB := hB.out
    refine bodyPost_ret (v := .tuple #[.agg #[.int .i64 0, .int .i64 0, .int .i64 0, .int .i64 0, .int .i64 0, .int .i64 0], .int .i64 20]) (by simp [results, Tryz.results12, go_sem, *]) rfl ⟨rfl, by (repeat' (first | (with_reducible exact Below.refl _ _) | (with_reducible refine Below.setCell ?_ ?_ _) | (with_reducible refine Below.alloc ?_ ?_ _) | (with_reducible refine Below.drew ?_) | (with_reducible refine below_drewN ?_ _) | (with_reducible assumption) | (with_reducible refine Below.trans ?_ (Below.mono (by with_reducible assumption) ?_)) | omega | (simp; done) | (simp; omega) | (simp [World.setCell]; omega)))⟩


set_option maxHeartbeats 1000000 in
theorem c_vSub (x0 x1 x2 x3 x4 x5 y0 y1 y2 y3 y4 y5 : Int) (w : World) :
    Calls Tryz.prog 14 #[.agg #[.int .i64 x0, .int .i64 x1, .int .i64 x2, .int .i64 x3, .int .i64 x4, .int .i64 x5], .agg #[.int .i64 y0, .int .i64 y1, .int .i64 y2, .int .i64 y3, .int .i64 y4, .int .i64 y5]] w fun e w' => e = .returned (vRes (errTo (chk3 (chk3 0 x0 x1 x2 x3 x4 x5 3) y0 y1 y2 y3 y4 y5 3) (spSub (x0, x1) (y0, y1)).2.2 (spSub (x2, x3) (y2, y3)).2.2 (spSub (x4, x5) (y4, y5)).2.2 3) (spSub (x0, x1) (y0, y1)) (spSub (x2, x3) (y2, y3)) (spSub (x4, x5) (y4, y5))) ∧ Below w.heap.size w w' := by
  by_cases hx : ok3 x0 x1 x2 x3 x4 x5 = true
  · by_cases hy : ok3 y0 y1 y2 y3 y4 y5 = true
    · obtain hE : chk3 (chk3 0 x0 x1 x2 x3 x4 x5 3) y0 y1 y2 y3 y4 y5 3 = 0 := by rw [chk3_ok (ok3_iff.1 hx)]; exact chk3_ok (ok3_iff.1 hy)
      rw [hE]; clear hE
      obtain ⟨ra, hra⟩ : ∃ r, r = spSub (x0, x1) (y0, y1) := ⟨_, rfl⟩
      obtain ⟨rb, hrb⟩ : ∃ r, r = spSub (x2, x3) (y2, y3) := ⟨_, rfl⟩
      obtain ⟨rc, hrc⟩ : ∃ r, r = spSub (x4, x5) (y4, y5) := ⟨_, rfl⟩
      rw [← hra, ← hrb, ← hrc]
      obtain ⟨ek, hek⟩ : ∃ ek, ek = errTo 0 ra.2.2 rb.2.2 rc.2.2 3 := ⟨_, rfl⟩
      rw [← hek]
      obtain ⟨n0, n1, n2, n3, n4, n5, hn⟩ := vRes_form ek ra rb rc
      rw [hn]
      have HN := Lib.hid hn; clear hn
      have HEK := Lib.hid hek; clear hek
      have HRA := Lib.hid hra; clear hra
      have HRB := Lib.hid hrb; clear hrb
      have HRC := Lib.hid hrc; clear hrc
      obtain ⟨W, hW⟩ : ∃ W, W = (((w.alloc (Obj.cells #[Value.int IntKind.i64 x0, Value.int IntKind.i64 x1, Value.int IntKind.i64 x2, Value.int IntKind.i64 x3, Value.int IntKind.i64 x4, Value.int IntKind.i64 x5] 25)).alloc (Obj.cells #[Value.int IntKind.i64 y0, Value.int IntKind.i64 y1, Value.int IntKind.i64 y2, Value.int IntKind.i64 y3, Value.int IntKind.i64 y4, Value.int IntKind.i64 y5] 25)).alloc (Obj.cells #[Value.int IntKind.i64 0, Value.int IntKind.i64 0, Value.int IntKind.i64 0, Value.int IntKind.i64 0, Value.int IntKind.i64 0, Value.int IntKind.i64 0] 25)) := ⟨_, rfl⟩
      have hsW : w.heap.size + 2 < W.heap.size := by rw [hW]; simp
      have hB : Hid (Below w.heap.size w W) := by rw [hW]; unfold Hid; (repeat' (first | (with_reducible exact Below.refl _ _) | (with_reducible refine Below.setCell ?_ ?_ _) | (with_reducible refine Below.alloc ?_ ?_ _) | (with_reducible refine Below.drew ?_) | (with_reducible refine below_drewN ?_ _) | (with_reducible assumption) | (with_reducible refine Below.trans ?_ (Below.mono (by with_reducible assumption) ?_)) | omega | (simp; done) | (simp; omega) | (simp [World.setCell]; omega)))
      have a0 : W.cell? ⟨w.heap.size, 0, none⟩ = some (.int .i64 x0) := by rw [hW]; simp [go_sem]
      have a1 : W.cell? ⟨w.heap.size, 1, none⟩ = some (.int .i64 x1) := by rw [hW]; simp [go_sem]
      have a2 : W.cell? ⟨w.heap.size, 2, none⟩ = some (.int .i64 x2) := by rw [hW]; simp [go_sem]
      have a3 : W.cell? ⟨w.heap.size, 3, none⟩ = some (.int .i64 x3) := by rw [hW]; simp [go_sem]
      have a4 : W.cell? ⟨w.heap.size, 4, none⟩ = some (.int .i64 x4) := by rw [hW]; simp [go_sem]
      have a5 : W.cell? ⟨w.heap.size, 5, none⟩ = some (.int .i64 x5) := by rw [hW]; simp [go_sem]
      have b0 : W.cell? ⟨w.heap.size + 1, 0, none⟩ = some (.int .i64 y0) := by rw [hW]; simp [go_sem]
      have b1 : W.cell? ⟨w.heap.size + 1, 1, none⟩ = some (.int .i64 y1) := by rw [hW]; simp [go_sem]
      have b2 : W.cell? ⟨w.heap.size + 1, 2, none⟩ = some (.int .i64 y2) := by rw [hW]; simp [go_sem]
      have b3 : W.cell? ⟨w.heap.size + 1, 3, none⟩ = some (.int .i64 y3) := by rw [hW]; simp [go_sem]
      have b4 : W.cell? ⟨w.heap.size + 1, 4, none⟩ = some (.int .i64 y4) := by rw [hW]; simp [go_sem]
      have b5 : W.cell? ⟨w.heap.size + 1, 5, none⟩ = some (.int .i64 y5) := by rw [hW]; simp [go_sem]
      have z0 : W.cell? ⟨w.heap.size + 1 + 1, 0, none⟩ = some (.int .i64 0) := by rw [hW]; simp [go_sem]
      have z1 : W.cell? ⟨w.heap.size + 1 + 1, 1, none⟩ = some (.int .i64 0) := by rw [hW]; simp [go_sem]
      have z2 : W.cell? ⟨w.heap.size + 1 + 1, 2, none⟩ = some (.int .i64 0) := by rw [hW]; simp [go_sem]
      have z3 : W.cell? ⟨w.heap.size + 1 + 1, 3, none⟩ = some (.int .i64 0) := by rw [hW]; simp [go_sem]
      have z4 : W.cell? ⟨w.heap.size + 1 + 1, 4, none⟩ = some (.int .i64 0) := by rw [hW]; simp [go_sem]
      have z5 : W.cell? ⟨w.heap.size + 1 + 1, 5, none⟩ = some (.int .i64 0) := by rw [hW]; simp [go_sem]
      have s0 : W.frozen? ⟨w.heap.size + 1 + 1, 0, none⟩ = false := by rw [hW]; simp [go_sem]
      have s1 : W.frozen? ⟨w.heap.size + 1 + 1, 1, none⟩ = false := by rw [hW]; simp [go_sem]
      have s2 : W.frozen? ⟨w.heap.size + 1 + 1, 2, none⟩ = false := by rw [hW]; simp [go_sem]
      have s3 : W.frozen? ⟨w.heap.size + 1 + 1, 3, none⟩ = false := by rw [hW]; simp [go_sem]
      have s4 : W.frozen? ⟨w.heap.size + 1 + 1, 4, none⟩ = false := by rw [hW]; simp [go_sem]
      have s5 : W.frozen? ⟨w.heap.size + 1 + 1, 5, none⟩ = false := by rw [hW]; simp [go_sem]
      go_enter Tryz.func14, Tryz.ntmps14
      go_wp2_with (fail)
      rw [← hW]; clear hW
      go_wp2_with (fail)
      go_at_call 56
      refine Calls.mono (c_vRight x0 x1 x2 x3 x4 x5 _) ?_
      rintro e w1 ⟨rfl, hb1⟩
      have hs1 := hb1.size
      try simp only [World.size_alloc, World.drew_heap, World.size_setCell] at hs1
      have y1_0 : w.heap.size < w1.heap.size := by omega
      have y1_1 : w.heap.size + 1 < w1.heap.size := by omega
      have y1_2 : w.heap.size + 1 + 1 < w1.heap.size := by omega
      (replace a0 := kp hb1 (by omega) a0); (replace a1 := kp hb1 (by omega) a1); (replace a2 := kp hb1 (by omega) a2); (replace a3 := kp hb1 (by omega) a3); (replace a4 := kp hb1 (by omega) a4); (replace a5 := kp hb1 (by omega) a5); (replace b0 := kp hb1 (by omega) b0); (replace b1 := kp hb1 (by omega) b1); (replace b2 := kp hb1 (by omega) b2); (replace b3 := kp hb1 (by omega) b3); (replace b4 := kp hb1 (by omega) b4); (replace b5 := kp hb1 (by omega) b5); (replace z0 := kp hb1 (by omega) z0); (replace z1 := kp hb1 (by omega) z1); (replace z2 := kp hb1 (by omega) z2); (replace z3 := kp hb1 (by omega) z3); (replace z4 := kp hb1 (by omega) z4); (replace z5 := kp hb1 (by omega) z5); (replace s0 := kf hb1 (by omega) s0); (replace s1 := kf hb1 (by omega) s1); (replace s2 := kf hb1 (by omega) s2); (replace s3 := kf hb1 (by omega) s3); (replace s4 := kf hb1 (by omega) s4); (replace s5 := kf hb1 (by omega) s5)
      go_wp2_with (fail)
      go_at_call 56
      refine Calls.mono (c_vRight y0 y1 y2 y3 y4 y5 _) ?_
      rintro e w2 ⟨rfl, hb2⟩
      have hs2 := hb2.size
      try simp only [World.size_alloc, World.drew_heap, World.size_setCell] at hs2
      have y2_0 : w.heap.size < w2.heap.size := by omega
      have y2_1 : w.heap.size + 1 < w2.heap.size := by omega
      have y2_2 : w.heap.size + 1 + 1 < w2.heap.size := by omega
      try (have x2_1 : w1.heap.size < w2.heap.size := by omega)
      (replace a0 := kp hb2 (by omega) a0); (replace a1 := kp hb2 (by omega) a1); (replace a2 := kp hb2 (by omega) a2); (replace a3 := kp hb2 (by omega) a3); (replace a4 := kp hb2 (by omega) a4); (replace a5 := kp hb2 (by omega) a5); (replace b0 := kp hb2 (by omega) b0); (replace b1 := kp hb2 (by omega) b1); (replace b2 := kp hb2 (by omega) b2); (replace b3 := kp hb2 (by omega) b3); (replace b4 := kp hb2 (by omega) b4); (replace b5 := kp hb2 (by omega) b5); (replace z0 := kp hb2 (by omega) z0); (replace z1 := kp hb2 (by omega) z1); (replace z2 := kp hb2 (by omega) z2); (replace z3 := kp hb2 (by omega) z3); (replace z4 := kp hb2 (by omega) z4); (replace z5 := kp hb2 (by omega) z5); (replace s0 := kf hb2 (by omega) s0); (replace s1 := kf hb2 (by omega) s1); (replace s2 := kf hb2 (by omega) s2); (replace s3 := kf hb2 (by omega) s3); (replace s4 := kf hb2 (by omega) s4); (replace s5 := kf hb2 (by omega) s5)
      go_wp2_with (fail)
      go_at_call 60
      refine Calls.mono (c_sSub x0 x1 y0 y1 _) ?_
      rw [← HRA.out]
      rintro e w3 ⟨rfl, hb3⟩
      have hs3 := hb3.size
      try simp only [World.size_alloc, World.drew_heap, World.size_setCell] at hs3
      have y3_0 : w.heap.size < w3.heap.size := by omega
      have y3_1 : w.heap.size + 1 < w3.heap.size := by omega
      have y3_2 : w.heap.size + 1 + 1 < w3.heap.size := by omega
      try (have x3_1 : w1.heap.size < w3.heap.size := by omega)
      try (have x3_2 : w2.heap.size < w3.heap.size := by omega)
      (replace a0 := kp hb3 (by omega) a0); (replace a1 := kp hb3 (by omega) a1); (replace a2 := kp hb3 (by omega) a2); (replace a3 := kp hb3 (by omega) a3); (replace a4 := kp hb3 (by omega) a4); (replace a5 := kp hb3 (by omega) a5); (replace b0 := kp hb3 (by omega) b0); (replace b1 := kp hb3 (by omega) b1); (replace b2 := kp hb3 (by omega) b2); (replace b3 := kp hb3 (by omega) b3); (replace b4 := kp hb3 (by omega) b4); (replace b5 := kp hb3 (by omega) b5); (replace z0 := kp hb3 (by omega) z0); (replace z1 := kp hb3 (by omega) z1); (replace z2 := kp hb3 (by omega) z2); (replace z3 := kp hb3 (by omega) z3); (replace z4 := kp hb3 (by omega) z4); (replace z5 := kp hb3 (by omega) z5); (replace s0 := kf hb3 (by omega) s0); (replace s1 := kf hb3 (by omega) s1); (replace s2 := kf hb3 (by omega) s2); (replace s3 := kf hb3 (by omega) s3); (replace s4 := kf hb3 (by omega) s4); (replace s5 := kf hb3 (by omega) s5)
      go_wp2_with (fail)
      go_at_call 60
      refine Calls.mono (c_sSub x2 x3 y2 y3 _) ?_
      rw [← HRB.out]
      rintro e w4 ⟨rfl, hb4⟩
      have hs4 := hb4.size
      try simp only [World.size_alloc, World.drew_heap, World.size_setCell] at hs4
      have y4_0 : w.heap.size < w4.heap.size := by omega
      have y4_1 : w.heap.size + 1 < w4.heap.size := by omega
      have y4_2 : w.heap.size + 1 + 1 < w4.heap.size := by omega
      try (have x4_1 : w1.heap.size < w4.heap.size := by omega)
      try (have x4_2 : w2.heap.size < w4.heap.size := by omega)
      try (have x4_3 : w3.heap.size < w4.heap.size := by omega)
      (replace a0 := kp1 hb4 (by omega) a0); (replace a1 := kp1 hb4 (by omega) a1); (replace a2 := kp1 hb4 (by omega) a2); (replace a3 := kp1 hb4 (by omega) a3); (replace a4 := kp1 hb4 (by omega) a4); (replace a5 := kp1 hb4 (by omega) a5); (replace b0 := kp1 hb4 (by omega) b0); (replace b1 := kp1 hb4 (by omega) b1); (replace b2 := kp1 hb4 (by omega) b2); (replace b3 := kp1 hb4 (by omega) b3); (replace b4 := kp1 hb4 (by omega) b4); (replace b5 := kp1 hb4 (by omega) b5); (replace z0 := kp1 hb4 (by omega) z0); (replace z1 := kp1 hb4 (by omega) z1); (replace z2 := kp1 hb4 (by omega) z2); (replace z3 := kp1 hb4 (by omega) z3); (replace z4 := kp1 hb4 (by omega) z4); (replace z5 := kp1 hb4 (by omega) z5); (replace s0 := kf1 hb4 (by omega) s0); (replace s1 := kf1 hb4 (by omega) s1); (replace s2 := kf1 hb4 (by omega) s2); (replace s3 := kf1 hb4 (by omega) s3); (replace s4 := kf1 hb4 (by omega) s4); (replace s5 := kf1 hb4 (by omega) s5)
      have g0 : w4.cell? ⟨w3.heap.size, 0, none⟩ = some (.int .i64 ra.1) := (kn hb4 0).trans rfl
      have g1 : w4.cell? ⟨w3.heap.size, 1, none⟩ = some (.int .i64 ra.2.1) := (kn hb4 1).trans rfl
      go_wp2_with (fail)
      go_at_call 60
      refine Calls.mono (c_sSub x4 x5 y4 y5 _) ?_
      rw [← HRC.out]
      rintro e w5 ⟨rfl, hb5⟩
      have hs5 := hb5.size
      try simp only [World.size_alloc, World.drew_heap, World.size_setCell] at hs5
      have y5_0 : w.heap.size < w5.heap.size := by omega
      have y5_1 : w.heap.size + 1 < w5.heap.size := by omega
      have y5_2 : w.heap.size + 1 + 1 < w5.heap.size := by omega
      try (have x5_1 : w1.heap.size < w5.heap.size := by omega)
      try (have x5_2 : w2.heap.size < w5.heap.size := by omega)
      try (have x5_3 : w3.heap.size < w5.heap.size := by omega)
      try (have x5_4 : w4.heap.size < w5.heap.size := by omega)
      (replace a0 := kp1 hb5 (by omega) a0); (replace a1 := kp1 hb5 (by omega) a1); (replace a2 := kp1 hb5 (by omega) a2); (replace a3 := kp1 hb5 (by omega) a3); (replace a4 := kp1 hb5 (by omega) a4); (replace a5 := kp1 hb5 (by omega) a5); (replace b0 := kp1 hb5 (by omega) b0); (replace b1 := kp1 hb5 (by omega) b1); (replace b2 := kp1 hb5 (by omega) b2); (replace b3 := kp1 hb5 (by omega) b3); (replace b4 := kp1 hb5 (by omega) b4); (replace b5 := kp1 hb5 (by omega) b5); (replace z0 := kp1 hb5 (by omega) z0); (replace z1 := kp1 hb5 (by omega) z1); (replace z2 := kp1 hb5 (by omega) z2); (replace z3 := kp1 hb5 (by omega) z3); (replace z4 := kp1 hb5 (by omega) z4); (replace z5 := kp1 hb5 (by omega) z5); (replace g0 := kp1 hb5 (by omega) g0); (replace g1 := kp1 hb5 (by omega) g1); (replace s0 := kf1 hb5 (by omega) s0); (replace s1 := kf1 hb5 (by omega) s1); (replace s2 := kf1 hb5 (by omega) s2); (replace s3 := kf1 hb5 (by omega) s3); (replace s4 := kf1 hb5 (by omega) s4); (replace s5 := kf1 hb5 (by omega) s5)
      have h0 : w5.cell? ⟨w4.heap.size, 0, none⟩ = some (.int .i64 rb.1) := (kn hb5 0).trans rfl
      have h1 : w5.cell? ⟨w4.heap.size, 1, none⟩ = some (.int .i64 rb.2.1) := (kn hb5 1).trans rfl
      go_wp2_with (fail)
      go_at_call 58
      refine Calls.mono (c_vvector ra rb rc _) ?_
      rw [← HEK.out, HN.out]
      rintro e w6 ⟨rfl, hb6⟩
      have hs6 := hb6.size
      try simp only [World.size_alloc, World.drew_heap, World.size_setCell] at hs6
      have y6_0 : w.heap.size < w6.heap.size := by omega
      have y6_1 : w.heap.size + 1 < w6.heap.size := by omega
      have y6_2 : w.heap.size + 1 + 1 < w6.heap.size := by omega
      try (have x6_1 : w1.heap.size < w6.heap.size := by omega)
      try (have x6_2 : w2.heap.size < w6.heap.size := by omega)
      try (have x6_3 : w3.heap.size < w6.heap.size := by omega)
      try (have x6_4 : w4.heap.size < w6.heap.size := by omega)
      try (have x6_5 : w5.heap.size < w6.heap.size := by omega)
      (replace a0 := kp1 hb6 (by omega) a0); (replace a1 := kp1 hb6 (by omega) a1); (replace a2 := kp1 hb6 (by omega) a2); (replace a3 := kp1 hb6 (by omega) a3); (replace a4 := kp1 hb6 (by omega) a4); (replace a5 := kp1 hb6 (by omega) a5); (replace b0 := kp1 hb6 (by omega) b0); (replace b1 := kp1 hb6 (by omega) b1); (replace b2 := kp1 hb6 (by omega) b2); (replace b3 := kp1 hb6 (by omega) b3); (replace b4 := kp1 hb6 (by omega) b4); (replace b5 := kp1 hb6 (by omega) b5); (replace z0 := kp1 hb6 (by omega) z0); (replace z1 := kp1 hb6 (by omega) z1); (replace z2 := kp1 hb6 (by omega) z2); (replace z3 := kp1 hb6 (by omega) z3); (replace z4 := kp1 hb6 (by omega) z4); (replace z5 := kp1 hb6 (by omega) z5); (replace g0 := kp1 hb6 (by omega) g0); (replace g1 := kp1 hb6 (by omega) g1); (replace h0 := kp1 hb6 (by omega) h0); (replace h1 := kp1 hb6 (by omega) h1); (replace s0 := kf1 hb6 (by omega) s0); (replace s1 := kf1 hb6 (by omega) s1); (replace s2 := kf1 hb6 (by omega) s2); (replace s3 := kf1 hb6 (by omega) s3); (replace s4 := kf1 hb6 (by omega) s4); (replace s5 := kf1 hb6 (by omega) s5)
      have i0 : w6.cell? ⟨w5.heap.size, 0, none⟩ = some (.int .i64 rc.1) := (kn hb6 0).trans rfl
      have i1 : w6.cell? ⟨w5.heap.size, 1, none⟩ = some (.int .i64 rc.2.1) := (kn hb6 1).trans rfl
      go_wp2
      have HB := hB.out
      refine bodyPost_ret (v := .tuple #[.agg #[.int .i64 n0, .int .i64 n1, .int .i64 n2, .int .i64 n3, .int .i64 n4, .int .i64 n5], .int .i64 ek]) (by simp [results, Tryz.results14, go_sem, *]) rfl ⟨rfl, by (repeat' (first | (with_reducible exact Below.refl _ _) | (with_reducible refine Below.setCell ?_ ?_ _) | (with_reducible refine Below.alloc ?_ ?_ _) | (with_reducible refine Below.drew ?_) | (with_reducible refine below_drewN ?_ _) | (with_reducible assumption) | (with_reducible refine Below.trans ?_ (Below.mono (by with_reducible assumption) ?_)) | omega | (simp; done) | (simp; omega) | (simp [World.setCell]; omega)))⟩

    · obtain hE : chk3 (chk3 0 x0 x1 x2 x3 x4 x5 3) y0 y1 y2 y3 y4 y5 3 = 20 := by rw [chk3_ok (ok3_iff.1 hx)]; exact chk3_bad (fun h => hy (ok3_iff.2 h))
      rw [hE, errTo3_of (by decide)]
      rw [vRes_bad]
      clear hE
      have hy0 : (ok3 y0 y1 y2 y3 y4 y5) = false := by simpa using hy
      clear hy
      obtain ⟨W, hW⟩ : ∃ W, W = (((w.alloc (Obj.cells #[Value.int IntKind.i64 x0, Value.int IntKind.i64 x1, Value.int IntKind.i64 x2, Value.int IntKind.i64 x3, Value.int IntKind.i64 x4, Value.int IntKind.i64 x5] 25)).alloc (Obj.cells #[Value.int IntKind.i64 y0, Value.int IntKind.i64 y1, Value.int IntKind.i64 y2, Value.int IntKind.i64 y3, Value.int IntKind.i64 y4, Value.int IntKind.i64 y5] 25)).alloc (Obj.cells #[Value.int IntKind.i64 0, Value.int IntKind.i64 0, Value.int IntKind.i64 0, Value.int IntKind.i64 0, Value.int IntKind.i64 0, Value.int IntKind.i64 0] 25)) := ⟨_, rfl⟩
      have hsW : w.heap.size + 2 < W.heap.size := by rw [hW]; simp
      have hB : Hid (Below w.heap.size w W) := by rw [hW]; unfold Hid; (repeat' (first | (with_reducible exact Below.refl _ _) | (with_reducible refine Below.setCell ?_ ?_ _) | (with_reducible refine Below.alloc ?_ ?_ _) | (with_reducible refine Below.drew ?_) | (with_reducible refine below_drewN ?_ _) | (with_reducible assumption) | (with_reducible refine Below.trans ?_ (Below.mono (by with_reducible assumption) ?_)) | omega | (simp; done) | (simp; omega) | (simp [World.setCell]; omega)))
      have a0 : W.cell? ⟨w.heap.size, 0, none⟩ = some (.int .i64 x0) := by rw [hW]; simp [go_sem]
      have a1 : W.cell? ⟨w.heap.size, 1, none⟩ = some (.int .i64 x1) := by rw [hW]; simp [go_sem]
      have a2 : W.cell? ⟨w.heap.size, 2, none⟩ = some (.int .i64 x2) := by rw [hW]; simp [go_sem]
      have a3 : W.cell? ⟨w.heap.size, 3, none⟩ = some (.int .i64 x3) := by rw [hW]; simp [go_sem]
      have a4 : W.cell? ⟨w.heap.size, 4, none⟩ = some (.int .i64 x4) := by rw [hW]; simp [go_sem]
      have a5 : W.cell? ⟨w.heap.size, 5, none⟩ = some (.int .i64 x5) := by rw [hW]; simp [go_sem]
      have b0 : W.cell? ⟨w.heap.size + 1, 0, none⟩ = some (.int .i64 y0) := by rw [hW]; simp [go_sem]
      have b1 : W.cell? ⟨w.heap.size + 1, 1, none⟩ = some (.int .i64 y1) := by rw [hW]; simp [go_sem]
      have b2 : W.cell? ⟨w.heap.size + 1, 2, none⟩ = some (.int .i64 y2) := by rw [hW]; simp [go_sem]
      have b3 : W.cell? ⟨w.heap.size + 1, 3, none⟩ = some (.int .i64 y3) := by rw [hW]; simp [go_sem]
      have b4 : W.cell? ⟨w.heap.size + 1, 4, none⟩ = some (.int .i64 y4) := by rw [hW]; simp [go_sem]
      have b5 : W.cell? ⟨w.heap.size + 1, 5, none⟩ = some (.int .i64 y5) := by rw [hW]; simp [go_sem]
      have z0 : W.cell? ⟨w.heap.size + 1 + 1, 0, none⟩ = some (.int .i64 0) := by rw [hW]; simp [go_sem]
      have z1 : W.cell? ⟨w.heap.size + 1 + 1, 1, none⟩ = some (.int .i64 0) := by rw [hW]; simp [go_sem]
      have z2 : W.cell? ⟨w.heap.size + 1 + 1, 2, none⟩ = some (.int .i64 0) := by rw [hW]; simp [go_sem]
      have z3 : W.cell? ⟨w.heap.size + 1 + 1, 3, none⟩ = some (.int .i64 0) := by rw [hW]; simp [go_sem]
      have z4 : W.cell? ⟨w.heap.size + 1 + 1, 4, none⟩ = some (.int .i64 0) := by rw [hW]; simp [go_sem]
      have z5 : W.cell? ⟨w.heap.size + 1 + 1, 5, none⟩ = some (.int .i64 0) := by rw [hW]; simp [go_sem]
      have s0 : W.frozen? ⟨w.heap.size + 1 + 1, 0, none⟩ = false := by rw [hW]; simp [go_sem]
      have s1 : W.frozen? ⟨w.heap.size + 1 + 1, 1, none⟩ = false := by rw [hW]; simp [go_sem]
      have s2 : W.frozen? ⟨w.heap.size + 1 + 1, 2, none⟩ = false := by rw [hW]; simp [go_sem]
      have s3 : W.frozen? ⟨w.heap.size + 1 + 1, 3, none⟩ = false := by rw [hW]; simp [go_sem]
      have s4 : W.frozen? ⟨w.heap.size + 1 + 1, 4, none⟩ = false := by rw [hW]; simp [go_sem]
      have s5 : W.frozen? ⟨w.heap.size + 1 + 1, 5, none⟩ = false := by rw [hW]; simp [go_sem]
      go_enter Tryz.func14, Tryz.ntmps14
      go_wp2_with (fail)
      rw [← hW]; clear hW
      go_wp2_with (fail)
      go_at_call 56
      refine Calls.mono (c_vRight x0 x1 x2 x3 x4 x5 _) ?_
      rintro e w1 ⟨rfl, hb1⟩
      have hs1 := hb1.size
      try simp only [World.size_alloc, World.drew_heap, World.size_setCell] at hs1
      have y1_0 : w.heap.size < w1.heap.size := by omega
      have y1_1 : w.heap.size + 1 < w1.heap.size := by omega
      have y1_2 : w.heap.size + 1 + 1 < w1.heap.size := by omega
      (replace a0 := kp hb1 (by omega) a0); (replace a1 := kp hb1 (by omega) a1); (replace a2 := kp hb1 (by omega) a2); (replace a3 := kp hb1 (by omega) a3); (replace a4 := kp hb1 (by omega) a4); (replace a5 := kp hb1 (by omega) a5); (replace b0 := kp hb1 (by omega) b0); (replace b1 := kp hb1 (by omega) b1); (replace b2 := kp hb1 (by omega) b2); (replace b3 := kp hb1 (by omega) b3); (replace b4 := kp hb1 (by omega) b4); (replace b5 := kp hb1 (by omega) b5); (replace z0 := kp hb1 (by omega) z0); (replace z1 := kp hb1 (by omega) z1); (replace z2 := kp hb1 (by omega) z2); (replace z3 := kp hb1 (by omega) z3); (replace z4 := kp hb1 (by omega) z4); (replace z5 := kp hb1 (by omega) z5); (replace s0 := kf hb1 (by omega) s0); (replace s1 := kf hb1 (by omega) s1); (replace s2 := kf hb1 (by omega) s2); (replace s3 := kf hb1 (by omega) s3); (replace s4 := kf hb1 (by omega) s4); (replace s5 := kf hb1 (by omega) s5)
      go_wp2_with (fail)
      go_at_call 56
      refine Calls.mono (c_vRight y0 y1 y2 y3 y4 y5 _) ?_
      rintro e w2 ⟨rfl, hb2⟩
      have hs2 := hb2.size
      try simp only [World.size_alloc, World.drew_heap, World.size_setCell] at hs2
      have y2_0 : w.heap.size < w2.heap.size := by omega
      have y2_1 : w.heap.size + 1 < w2.heap.size := by omega
      have y2_2 : w.heap.size + 1 + 1 < w2.heap.size := by omega
      try (have x2_1 : w1.heap.size < w2.heap.size := by omega)
      (replace a0 := kp hb2 (by omega) a0); (replace a1 := kp hb2 (by omega) a1); (replace a2 := kp hb2 (by omega) a2); (replace a3 := kp hb2 (by omega) a3); (replace a4 := kp hb2 (by omega) a4); (replace a5 := kp hb2 (by omega) a5); (replace b0 := kp hb2 (by omega) b0); (replace b1 := kp hb2 (by omega) b1); (replace b2 := kp hb2 (by omega) b2); (replace b3 := kp hb2 (by omega) b3); (replace b4 := kp hb2 (by omega) b4); (replace b5 := kp hb2 (by omega) b5); (replace z0 := kp hb2 (by omega) z0); (replace z1 := kp hb2 (by omega) z1); (replace z2 := kp hb2 (by omega) z2); (replace z3 := kp hb2 (by omega) z3); (replace z4 := kp hb2 (by omega) z4); (replace z5 := kp hb2 (by omega) z5); (replace s0 := kf hb2 (by omega) s0); (replace s1 := kf hb2 (by omega) s1); (replace s2 := kf hb2 (by omega) s2); (replace s3 := kf hb2 (by omega) s3); (replace s4 := kf hb2 (by omega) s4); (replace s5 := kf hb2 (by omega) s5)
      go_wp2
      have HB := hB.out
      refine bodyPost_ret (v := .tuple #[.agg #[.int .i64 0, .int .i64 0, .int .i64 0, .int .i64 0, .int .i64 0, .int .i64 0], .int .i64 20]) (by simp [results, Tryz.results14, go_sem, *]) rfl ⟨rfl, by (repeat' (first | (with_reducible exact Below.refl _ _) | (with_reducible refine Below.setCell ?_ ?_ _) | (with_reducible refine Below.alloc ?_ ?_ _) | (with_reducible refine Below.drew ?_) | (with_reducible refine below_drewN ?_ _) | (with_reducible assumption) | (with_reducible refine Below.trans ?_ (Below.mono (by with_reducible assumption) ?_)) | omega | (simp; done) | (simp; omega) | (simp [World.setCell]; omega)))⟩

  · obtain hE : chk3 (chk3 0 x0 x1 x2 x3 x4 x5 3) y0 y1 y2 y3 y4 y5 3 = 20 := by rw [chk3_bad (fun h => hx (ok3_iff.2 h))]; exact chk3_20 y0 y1 y2 y3 y4 y5
    rw [hE, errTo3_of (by decide)]
    rw [vRes_bad]
    clear hE
    have hx0 : ok3 x0 x1 x2 x3 x4 x5 = false := by simpa using hx
    clear hx
    obtain ⟨W, hW⟩ : ∃ W, W = (((w.alloc (Obj.cells #[Value.int IntKind.i64 x0, Value.int IntKind.i64 x1, Value.int IntKind.i64 x2, Value.int IntKind.i64 x3, Value.int IntKind.i64 x4, Value.int IntKind.i64 x5] 25)).alloc (Obj.cells #[Value.int IntKind.i64 y0, Value.int IntKind.i64 y1, Value.int IntKind.i64 y2, Value.int IntKind.i64 y3, Value.int IntKind.i64 y4, Value.int IntKind.i64 y5] 25)).alloc (Obj.cells #[Value.int IntKind.i64 0, Value.int IntKind.i64 0, Value.int IntKind.i64 0, Value.int IntKind.i64 0, Value.int IntKind.i64 0, Value.int IntKind.i64 0] 25)) := ⟨_, rfl⟩
    have hsW : w.heap.size + 2 < W.heap.size := by rw [hW]; simp
    have hB : Hid (Below w.heap.size w W) := by rw [hW]; unfold Hid; (repeat' (first | (with_reducible exact Below.refl _ _) | (with_reducible refine Below.setCell ?_ ?_ _) | (with_reducible refine Below.alloc ?_ ?_ _) | (with_reducible refine Below.drew ?_) | (with_reducible refine below_drewN ?_ _) | (with_reducible assumption) | (with_reducible refine Below.trans ?_ (Below.mono (by with_reducible assumption) ?_)) | omega | (simp; done) | (simp; omega) | (simp [World.setCell]; omega)))
    have a0 : W.cell? ⟨w.heap.size, 0, none⟩ = some (.int .i64 x0) := by rw [hW]; simp [go_sem]
    have a1 : W.cell? ⟨w.heap.size, 1, none⟩ = some (.int .i64 x1) := by rw [hW]; simp [go_sem]
    have a2 : W.cell? ⟨w.heap.size, 2, none⟩ = some (.int .i64 x2) := by rw [hW]; simp [go_sem]
    have a3 : W.cell? ⟨w.heap.size, 3, none⟩ = some (.int .i64 x3) := by rw [hW]; simp [go_sem]
    have a4 : W.cell? ⟨w.heap.size, 4, none⟩ = some (.int .i64 x4) := by rw [hW]; simp [go_sem]
    have a5 : W.cell? ⟨w.heap.size, 5, none⟩ = some (.int .i64 x5) := by rw [hW]; simp [go_sem]
    have b0 : W.cell? ⟨w.heap.size + 1, 0, none⟩ = some (.int .i64 y0) := by rw [hW]; simp [go_sem]
    have b1 : W.cell? ⟨w.heap.size + 1, 1, none⟩ = some (.int .i64 y1) := by rw [hW]; simp [go_sem]
    have b2 : W.cell? ⟨w.heap.size + 1, 2, none⟩ = some (.int .i64 y2) := by rw [hW]; simp [go_sem]
    have b3 : W.cell? ⟨w.heap.size + 1, 3, none⟩ = some (.int .i64 y3) := by rw [hW]; simp [go_sem]
    have b4 : W.cell? ⟨w.heap.size + 1, 4, none⟩ = some (.int .i64 y4) := by rw [hW]; simp [go_sem]
    have b5 : W.cell? ⟨w.heap.size + 1, 5, none⟩ = some (.int .i64 y5) := by rw [hW]; simp [go_sem]
    have z0 : W.cell? ⟨w.heap.size + 1 + 1, 0, none⟩ = some (.int .i64 0) := by rw [hW]; simp [go_sem]
    have z1 : W.cell? ⟨w.heap.size + 1 + 1, 1, none⟩ = some (.int .i64 0) := by rw [hW]; simp [go_sem]
    have z2 : W.cell? ⟨w.heap.size + 1 + 1, 2, none⟩ = some (.int .i64 0) := by rw [hW]; simp [go_sem]
    have z3 : W.cell? ⟨w.heap.size + 1 + 1, 3, none⟩ = some (.int .i64 0) := by rw [hW]; simp [go_sem]
    have z4 : W.cell? ⟨w.heap.size + 1 + 1, 4, none⟩ = some (.int .i64 0) := by rw [hW]; simp [go_sem]
    have z5 : W.cell? ⟨w.heap.size + 1 + 1, 5, none⟩ = some (.int .i64 0) := by rw [hW]; simp [go_sem]
    have s0 : W.frozen? ⟨w.heap.size + 1 + 1, 0, none⟩ = false := by rw [hW]; simp [go_sem]
    have s1 : W.frozen? ⟨w.heap.size + 1 + 1, 1, none⟩ = false := by rw [hW]; simp [go_sem]
    have s2 : W.frozen? ⟨w.heap.size + 1 + 1, 2, none⟩ = false := by rw [hW]; simp [go_sem]
    have s3 : W.frozen? ⟨w.heap.size + 1 + 1, 3, none⟩ = false := by rw [hW]; simp [go_sem]
    have s4 : W.frozen? ⟨w.heap.size + 1 + 1, 4, none⟩ = false := by rw [hW]; simp [go_sem]
    have s5 : W.frozen? ⟨w.heap.size + 1 + 1, 5, none⟩ = false := by rw [hW]; simp [go_sem]
    go_enter Tryz.func14, Tryz.ntmps14
    go_wp2_with (fail)
    rw [← hW]; clear hW
    go_wp2_with (fail)
    go_at_call 56
    refine Calls.mono (c_vRight x0 x1 x2 x3 x4 x5 _) ?_
    rintro e w1 ⟨rfl, hb1⟩
    have hs1 := hb1.size
    try simp only [World.size_alloc, World.drew_heap, World.size_setCell] at hs1
    have y1_0 : w.heap.size < w1.heap.size := by omega
    have y1_1 : w.heap.size + 1 < w1.heap.size := by omega
    have y1_2 : w.heap.size + 1 + 1 < w1.heap.size := by omega
    (replace a0 := kp hb1 (by omega) a0); (replace a1 := kp hb1 (by omega) a1); (replace a2 := kp hb1 (by omega) a2); (replace a3 := kp hb1 (by omega) a3); (replace a4 := kp hb1 (by omega) a4); (replace a5 := kp hb1 (by omega) a5); (replace b0 := kp hb1 (by omega) b0); (replace b1 := kp hb1 (by omega) b1); (replace b2 := kp hb1 (by omega) b2); (replace b3 := kp hb1 (by omega) b3); (replace b4 := kp hb1 (by omega) b4); (replace b5 := kp hb1 (by omega) b5); (replace z0 := kp hb1 (by omega) z0); (replace z1 := kp hb1 (by omega) z1); (replace z2 := kp hb1 (by omega) z2); (replace z3 := kp hb1 (by omega) z3); (replace z4 := kp hb1 (by omega) z4); (replace z5 := kp hb1 (by omega) z5); (replace s0 := kf hb1 (by omega) s0); (replace s1 := kf hb1 (by omega) s1); (replace s2 := kf hb1 (by omega) s2); (replace s3 := kf hb1 (by omega) s3); (replace s4 := kf hb1 (by omega) s4); (replace s5 := kf hb1 (by omega) s5)
    go_wp2
    have HB := hB.out
    refine bodyPost_ret (v := .tuple #[.agg #[.int .i64 0, .int .i64 0, .int .i64 0, .int .i64 0, .int .i64 0, .int .i64 0], .int .i64 20]) (by simp [results, Tryz.results14, go_sem, *]) rfl ⟨rfl, by (repeat' (first | (with_reducible exact Below.refl _ _) | (with_reducible refine Below.setCell ?_ ?_ _) | (with_reducible refine Below.alloc ?_ ?_ _) | (with_reducible refine Below.drew ?_) | (with_reducible refine below_drewN ?_ _) | (with_reducible assumption) | (with_reducible refine Below.trans ?_ (Below.mono (by with_reducible assumption) ?_)) | omega | (simp; done) | (simp; omega) | (simp [World.setCell]; omega)))⟩


set_option maxHeartbeats 1000000 in
theorem c_vScale (x0 x1 x2 x3 x4 x5 y0 y1 : Int) (w : World) :
    Calls Tryz.prog 21 #[.agg #[.int .i64 x0, .int .i64 x1, .int .i64 x2, .int .i64 x3, .int .i64 x4, .int .i64 x5], .agg #[.int .i64 y0, .int .i64 y1]] w fun e w' => e = .returned (vRes (errTo (chk3 (chk3 0 x0 x1 x2 x3 x4 x5 3) y0 y1 y0 y1 y0 y1 3) (spMul (x0, x1) (y0, y1)).2.2 (spMul (x2, x3) (y0, y1)).2.2 (spMul (x4, x5) (y0, y1)).2.2 3) (spMul (x0, x1) (y0, y1)) (spMul (x2, x3) (y0, y1)) (spMul (x4, x5) (y0, y1))) ∧ Below w.heap.size w w' := by
  by_cases hx : ok3 x0 x1 x2 x3 x4 x5 = true
  · by_cases hy : decide (spChk (y0, y1) = 0) = true
    · obtain hE : chk3 (chk3 0 x0 x1 x2 x3 x4 x5 3) y0 y1 y0 y1 y0 y1 3 = 0 := by rw [chk3_ok (ok3_iff.1 hx)]; exact chk3_ok (by have := of_decide_eq_true hy; exact ⟨this, this, this⟩)
      rw [hE]; clear hE
      obtain ⟨ra, hra⟩ : ∃ r, r = spMul (x0, x1) (y0, y1) := ⟨_, rfl⟩
      obtain ⟨rb, hrb⟩ : ∃ r, r = spMul (x2, x3) (y0, y1) := ⟨_, rfl⟩
      obtain ⟨rc, hrc⟩ : ∃ r, r = spMul (x4, x5) (y0, y1) := ⟨_, rfl⟩
      rw [← hra, ← hrb, ← hrc]
      obtain ⟨ek, hek⟩ : ∃ ek, ek = errTo 0 ra.2.2 rb.2.2 rc.2.2 3 := ⟨_, rfl⟩
      rw [← hek]
      obtain ⟨n0, n1, n2, n3, n4, n5, hn⟩ := vRes_form ek ra rb rc
      rw [hn]
      have HN := Lib.hid hn; clear hn
      have HEK := Lib.hid hek; clear hek
      have HRA := Lib.hid hra; clear hra
      have HRB := Lib.hid hrb; clear hrb
      have HRC := Lib.hid hrc; clear hrc
      obtain ⟨W, hW⟩ : ∃ W, W = (((w.alloc (Obj.cells #[Value.int IntKind.i64 x0, Value.int IntKind.i64 x1, Value.int IntKind.i64 x2, Value.int IntKind.i64 x3, Value.int IntKind.i64 x4, Value.int IntKind.i64 x5] 25)).alloc (Obj.cells #[Value.int IntKind.i64 y0, Value.int IntKind.i64 y1] 23)).alloc (Obj.cells #[Value.int IntKind.i64 0, Value.int IntKind.i64 0, Value.int IntKind.i64 0, Value.int IntKind.i64 0, Value.int IntKind.i64 0, Value.int IntKind.i64 0] 25)) := ⟨_, rfl⟩
      have hsW : w.heap.size + 2 < W.heap.size := by rw [hW]; simp
      have hB : Hid (Below w.heap.size w W) := by rw [hW]; unfold Hid; (repeat' (first | (with_reducible exact Below.refl _ _) | (with_reducible refine Below.setCell ?_ ?_ _) | (with_reducible refine Below.alloc ?_ ?_ _) | (with_reducible refine Below.drew ?_) | (with_reducible refine below_drewN ?_ _) | (with_reducible assumption) | (with_reducible refine Below.trans ?_ (Below.mono (by with_reducible assumption) ?_)) | omega | (simp; done) | (simp; omega) | (simp [World.setCell]; omega)))
      have a0 : W.cell? ⟨w.heap.size, 0, none⟩ = some (.int .i64 x0) := by rw [hW]; simp [go_sem]
      have a1 : W.cell? ⟨w.heap.size, 1, none⟩ = some (.int .i64 x1) := by rw [hW]; simp [go_sem]
      have a2 : W.cell? ⟨w.heap.size, 2, none⟩ = some (.int .i64 x2) := by rw [hW]; simp [go_sem]
      have a3 : W.cell? ⟨w.heap.size, 3, none⟩ = some (.int .i64 x3) := by rw [hW]; simp [go_sem]
      have a4 : W.cell? ⟨w.heap.size, 4, none⟩ = some (.int .i64 x4) := by rw [hW]; simp [go_sem]
      have a5 : W.cell? ⟨w.heap.size, 5, none⟩ = some (.int .i64 x5) := by rw [hW]; simp [go_sem]
      have b0 : W.cell? ⟨w.heap.size + 1, 0, none⟩ = some (.int .i64 y0) := by rw [hW]; simp [go_sem]
      have b1 : W.cell? ⟨w.heap.size + 1, 1, none⟩ = some (.int .i64 y1) := by rw [hW]; simp [go_sem]
      have z0 : W.cell? ⟨w.heap.size + 1 + 1, 0, none⟩ = some (.int .i64 0) := by rw [hW]; simp [go_sem]
      have z1 : W.cell? ⟨w.heap.size + 1 + 1, 1, none⟩ = some (.int .i64 0) := by rw [hW]; simp [go_sem]
      have z2 : W.cell? ⟨w.heap.size + 1 + 1, 2, none⟩ = some (.int .i64 0) := by rw [hW]; simp [go_sem]
      have z3 : W.cell? ⟨w.heap.size + 1 + 1, 3, none⟩ = some (.int .i64 0) := by rw [hW]; simp [go_sem]
      have z4 : W.cell? ⟨w.heap.size + 1 + 1, 4, none⟩ = some (.int .i64 0) := by rw [hW]; simp [go_sem]
      have z5 : W.cell? ⟨w.heap.size + 1 + 1, 5, none⟩ = some (.int .i64 0) := by rw [hW]; simp [go_sem]
      have s0 : W.frozen? ⟨w.heap.size + 1 + 1, 0, none⟩ = false := by rw [hW]; simp [go_sem]
      have s1 : W.frozen? ⟨w.heap.size + 1 + 1, 1, none⟩ = false := by rw [hW]; simp [go_sem]
      have s2 : W.frozen? ⟨w.heap.size + 1 + 1, 2, none⟩ = false := by rw [hW]; simp [go_sem]
      have s3 : W.frozen? ⟨w.heap.size + 1 + 1, 3, none⟩ = false := by rw [hW]; simp [go_sem]
      have s4 : W.frozen? ⟨w.heap.size + 1 + 1, 4, none⟩ = false := by rw [hW]; simp [go_sem]
      have s5 : W.frozen? ⟨w.heap.size + 1 + 1, 5, none⟩ = false := by rw [hW]; simp [go_sem]
      go_enter Tryz.func21, Tryz.ntmps21
      go_wp2_with (fail)
      rw [← hW]; clear hW
      go_wp2_with (fail)
      go_at_call 56
      refine Calls.mono (c_vRight x0 x1 x2 x3 x4 x5 _) ?_
      rintro e w1 ⟨rfl, hb1⟩
      have hs1 := hb1.size
      try simp only [World.size_alloc, World.drew_heap, World.size_setCell] at hs1
      have y1_0 : w.heap.size < w1.heap.size := by omega
      have y1_1 : w.heap.size + 1 < w1.heap.size := by omega
      have y1_2 : w.heap.size + 1 + 1 < w1.heap.size := by omega
      (replace a0 := kp hb1 (by omega) a0); (replace a1 := kp hb1 (by omega) a1); (replace a2 := kp hb1 (by omega) a2); (replace a3 := kp hb1 (by omega) a3); (replace a4 := kp hb1 (by omega) a4); (replace a5 := kp hb1 (by omega) a5); (replace b0 := kp hb1 (by omega) b0); (replace b1 := kp hb1 (by omega) b1); (replace z0 := kp hb1 (by omega) z0); (replace z1 := kp hb1 (by omega) z1); (replace z2 := kp hb1 (by omega) z2); (replace z3 := kp hb1 (by omega) z3); (replace z4 := kp hb1 (by omega) z4); (replace z5 := kp hb1 (by omega) z5); (replace s0 := kf hb1 (by omega) s0); (replace s1 := kf hb1 (by omega) s1); (replace s2 := kf hb1 (by omega) s2); (replace s3 := kf hb1 (by omega) s3); (replace s4 := kf hb1 (by omega) s4); (replace s5 := kf hb1 (by omega) s5)
      go_wp2_with (fail)
      go_at_call 65
      refine Calls.mono (c_sRight y0 y1 _) ?_
      rintro e w2 ⟨rfl, hb2⟩
      have hs2 := hb2.size
      try simp only [World.size_alloc, World.drew_heap, World.size_setCell] at hs2
      have y2_0 : w.heap.size < w2.heap.size := by omega
      have y2_1 : w.heap.size + 1 < w2.heap.size := by omega
      have y2_2 : w.heap.size + 1 + 1 < w2.heap.size := by omega
      try (have x2_1 : w1.heap.size < w2.heap.size := by omega)
      (replace a0 := kp hb2 (by omega) a0); (replace a1 := kp hb2 (by omega) a1); (replace a2 := kp hb2 (by omega) a2); (replace a3 := kp hb2 (by omega) a3); (replace a4 := kp hb2 (by omega) a4); (replace a5 := kp hb2 (by omega) a5); (replace b0 := kp hb2 (by omega) b0); (replace b1 := kp hb2 (by omega) b1); (replace z0 := kp hb2 (by omega) z0); (replace z1 := kp hb2 (by omega) z1); (replace z2 := kp hb2 (by omega) z2); (replace z3 := kp hb2 (by omega) z3); (replace z4 := kp hb2 (by omega) z4); (replace z5 := kp hb2 (by omega) z5); (replace s0 := kf hb2 (by omega) s0); (replace s1 := kf hb2 (by omega) s1); (replace s2 := kf hb2 (by omega) s2); (replace s3 := kf hb2 (by omega) s3); (replace s4 := kf hb2 (by omega) s4); (replace s5 := kf hb2 (by omega) s5)
      go_wp2_with (fail)
      go_at_call 66
      refine Calls.mono (c_sMul x0 x1 y0 y1 _) ?_
      rw [← HRA.out]
      rintro e w3 ⟨rfl, hb3⟩
      have hs3 := hb3.size
      try simp only [World.size_alloc, World.drew_heap, World.size_setCell] at hs3
      have y3_0 : w.heap.size < w3.heap.size := by omega
      have y3_1 : w.heap.size + 1 < w3.heap.size := by omega
      have y3_2 : w.heap.size + 1 + 1 < w3.heap.size := by omega
      try (have x3_1 : w1.heap.size < w3.heap.size := by omega)
      try (have x3_2 : w2.heap.size < w3.heap.size := by omega)
      (replace a0 := kp hb3 (by omega) a0); (replace a1 := kp hb3 (by omega) a1); (replace a2 := kp hb3 (by omega) a2); (replace a3 := kp hb3 (by omega) a3); (replace a4 := kp hb3 (by omega) a4); (replace a5 := kp hb3 (by omega) a5); (replace b0 := kp hb3 (by omega) b0); (replace b1 := kp hb3 (by omega) b1); (replace z0 := kp hb3 (by omega) z0); (replace z1 := kp hb3 (by omega) z1); (replace z2 := kp hb3 (by omega) z2); (replace z3 := kp hb3 (by omega) z3); (replace z4 := kp hb3 (by omega) z4); (replace z5 := kp hb3 (by omega) z5); (replace s0 := kf hb3 (by omega) s0); (replace s1 := kf hb3 (by omega) s1); (replace s2 := kf hb3 (by omega) s2); (replace s3 := kf hb3 (by omega) s3); (replace s4 := kf hb3 (by omega) s4); (replace s5 := kf hb3 (by omega) s5)
      go_wp2_with (fail)
      go_at_call 66
      refine Calls.mono (c_sMul x2 x3 y0 y1 _) ?_
      rw [← HRB.out]
      rintro e w4 ⟨rfl, hb4⟩
      have hs4 := hb4.size
      try simp only [World.size_alloc, World.drew_heap, World.size_setCell] at hs4
      have y4_0 : w.heap.size < w4.heap.size := by omega
      have y4_1 : w.heap.size + 1 < w4.heap.size := by omega
      have y4_2 : w.heap.size + 1 + 1 < w4.heap.size := by omega
      try (have x4_1 : w1.heap.size < w4.heap.size := by omega)
      try (have x4_2 : w2.heap.size < w4.heap.size := by omega)
      try (have x4_3 : w3.heap.size < w4.heap.size := by omega)
      (replace a0 := kp1 hb4 (by omega) a0); (replace a1 := kp1 hb4 (by omega) a1); (replace a2 := kp1 hb4 (by omega) a2); (replace a3 := kp1 hb4 (by omega) a3); (replace a4 := kp1 hb4 (by omega) a4); (replace a5 := kp1 hb4 (by omega) a5); (replace b0 := kp1 hb4 (by omega) b0); (replace b1 := kp1 hb4 (by omega) b1); (replace z0 := kp1 hb4 (by omega) z0); (replace z1 := kp1 hb4 (by omega) z1); (replace z2 := kp1 hb4 (by omega) z2); (replace z3 := kp1 hb4 (by omega) z3); (replace z4 := kp1 hb4 (by omega) z4); (replace z5 := kp1 hb4 (by omega) z5); (replace s0 := kf1 hb4 (by omega) s0); (replace s1 := kf1 hb4 (by omega) s1); (replace s2 := kf1 hb4 (by omega) s2); (replace s3 := kf1 hb4 (by omega) s3); (replace s4 := kf1 hb4 (by omega) s4); (replace s5 := kf1 hb4 (by omega) s5)
      have g0 : w4.cell? ⟨w3.heap.size, 0, none⟩ = some (.int .i64 ra.1) := (kn hb4 0).trans rfl
      have g1 : w4.cell? ⟨w3.heap.size, 1, none⟩ = some (.int .i64 ra.2.1) := (kn hb4 1).trans rfl
      go_wp2_with (fail)
      go_at_call 66
      refine Calls.mono (c_sMul x4 x5 y0 y1 _) ?_
      rw [← HRC.out]
      rintro e w5 ⟨rfl, hb5⟩
      have hs5 := hb5.size
      try simp only [World.size_alloc, World.drew_heap, World.size_setCell] at hs5
      have y5_0 : w.heap.size < w5.heap.size := by omega
      have y5_1 : w.heap.size + 1 < w5.heap.size := by omega
      have y5_2 : w.heap.size + 1 + 1 < w5.heap.size := by omega
      try (have x5_1 : w1.heap.size < w5.heap.size := by omega)
      try (have x5_2 : w2.heap.size < w5.heap.size := by omega)
      try (have x5_3 : w3.heap.size < w5.heap.size := by omega)
      try (have x5_4 : w4.heap.size < w5.heap.size := by omega)
      (replace a0 := kp1 hb5 (by omega) a0); (replace a1 := kp1 hb5 (by omega) a1); (replace a2 := kp1 hb5 (by omega) a2); (replace a3 := kp1 hb5 (by omega) a3); (replace a4 := kp1 hb5 (by omega) a4); (replace a5 := kp1 hb5 (by omega) a5); (replace b0 := kp1 hb5 (by omega) b0); (replace b1 := kp1 hb5 (by omega) b1); (replace z0 := kp1 hb5 (by omega) z0); (replace z1 := kp1 hb5 (by omega) z1); (replace z2 := kp1 hb5 (by omega) z2); (replace z3 := kp1 hb5 (by omega) z3); (replace z4 := kp1 hb5 (by omega) z4); (replace z5 := kp1 hb5 (by omega) z5); (replace g0 := kp1 hb5 (by omega) g0); (replace g1 := kp1 hb5 (by omega) g1); (replace s0 := kf1 hb5 (by omega) s0); (replace s1 := kf1 hb5 (by omega) s1); (replace s2 := kf1 hb5 (by omega) s2); (replace s3 := kf1 hb5 (by omega) s3); (replace s4 := kf1 hb5 (by omega) s4); (replace s5 := kf1 hb5 (by omega) s5)
      have h0 : w5.cell? ⟨w4.heap.size, 0, none⟩ = some (.int .i64 rb.1) := (kn hb5 0).trans rfl
      have h1 : w5.cell? ⟨w4.heap.size, 1, none⟩ = some (.int .i64 rb.2.1) := (kn hb5 1).trans rfl
      go_wp2_with (fail)
      go_at_call 58
      refine Calls.mono (c_vvector ra rb rc _) ?_
      rw [← HEK.out, HN.out]
      rintro e w6 ⟨rfl, hb6⟩
      have hs6 := hb6.size
      try simp only [World.size_alloc, World.drew_heap, World.size_setCell] at hs6
      have y6_0 : w.heap.size < w6.heap.size := by omega
      have y6_1 : w.heap.size + 1 < w6.heap.size := by omega
      have y6_2 : w.heap.size + 1 + 1 < w6.heap.size := by omega
      try (have x6_1 : w1.heap.size < w6.heap.size := by omega)
      try (have x6_2 : w2.heap.size < w6.heap.size := by omega)
      try (have x6_3 : w3.heap.size < w6.heap.size := by omega)
      try (have x6_4 : w4.heap.size < w6.heap.size := by omega)
      try (have x6_5 : w5.heap.size < w6.heap.size := by omega)
      (replace a0 := kp1 hb6 (by omega) a0); (replace a1 := kp1 hb6 (by omega) a1); (replace a2 := kp1 hb6 (by omega) a2); (replace a3 := kp1 hb6 (by omega) a3); (replace a4 := kp1 hb6 (by omega) a4); (replace a5 := kp1 hb6 (by omega) a5); (replace b0 := kp1 hb6 (by omega) b0); (replace b1 := kp1 hb6 (by omega) b1); (replace z0 := kp1 hb6 (by omega) z0); (replace z1 := kp1 hb6 (by omega) z1); (replace z2 := kp1 hb6 (by omega) z2); (replace z3 := kp1 hb6 (by omega) z3); (replace z4 := kp1 hb6 (by omega) z4); (replace z5 := kp1 hb6 (by omega) z5); (replace g0 := kp1 hb6 (by omega) g0); (replace g1 := kp1 hb6 (by omega) g1); (replace h0 := kp1 hb6 (by omega) h0); (replace h1 := kp1 hb6 (by omega) h1); (replace s0 := kf1 hb6 (by omega) s0); (replace s1 := kf1 hb6 (by omega) s1); (replace s2 := kf1 hb6 (by omega) s2); (replace s3 := kf1 hb6 (by omega) s3); (replace s4 := kf1 hb6 (by omega) s4); (replace s5 := kf1 hb6 (by omega) s5)
      have i0 : w6.cell? ⟨w5.heap.size, 0, none⟩ = some (.int .i64 rc.1) := (kn hb6 0).trans rfl
      have i1 : w6.cell? ⟨w5.heap.size, 1, none⟩ = some (.int .i64 rc.2.1) := (kn hb6 1).trans rfl
      go_wp2
      have HB := hB.out
      refine bodyPost_ret (v := .tuple #[.agg #[.int .i64 n0, .int .i64 n1, .int .i64 n2, .int .i64 n3, .int .i64 n4, .int .i64 n5], .int .i64 ek]) (by simp [results, Tryz.results21, go_sem, *]) rfl ⟨rfl, by (repeat' (first | (with_reducible exact Below.refl _ _) | (with_reducible refine Below.setCell ?_ ?_ _) | (with_reducible refine Below.alloc ?_ ?_ _) | (with_reducible refine Below.drew ?_) | (with_reducible refine below_drewN ?_ _) | (with_reducible assumption) | (with_reducible refine Below.trans ?_ (Below.mono (by with_reducible assumption) ?_)) | omega | (simp; done) | (simp; omega) | (simp [World.setCell]; omega)))⟩

    · obtain hE : chk3 (chk3 0 x0 x1 x2 x3 x4 x5 3) y0 y1 y0 y1 y0 y1 3 = 20 := by rw [chk3_ok (ok3_iff.1 hx)]; exact chk3_bad (fun h => hy (decide_eq_true h.1))
      rw [hE, errTo3_of (by decide)]
      rw [vRes_bad]
      clear hE
      have hy0 : (decide (spChk (y0, y1) = 0)) = false := by simpa using hy
      clear hy
      obtain ⟨W, hW⟩ : ∃ W, W = (((w.alloc (Obj.cells #[Value.int IntKind.i64 x0, Value.int IntKind.i64 x1, Value.int IntKind.i64 x2, Value.int IntKind.i64 x3, Value.int IntKind.i64 x4, Value.int IntKind.i64 x5] 25)).alloc (Obj.cells #[Value.int IntKind.i64 y0, Value.int IntKind.i64 y1] 23)).alloc (Obj.cells #[Value.int IntKind.i64 0, Value.int IntKind.i64 0, Value.int IntKind.i64 0, Value.int IntKind.i64 0, Value.int IntKind.i64 0, Value.int IntKind.i64 0] 25)) := ⟨_, rfl⟩
      have hsW : w.heap.size + 2 < W.heap.size := by rw [hW]; simp
      have hB : Hid (Below w.heap.size w W) := by rw [hW]; unfold Hid; (repeat' (first | (with_reducible exact Below.refl _ _) | (with_reducible refine Below.setCell ?_ ?_ _) | (with_reducible refine Below.alloc ?_ ?_ _) | (with_reducible refine Below.drew ?_) | (with_reducible refine below_drewN ?_ _) | (with_reducible assumption) | (with_reducible refine Below.trans ?_ (Below.mono (by with_reducible assumption) ?_)) | omega | (simp; done) | (simp; omega) | (simp [World.setCell]; omega)))
      have a0 : W.cell? ⟨w.heap.size, 0, none⟩ = some (.int .i64 x0) := by rw [hW]; simp [go_sem]
      have a1 : W.cell? ⟨w.heap.size, 1, none⟩ = some (.int .i64 x1) := by rw [hW]; simp [go_sem]
      have a2 : W.cell? ⟨w.heap.size, 2, none⟩ = some (.int .i64 x2) := by rw [hW]; simp [go_sem]
      have a3 : W.cell? ⟨w.heap.size, 3, none⟩ = some (.int .i64 x3) := by rw [hW]; simp [go_sem]
      have a4 : W.cell? ⟨w.heap.size, 4, none⟩ = some (.int .i64 x4) := by rw [hW]; simp [go_sem]
      have a5 : W.cell? ⟨w.heap.size, 5, none⟩ = some (.int .i64 x5) := by rw [hW]; simp [go_sem]
      have b0 : W.cell? ⟨w.heap.size + 1, 0, none⟩ = some (.int .i64 y0) := by rw [hW]; simp [go_sem]
      have b1 : W.cell? ⟨w.heap.size + 1, 1, none⟩ = some (.int .i64 y1) := by rw [hW]; simp [go_sem]
      have z0 : W.cell? ⟨w.heap.size + 1 + 1, 0, none⟩ = some (.int .i64 0) := by rw [hW]; simp [go_sem]
      have z1 : W.cell? ⟨w.heap.size + 1 + 1, 1, none⟩ = some (.int .i64 0) := by rw [hW]; simp [go_sem]
      have z2 : W.cell? ⟨w.heap.size + 1 + 1, 2, none⟩ = some (.int .i64 0) := by rw [hW]; simp [go_sem]
      have z3 : W.cell? ⟨w.heap.size + 1 + 1, 3, none⟩ = some (.int .i64 0) := by rw [hW]; simp [go_sem]
      have z4 : W.cell? ⟨w.heap.size + 1 + 1, 4, none⟩ = some (.int .i64 0) := by rw [hW]; simp [go_sem]
      have z5 : W.cell? ⟨w.heap.size + 1 + 1, 5, none⟩ = some (.int .i64 0) := by rw [hW]; simp [go_sem]
      have s0 : W.frozen? ⟨w.heap.size + 1 + 1, 0, none⟩ = false := by rw [hW]; simp [go_sem]
      have s1 : W.frozen? ⟨w.heap.size + 1 + 1, 1, none⟩ = false := by rw [hW]; simp [go_sem]
      have s2 : W.frozen? ⟨w.heap.size + 1 + 1, 2, none⟩ = false := by rw [hW]; simp [go_sem]
      have s3 : W.frozen? ⟨w.heap.size + 1 + 1, 3, none⟩ = false := by rw [hW]; simp [go_sem]
      have s4 : W.frozen? ⟨w.heap.size + 1 + 1, 4, none⟩ = false := by rw [hW]; simp [go_sem]
      have s5 : W.frozen? ⟨w.heap.size + 1 + 1, 5, none⟩ = false := by rw [hW]; simp [go_sem]
      go_enter Tryz.func21, Tryz.ntmps21
      go_wp2_with (fail)
      rw [← hW]; clear hW
      go_wp2_with (fail)
      go_at_call 56
      refine Calls.mono (c_vRight x0 x1 x2 x3 x4 x5 _) ?_
      rintro e w1 ⟨rfl, hb1⟩
      have hs1 := hb1.size
      try simp only [World.size_alloc, World.drew_heap, World.size_setCell] at hs1
      have y1_0 : w.heap.size < w1.heap.size := by omega
      have y1_1 : w.heap.size + 1 < w1.heap.size := by omega
      have y1_2 : w.heap.size + 1 + 1 < w1.heap.size := by omega
      (replace a0 := kp hb1 (by omega) a0); (replace a1 := kp hb1 (by omega) a1); (replace a2 := kp hb1 (by omega) a2); (replace a3 := kp hb1 (by omega) a3); (replace a4 := kp hb1 (by omega) a4); (replace a5 := kp hb1 (by omega) a5); (replace b0 := kp hb1 (by omega) b0); (replace b1 := kp hb1 (by omega) b1); (replace z0 := kp hb1 (by omega) z0); (replace z1 := kp hb1 (by omega) z1); (replace z2 := kp hb1 (by omega) z2); (replace z3 := kp hb1 (by omega) z3); (replace z4 := kp hb1 (by omega) z4); (replace z5 := kp hb1 (by omega) z5); (replace s0 := kf hb1 (by omega) s0); (replace s1 := kf hb1 (by omega) s1); (replace s2 := kf hb1 (by omega) s2); (replace s3 := kf hb1 (by omega) s3); (replace s4 := kf hb1 (by omega) s4); (replace s5 := kf hb1 (by omega) s5)
      go_wp2_with (fail)
      go_at_call 65
      refine Calls.mono (c_sRight y0 y1 _) ?_
      rintro e w2 ⟨rfl, hb2⟩
      have hs2 := hb2.size
      try simp only [World.size_alloc, World.drew_heap, World.size_setCell] at hs2
      have y2_0 : w.heap.size < w2.heap.size := by omega
      have y2_1 : w.heap.size + 1 < w2.heap.size := by omega
      have y2_2 : w.heap.size + 1 + 1 < w2.heap.size := by omega
      try (have x2_1 : w1.heap.size < w2.heap.size := by omega)
      (replace a0 := kp hb2 (by omega) a0); (replace a1 := kp hb2 (by omega) a1); (replace a2 := kp hb2 (by omega) a2); (replace a3 := kp hb2 (by omega) a3); (replace a4 := kp hb2 (by omega) a4); (replace a5 := kp hb2 (by omega) a5); (replace b0 := kp hb2 (by omega) b0); (replace b1 := kp hb2 (by omega) b1); (replace z0 := kp hb2 (by omega) z0); (replace z1 := kp hb2 (by omega) z1); (replace z2 := kp hb2 (by omega) z2); (replace z3 := kp hb2 (by omega) z3); (replace z4 := kp hb2 (by omega) z4); (replace z5 := kp hb2 (by omega) z5); (replace s0 := kf hb2 (by omega) s0); (replace s1 := kf hb2 (by omega) s1); (replace s2 := kf hb2 (by omega) s2); (replace s3 := kf hb2 (by omega) s3); (replace s4 := kf hb2 (by omega) s4); (replace s5 := kf hb2 (by omega) s5)
      go_wp2
      have HB := hB.out
      refine bodyPost_ret (v := .tuple #[.agg #[.int .i64 0, .int .i64 0, .int .i64 0, .int .i64 0, .int .i64 0, .int .i64 0], .int .i64 20]) (by simp [results, Tryz.results21, go_sem, *]) rfl ⟨rfl, by (repeat' (first | (with_reducible exact Below.refl _ _) | (with_reducible refine Below.setCell ?_ ?_ _) | (with_reducible refine Below.alloc ?_ ?_ _) | (with_reducible refine Below.drew ?_) | (with_reducible refine below_drewN ?_ _) | (with_reducible assumption) | (with_reducible refine Below.trans ?_ (Below.mono (by with_reducible assumption) ?_)) | omega | (simp; done) | (simp; omega) | (simp [World.setCell]; omega)))⟩

  · obtain hE : chk3 (chk3 0 x0 x1 x2 x3 x4 x5 3) y0 y1 y0 y1 y0 y1 3 = 20 := by rw [chk3_bad (fun h => hx (ok3_iff.2 h))]; exact chk3_20 y0 y1 y0 y1 y0 y1
    rw [hE, errTo3_of (by decide)]
    rw [vRes_bad]
    clear hE
    have hx0 : ok3 x0 x1 x2 x3 x4 x5 = false := by simpa using hx
    clear hx
    obtain ⟨W, hW⟩ : ∃ W, W = (((w.alloc (Obj.cells #[Value.int IntKind.i64 x0, Value.int IntKind.i64 x1, Value.int IntKind.i64 x2, Value.int IntKind.i64 x3, Value.int IntKind.i64 x4, Value.int IntKind.i64 x5] 25)).alloc (Obj.cells #[Value.int IntKind.i64 y0, Value.int IntKind.i64 y1] 23)).alloc (Obj.cells #[Value.int IntKind.i64 0, Value.int IntKind.i64 0, Value.int IntKind.i64 0, Value.int IntKind.i64 0, Value.int IntKind.i64 0, Value.int IntKind.i64 0] 25)) := ⟨_, rfl⟩
    have hsW : w.heap.size + 2 < W.heap.size := by rw [hW]; simp
    have hB : Hid (Below w.heap.size w W) := by rw [hW]; unfold Hid; (repeat' (first | (with_reducible exact Below.refl _ _) | (with_reducible refine Below.setCell ?_ ?_ _) | (with_reducible refine Below.alloc ?_ ?_ _) | (with_reducible refine Below.drew ?_) | (with_reducible refine below_drewN ?_ _) | (with_reducible assumption) | (with_reducible refine Below.trans ?_ (Below.mono (by with_reducible assumption) ?_)) | omega | (simp; done) | (simp; omega) | (simp [World.setCell]; omega)))
    have a0 : W.cell? ⟨w.heap.size, 0, none⟩ = some (.int .i64 x0) := by rw [hW]; simp [go_sem]
    have a1 : W.cell? ⟨w.heap.size, 1, none⟩ = some (.int .i64 x1) := by rw [hW]; simp [go_sem]
    have a2 : W.cell? ⟨w.heap.size, 2, none⟩ = some (.int .i64 x2) := by rw [hW]; simp [go_sem]
    have a3 : W.cell? ⟨w.heap.size, 3, none⟩ = some (.int .i64 x3) := by rw [hW]; simp [go_sem]
    have a4 : W.cell? ⟨w.heap.size, 4, none⟩ = some (.int .i64 x4) := by rw [hW]; simp [go_sem]
    have a5 : W.cell? ⟨w.heap.size, 5, none⟩ = some (.int .i64 x5) := by rw [hW]; simp [go_sem]
    have b0 : W.cell? ⟨w.heap.size + 1, 0, none⟩ = some (.int .i64 y0) := by rw [hW]; simp [go_sem]
    have b1 : W.cell? ⟨w.heap.size + 1, 1, none⟩ = some (.int .i64 y1) := by rw [hW]; simp [go_sem]
    have z0 : W.cell? ⟨w.heap.size + 1 + 1, 0, none⟩ = some (.int .i64 0) := by rw [hW]; simp [go_sem]
    have z1 : W.cell? ⟨w.heap.size + 1 + 1, 1, none⟩ = some (.int .i64 0) := by rw [hW]; simp [go_sem]
    have z2 : W.cell? ⟨w.heap.size + 1 + 1, 2, none⟩ = some (.int .i64 0) := by rw [hW]; simp [go_sem]
    have z3 : W.cell? ⟨w.heap.size + 1 + 1, 3, none⟩ = some (.int .i64 0) := by rw [hW]; simp [go_sem]
    have z4 : W.cell? ⟨w.heap.size + 1 + 1, 4, none⟩ = some (.int .i64 0) := by rw [hW]; simp [go_sem]
    have z5 : W.cell? ⟨w.heap.size + 1 + 1, 5, none⟩ = some (.int .i64 0) := by rw [hW]; simp [go_sem]
    have s0 : W.frozen? ⟨w.heap.size + 1 + 1, 0, none⟩ = false := by rw [hW]; simp [go_sem]
    have s1 : W.frozen? ⟨w.heap.size + 1 + 1, 1, none⟩ = false := by rw [hW]; simp [go_sem]
    have s2 : W.frozen? ⟨w.heap.size + 1 + 1, 2, none⟩ = false := by rw [hW]; simp [go_sem]
    have s3 : W.frozen? ⟨w.heap.size + 1 + 1, 3, none⟩ = false := by rw [hW]; simp [go_sem]
    have s4 : W.frozen? ⟨w.heap.size + 1 + 1, 4, none⟩ = false := by rw [hW]; simp [go_sem]
    have s5 : W.frozen? ⟨w.heap.size + 1 + 1, 5, none⟩ = false := by rw [hW]; simp [go_sem]
    go_enter Tryz.func21, Tryz.ntmps21
    go_wp2_with (fail)
    rw [← hW]; clear hW
    go_wp2_with (fail)
    go_at_call 56
    refine Calls.mono (c_vRight x0 x1 x2 x3 x4 x5 _) ?_
    rintro e w1 ⟨rfl, hb1⟩
    have hs1 := hb1.size
    try simp only [World.size_alloc, World.drew_heap, World.size_setCell] at hs1
    have y1_0 : w.heap.size < w1.heap.size := by omega
    have y1_1 : w.heap.size + 1 < w1.heap.size := by omega
    have y1_2 : w.heap.size + 1 + 1 < w1.heap.size := by omega
    (replace a0 := kp hb1 (by omega) a0); (replace a1 := kp hb1 (by omega) a1); (replace a2 := kp hb1 (by omega) a2); (replace a3 := kp hb1 (by omega) a3); (replace a4 := kp hb1 (by omega) a4); (replace a5 := kp hb1 (by omega) a5); (replace b0 := kp hb1 (by omega) b0); (replace b1 := kp hb1 (by omega) b1); (replace z0 := kp hb1 (by omega) z0); (replace z1 := kp hb1 (by omega) z1); (replace z2 := kp hb1 (by omega) z2); (replace z3 := kp hb1 (by omega) z3); (replace z4 := kp hb1 (by omega) z4); (replace z5 := kp hb1 (by omega) z5); (replace s0 := kf hb1 (by omega) s0); (replace s1 := kf hb1 (by omega) s1); (replace s2 := kf hb1 (by omega) s2); (replace s3 := kf hb1 (by omega) s3); (replace s4 := kf hb1 (by omega) s4); (replace s5 := kf hb1 (by omega) s5)
    go_wp2
    have HB := hB.out
    refine bodyPost_ret (v := .tuple #[.agg #[.int .i64 0, .int .i64 0, .int .i64 0, .int .i64 0, .int .i64 0, .int .i64 0], .int .i64 20]) (by simp [results, Tryz.results21, go_sem, *]) rfl ⟨rfl, by (repeat' (first | (with_reducible exact Below.refl _ _) | (with_reducible refine Below.setCell ?_ ?_ _) | (with_reducible refine Below.alloc ?_ ?_ _) | (with_reducible refine Below.drew ?_) | (with_reducible refine below_drewN ?_ _) | (with_reducible assumption) | (with_reducible refine Below.trans ?_ (Below.mono (by with_reducible assumption) ?_)) | omega | (simp; done) | (simp; omega) | (simp [World.setCell]; omega)))⟩


theorem spNeg_err (a : Int × Int) : (spNeg a).2.2 = spChk a := by
  rcases spChk_or a with h | h
  · rw [spNeg_ok a h, h]
  · rw [spNeg_bad a (by omega), h]
theorem neg_err (x0 x1 x2 x3 x4 x5 : Int) : errTo (chk3 0 x0 x1 x2 x3 x4 x5 3) (spNeg (x0, x1)).2.2 (spNeg (x2, x3)).2.2 (spNeg (x4, x5)).2.2 3 = errTo 0 (spNeg (x0, x1)).2.2 (spNeg (x2, x3)).2.2 (spNeg (x4, x5)).2.2 3 := by
  rw [spNeg_err, spNeg_err, spNeg_err]
  show errTo (chk3 0 x0 x1 x2 x3 x4 x5 3) _ _ _ 3 = chk3 0 x0 x1 x2 x3 x4 x5 3
  by_cases h : chk3 0 x0 x1 x2 x3 x4 x5 3 = 0
  · rw [h]; exact h
  · rw [errTo3_of h]

set_option maxHeartbeats 1000000 in
theorem c_vNeg (x0 x1 x2 x3 x4 x5 : Int) (w : World) :
    Calls Tryz.prog 16 #[.agg #[.int .i64 x0, .int .i64 x1, .int .i64 x2, .int .i64 x3, .int .i64 x4, .int .i64 x5]] w fun e w' => e = .returned (vRes (errTo (chk3 0 x0 x1 x2 x3 x4 x5 3) (spNeg (x0, x1)).2.2 (spNeg (x2, x3)).2.2 (spNeg (x4, x5)).2.2 3) (spNeg (x0, x1)) (spNeg (x2, x3)) (spNeg (x4, x5))) ∧ Below w.heap.size w w' := by
  rw [neg_err]
  obtain ⟨ra, hra⟩ : ∃ r, r = spNeg (x0, x1) := ⟨_, rfl⟩
  obtain ⟨rb, hrb⟩ : ∃ r, r = spNeg (x2, x3) := ⟨_, rfl⟩
  obtain ⟨rc, hrc⟩ : ∃ r, r = spNeg (x4, x5) := ⟨_, rfl⟩
  rw [← hra, ← hrb, ← hrc]
  obtain ⟨ek, hek⟩ : ∃ ek, ek = errTo 0 ra.2.2 rb.2.2 rc.2.2 3 := ⟨_, rfl⟩
  rw [← hek]
  obtain ⟨n0, n1, n2, n3, n4, n5, hn⟩ := vRes_form ek ra rb rc
  rw [hn]
  have HN := Lib.hid hn; clear hn
  have HEK := Lib.hid hek; clear hek
  have HRA := Lib.hid hra; clear hra
  have HRB := Lib.hid hrb; clear hrb
  have HRC := Lib.hid hrc; clear hrc
  obtain ⟨W, hW⟩ : ∃ W, W = ((w.alloc (Obj.cells #[Value.int IntKind.i64 x0, Value.int IntKind.i64 x1, Value.int IntKind.i64 x2, Value.int IntKind.i64 x3, Value.int IntKind.i64 x4, Value.int IntKind.i64 x5] 25)).alloc (Obj.cells #[Value.int IntKind.i64 0, Value.int IntKind.i64 0, Value.int IntKind.i64 0, Value.int IntKind.i64 0, Value.int IntKind.i64 0, Value.int IntKind.i64 0] 25)) := ⟨_, rfl⟩
  have hsW : w.heap.size + 1 < W.heap.size := by rw [hW]; simp
  have hB : Hid (Below w.heap.size w W) := by rw [hW]; unfold Hid; (repeat' (first | (with_reducible exact Below.refl _ _) | (with_reducible refine Below.setCell ?_ ?_ _) | (with_reducible refine Below.alloc ?_ ?_ _) | (with_reducible refine Below.drew ?_) | (with_reducible refine below_drewN ?_ _) | (with_reducible assumption) | (with_reducible refine Below.trans ?_ (Below.mono (by with_reducible assumption) ?_)) | omega | (simp; done) | (simp; omega) | (simp [World.setCell]; omega)))
  have a0 : W.cell? ⟨w.heap.size, 0, none⟩ = some (.int .i64 x0) := by rw [hW]; simp [go_sem]
  have a1 : W.cell? ⟨w.heap.size, 1, none⟩ = some (.int .i64 x1) := by rw [hW]; simp [go_sem]
  have a2 : W.cell? ⟨w.heap.size, 2, none⟩ = some (.int .i64 x2) := by rw [hW]; simp [go_sem]
  have a3 : W.cell? ⟨w.heap.size, 3, none⟩ = some (.int .i64 x3) := by rw [hW]; simp [go_sem]
  have a4 : W.cell? ⟨w.heap.size, 4, none⟩ = some (.int .i64 x4) := by rw [hW]; simp [go_sem]
  have a5 : W.cell? ⟨w.heap.size, 5, none⟩ = some (.int .i64 x5) := by rw [hW]; simp [go_sem]
  have z0 : W.cell? ⟨w.heap.size + 1, 0, none⟩ = some (.int .i64 0) := by rw [hW]; simp [go_sem]
  have z1 : W.cell? ⟨w.heap.size + 1, 1, none⟩ = some (.int .i64 0) := by rw [hW]; simp [go_sem]
  have z2 : W.cell? ⟨w.heap.size + 1, 2, none⟩ = some (.int .i64 0) := by rw [hW]; simp [go_sem]
  have z3 : W.cell? ⟨w.heap.size + 1, 3, none⟩ = some (.int .i64 0) := by rw [hW]; simp [go_sem]
  have z4 : W.cell? ⟨w.heap.size + 1, 4, none⟩ = some (.int .i64 0) := by rw [hW]; simp [go_sem]
  have z5 : W.cell? ⟨w.heap.size + 1, 5, none⟩ = some (.int .i64 0) := by rw [hW]; simp [go_sem]
  have s0 : W.frozen? ⟨w.heap.size + 1, 0, none⟩ = false := by rw [hW]; simp [go_sem]
  have s1 : W.frozen? ⟨w.heap.size + 1, 1, none⟩ = false := by rw [hW]; simp [go_sem]
  have s2 : W.frozen? ⟨w.heap.size + 1, 2, none⟩ = false := by rw [hW]; simp [go_sem]
  have s3 : W.frozen? ⟨w.heap.size + 1, 3, none⟩ = false := by rw [hW]; simp [go_sem]
  have s4 : W.frozen? ⟨w.heap.size + 1, 4, none⟩ = false := by rw [hW]; simp [go_sem]
  have s5 : W.frozen? ⟨w.heap.size + 1, 5, none⟩ = false := by rw [hW]; simp [go_sem]
  go_enter Tryz.func16, Tryz.ntmps16
  go_wp2_with (fail)
  rw [← hW]; clear hW
  go_wp2_with (fail)
  go_at_call 62
  refine Calls.mono (c_sNeg x0 x1 _) ?_
  rw [← HRA.out]
  rintro e w1 ⟨rfl, hb1⟩
  have hs1 := hb1.size
  try simp only [World.size_alloc, World.drew_heap, World.size_setCell] at hs1
  have y1_0 : w.heap.size < w1.heap.size := by omega
  have y1_1 : w.heap.size + 1 < w1.heap.size := by omega
  (replace a0 := kp hb1 (by omega) a0); (replace a1 := kp hb1 (by omega) a1); (replace a2 := kp hb1 (by omega) a2); (replace a3 := kp hb1 (by omega) a3); (replace a4 := kp hb1 (by omega) a4); (replace a5 := kp hb1 (by omega) a5); (replace z0 := kp hb1 (by omega) z0); (replace z1 := kp hb1 (by omega) z1); (replace z2 := kp hb1 (by omega) z2); (replace z3 := kp hb1 (by omega) z3); (replace z4 := kp hb1 (by omega) z4); (replace z5 := kp hb1 (by omega) z5); (replace s0 := kf hb1 (by omega) s0); (replace s1 := kf hb1 (by omega) s1); (replace s2 := kf hb1 (by omega) s2); (replace s3 := kf hb1 (by omega) s3); (replace s4 := kf hb1 (by omega) s4); (replace s5 := kf hb1 (by omega) s5)
  go_wp2_with (fail)
  go_at_call 62
  refine Calls.mono (c_sNeg x2 x3 _) ?_
  rw [← HRB.out]
  rintro e w2 ⟨rfl, hb2⟩
  have hs2 := hb2.size
  try simp only [World.size_alloc, World.drew_heap, World.size_setCell] at hs2
  have y2_0 : w.heap.size < w2.heap.size := by omega
  have y2_1 : w.heap.size + 1 < w2.heap.size := by omega
  try (have x2_1 : w1.heap.size < w2.heap.size := by omega)
  (replace a0 := kp1 hb2 (by omega) a0); (replace a1 := kp1 hb2 (by omega) a1); (replace a2 := kp1 hb2 (by omega) a2); (replace a3 := kp1 hb2 (by omega) a3); (replace a4 := kp1 hb2 (by omega) a4); (replace a5 := kp1 hb2 (by omega) a5); (replace z0 := kp1 hb2 (by omega) z0); (replace z1 := kp1 hb2 (by omega) z1); (replace z2 := kp1 hb2 (by omega) z2); (replace z3 := kp1 hb2 (by omega) z3); (replace z4 := kp1 hb2 (by omega) z4); (replace z5 := kp1 hb2 (by omega) z5); (replace s0 := kf1 hb2 (by omega) s0); (replace s1 := kf1 hb2 (by omega) s1); (replace s2 := kf1 hb2 (by omega) s2); (replace s3 := kf1 hb2 (by omega) s3); (replace s4 := kf1 hb2 (by omega) s4); (replace s5 := kf1 hb2 (by omega) s5)
  have g0 : w2.cell? ⟨w1.heap.size, 0, none⟩ = some (.int .i64 ra.1) := (kn hb2 0).trans rfl
  have g1 : w2.cell? ⟨w1.heap.size, 1, none⟩ = some (.int .i64 ra.2.1) := (kn hb2 1).trans rfl
  go_wp2_with (fail)
  go_at_call 62
  refine Calls.mono (c_sNeg x4 x5 _) ?_
  rw [← HRC.out]
  rintro e w3 ⟨rfl, hb3⟩
  have hs3 := hb3.size
  try simp only [World.size_alloc, World.drew_heap, World.size_setCell] at hs3
  have y3_0 : w.heap.size < w3.heap.size := by omega
  have y3_1 : w.heap.size + 1 < w3.heap.size := by omega
  try (have x3_1 : w1.heap.size < w3.heap.size := by omega)
  try (have x3_2 : w2.heap.size < w3.heap.size := by omega)
  (replace a0 := kp1 hb3 (by omega) a0); (replace a1 := kp1 hb3 (by omega) a1); (replace a2 := kp1 hb3 (by omega) a2); (replace a3 := kp1 hb3 (by omega) a3); (replace a4 := kp1 hb3 (by omega) a4); (replace a5 := kp1 hb3 (by omega) a5); (replace z0 := kp1 hb3 (by omega) z0); (replace z1 := kp1 hb3 (by omega) z1); (replace z2 := kp1 hb3 (by omega) z2); (replace z3 := kp1 hb3 (by omega) z3); (replace z4 := kp1 hb3 (by omega) z4); (replace z5 := kp1 hb3 (by omega) z5); (replace g0 := kp1 hb3 (by omega) g0); (replace g1 := kp1 hb3 (by omega) g1); (replace s0 := kf1 hb3 (by omega) s0); (replace s1 := kf1 hb3 (by omega) s1); (replace s2 := kf1 hb3 (by omega) s2); (replace s3 := kf1 hb3 (by omega) s3); (replace s4 := kf1 hb3 (by omega) s4); (replace s5 := kf1 hb3 (by omega) s5)
  have h0 : w3.cell? ⟨w2.heap.size, 0, none⟩ = some (.int .i64 rb.1) := (kn hb3 0).trans rfl
  have h1 : w3.cell? ⟨w2.heap.size, 1, none⟩ = some (.int .i64 rb.2.1) := (kn hb3 1).trans rfl
  go_wp2_with (fail)
  go_at_call 58
  refine Calls.mono (c_vvector ra rb rc _) ?_
  rw [← HEK.out, HN.out]
  rintro e w4 ⟨rfl, hb4⟩
  have hs4 := hb4.size
  try simp only [World.size_alloc, World.drew_heap, World.size_setCell] at hs4
  have y4_0 : w.heap.size < w4.heap.size := by omega
  have y4_1 : w.heap.size + 1 < w4.heap.size := by omega
  try (have x4_1 : w1.heap.size < w4.heap.size := by omega)
  try (have x4_2 : w2.heap.size < w4.heap.size := by omega)
  try (have x4_3 : w3.heap.size < w4.heap.size := by omega)
  (replace a0 := kp1 hb4 (by omega) a0); (replace a1 := kp1 hb4 (by omega) a1); (replace a2 := kp1 hb4 (by omega) a2); (replace a3 := kp1 hb4 (by omega) a3); (replace a4 := kp1 hb4 (by omega) a4); (replace a5 := kp1 hb4 (by omega) a5); (replace z0 := kp1 hb4 (by omega) z0); (replace z1 := kp1 hb4 (by omega) z1); (replace z2 := kp1 hb4 (by omega) z2); (replace z3 := kp1 hb4 (by omega) z3); (replace z4 := kp1 hb4 (by omega) z4); (replace z5 := kp1 hb4 (by omega) z5); (replace g0 := kp1 hb4 (by omega) g0); (replace g1 := kp1 hb4 (by omega) g1); (replace h0 := kp1 hb4 (by omega) h0); (replace h1 := kp1 hb4 (by omega) h1); (replace s0 := kf1 hb4 (by omega) s0); (replace s1 := kf1 hb4 (by omega) s1); (replace s2 := kf1 hb4 (by omega) s2); (replace s3 := kf1 hb4 (by omega) s3); (replace s4 := kf1 hb4 (by omega) s4); (replace s5 := kf1 hb4 (by omega) s5)
  have i0 : w4.cell? ⟨w3.heap.size, 0, none⟩ = some (.int .i64 rc.1) := (kn hb4 0).trans rfl
  have i1 : w4.cell? ⟨w3.heap.size, 1, none⟩ = some (.int .i64 rc.2.1) := (kn hb4 1).trans rfl
  go_wp2
  have HB := hB.out
  refine bodyPost_ret (v := .tuple #[.agg #[.int .i64 n0, .int .i64 n1, .int .i64 n2, .int .i64 n3, .int .i64 n4, .int .i64 n5], .int .i64 ek]) (by simp [results, Tryz.results16, go_sem, *]) rfl ⟨rfl, by (repeat' (first | (with_reducible exact Below.refl _ _) | (with_reducible refine Below.setCell ?_ ?_ _) | (with_reducible refine Below.alloc ?_ ?_ _) | (with_reducible refine Below.drew ?_) | (with_reducible refine below_drewN ?_ _) | (with_reducible assumption) | (with_reducible refine Below.trans ?_ (Below.mono (by with_reducible assumption) ?_)) | omega | (simp; done) | (simp; omega) | (simp [World.setCell]; omega)))⟩


theorem c_vCheck (x0 x1 x2 x3 x4 x5 : Int) (w : World) :
    Calls Tryz.prog 18 #[.agg #[.int .i64 x0, .int .i64 x1, .int .i64 x2, .int .i64 x3, .int .i64 x4, .int .i64 x5]] w fun e w' => e = .returned (.int .i64 (chk3 0 x0 x1 x2 x3 x4 x5 3)) ∧ Below w.heap.size w w' := by
  rw [chk3_of]
  by_cases h : ok3 x0 x1 x2 x3 x4 x5 = true
  · rw [if_pos h]
    go_enter Tryz.func18, Tryz.ntmps18
    go_wp2_with (first | (go_at_call 56; refine Calls.mono (c_vRight _ _ _ _ _ _ _) ?_; rintro e w1 ⟨rfl, hb1⟩))
    refine bodyPost_ret (v := .int .i64 0) (by simp [results, Tryz.results18, go_sem, *]) rfl ⟨rfl, by (repeat' (first | (with_reducible exact Below.refl _ _) | (with_reducible refine Below.setCell ?_ ?_ _) | (with_reducible refine Below.alloc ?_ ?_ _) | (with_reducible refine Below.drew ?_) | (with_reducible refine below_drewN ?_ _) | (with_reducible assumption) | (with_reducible refine Below.trans ?_ (Below.mono (by with_reducible assumption) ?_)) | omega | (simp; done) | (simp; omega) | (simp [World.setCell]; omega)))⟩
  · rw [if_neg h]
    have h0 : ok3 x0 x1 x2 x3 x4 x5 = false := by simpa using h
    go_enter Tryz.func18, Tryz.ntmps18
    go_wp2_with (first | (go_at_call 56; refine Calls.mono (c_vRight _ _ _ _ _ _ _) ?_; rintro e w1 ⟨rfl, hb1⟩))
    refine bodyPost_ret (v := .int .i64 20) (by simp [results, Tryz.results18, go_sem, *]) rfl ⟨rfl, by (repeat' (first | (with_reducible exact Below.refl _ _) | (with_reducible refine Below.setCell ?_ ?_ _) | (with_reducible refine Below.alloc ?_ ?_ _) | (with_reducible refine Below.drew ?_) | (with_reducible refine below_drewN ?_ _) | (with_reducible assumption) | (with_reducible refine Below.trans ?_ (Below.mono (by with_reducible assumption) ?_)) | omega | (simp; done) | (simp; omega) | (simp [World.setCell]; omega)))⟩

end Go.Proofs.YtpdaigenffecmaaGreat
