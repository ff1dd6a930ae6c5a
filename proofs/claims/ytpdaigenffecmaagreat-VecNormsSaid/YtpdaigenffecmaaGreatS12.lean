/-
  The reference 06: Norm, Unit.
-/
import Derived.Test.YtpdaigenffecmaaGreatM25
import Derived.Test.YtpdaigenffecmaaGreatM28
import Derived.Test.YtpdaigenffecmaaGreatM29
set_option linter.all false
namespace Go.Proofs.YtpdaigenffecmaaGreat
open Go.RowKit Go.Shelf

theorem rNorm_none (a b c : Int × Int × Int) : NoneR (rNorm a b c) := by
  unfold rNorm; split
  · intro _; rfl
  · exact spSqrt_none _
theorem normE_20 (a b c : Int × Int × Int) : normE 20 a b c = 20 := by unfold normE; rw [sumE_20, fst2_of (show (20 : Int) ≠ 0 by decide)]

set_option maxHeartbeats 1000000 in
theorem c_vNorm (x0 x1 x2 x3 x4 x5 : Int) (w : World) :
    Calls Tryz.prog 27 #[.agg #[.int .i64 x0, .int .i64 x1, .int .i64 x2, .int .i64 x3, .int .i64 x4, .int .i64 x5]] w fun e w' => e = .returned (iRes (normE (chk3 0 x0 x1 x2 x3 x4 x5 3) (spPow (x0, x1) 2) (spPow (x2, x3) 2) (spPow (x4, x5) 2)) (norm3 (spPow (x0, x1) 2) (spPow (x2, x3) 2) (spPow (x4, x5) 2))) ∧ Below w.heap.size w w' := by
  by_cases hx : ok3 x0 x1 x2 x3 x4 x5 = true
  · obtain hE : chk3 0 x0 x1 x2 x3 x4 x5 3 = 0 := chk3_ok (ok3_iff.1 hx)
    rw [hE]; clear hE
    obtain ⟨ra, hra⟩ : ∃ r, r = spPow (x0, x1) 2 := ⟨_, rfl⟩
    obtain ⟨rb, hrb⟩ : ∃ r, r = spPow (x2, x3) 2 := ⟨_, rfl⟩
    obtain ⟨rc, hrc⟩ : ∃ r, r = spPow (x4, x5) 2 := ⟨_, rfl⟩
    rw [← hra, ← hrb, ← hrc]
    obtain ⟨rt, hrt⟩ : ∃ r, r = rThree ra rb rc := ⟨_, rfl⟩
    obtain ⟨rq, hrq⟩ : ∃ r, r = spSqrt (rt.1, rt.2.1) := ⟨_, rfl⟩
    rw [(rNorm_eq ra rb rc).1, iRes_none (rNorm_none ra rb rc)]
    have q : rNorm ra rb rc = if rt.2.2 ≠ 0 then (0, 0, rt.2.2) else rq := by rw [hrq, hrt]; rfl
    by_cases h0 : rt.2.2 = 0
    · have v : Hid (rNorm ra rb rc = rq) := by unfold Hid; rw [q, if_neg (by simp [h0])]
      have d0 : (rt.2.2 != 0) = false := by simp [h0]
      rw [v.out]
      clear q h0
      have HRT := Lib.hid hrt; clear hrt
      have HRQ := Lib.hid hrq; clear hrq
      have HRA := Lib.hid hra; clear hra
      have HRB := Lib.hid hrb; clear hrb
      have HRC := Lib.hid hrc; clear hrc
      obtain ⟨W, hW⟩ : ∃ W, W = ((w.alloc (Obj.cells #[Value.int IntKind.i64 x0, Value.int IntKind.i64 x1, Value.int IntKind.i64 x2, Value.int IntKind.i64 x3, Value.int IntKind.i64 x4, Value.int IntKind.i64 x5] 25)).alloc (Obj.cells #[Value.int IntKind.i64 0, Value.int IntKind.i64 0] 23)) := ⟨_, rfl⟩
      have hsW : w.heap.size + 1 < W.heap.size := by rw [hW]; simp
      have hB : Hid (Below w.heap.size w W) := by rw [hW]; unfold Hid; (repeat' (first | (with_reducible exact Below.refl _ _) | (with_reducible refine Below.setCell ?_ ?_ _) | (with_reducible refine Below.alloc ?_ ?_ _) | (with_reducible refine Below.drew ?_) | (with_reducible refine below_drewN ?_ _) | (with_reducible assumption) | (with_reducible refine Below.trans ?_ (Below.mono (by with_reducible assumption) ?_)) | omega | (simp; done) | (simp; omega) | (simp [World.setCell]; omega)))
      have a0 : W.cell? ⟨w.heap.size, 0, none⟩ = some (.int .i64 x0) := by rw [hW]; simp [go_sem]
      have a1 : W.cell? ⟨w.heap.size, 1, none⟩ = some (.int .i64 x1) := by rw [hW]; simp [go_sem]
      have a2 : W.cell? ⟨w.heap.size, 2, none⟩ = some (.int .i64 x2) := by rw [hW]; simp [go_sem]
      have a3 : W.cell? ⟨w.heap.size, 3, none⟩ = some (.int .i64 x3) := by rw [hW]; simp [go_sem]
      have a4 : W.cell? ⟨w.heap.size, 4, none⟩ = some (.int .i64 x4) := by rw [hW]; simp [go_sem]
      have a5 : W.cell? ⟨w.heap.size, 5, none⟩ = some (.int .i64 x5) := by rw [hW]; simp [go_sem]
      have z0 : W.cell? ⟨w.heap.size + 1, 0, none⟩ = some (.int .i64 0) := by rw [hW]; simp [go_sem]
      have z1 : W.cell? ⟨w.heap.size + 1, 1, none⟩ = some (.int .i64 0) := by rw [hW]; simp [go_sem]
      have s0 : W.frozen? ⟨w.heap.size + 1, 0, none⟩ = false := by rw [hW]; simp [go_sem]
      have s1 : W.frozen? ⟨w.heap.size + 1, 1, none⟩ = false := by rw [hW]; simp [go_sem]
      go_enter Tryz.func27, Tryz.ntmps27
      go_wp2_with (fail)
      rw [← hW]; clear hW
      go_wp2_with (fail)
      go_at_call 56
      refine Calls.mono (c_vRight x0 x1 x2 x3 x4 x5 _) ?_
      rintro e w1 ⟨rfl, hb1⟩
      have hs1 := hb1.size
      try simp only [World.size_alloc, World.drew_heap, World.size_setCell] at hs1
      have y1_0 : w.heap.size < w1.heap.size := by omega
      have y1_1 : w.heap.size + 1 < w1.heap.size := by omega
      (replace a0 := kp hb1 (by omega) a0); (replace a1 := kp hb1 (by omega) a1); (replace a2 := kp hb1 (by omega) a2); (replace a3 := kp hb1 (by omega) a3); (replace a4 := kp hb1 (by omega) a4); (replace a5 := kp hb1 (by omega) a5); (replace z0 := kp hb1 (by omega) z0); (replace z1 := kp hb1 (by omega) z1); (replace s0 := kf hb1 (by omega) s0); (replace s1 := kf hb1 (by omega) s1)
      go_wp2_with (fail)
      go_at_call 73
      refine Calls.mono (c_sSqr x0 x1 _) ?_
      rw [← HRA.out]
      rintro e w2 ⟨rfl, hb2⟩
      have hs2 := hb2.size
      try simp only [World.size_alloc, World.drew_heap, World.size_setCell] at hs2
      have y2_0 : w.heap.size < w2.heap.size := by omega
      have y2_1 : w.heap.size + 1 < w2.heap.size := by omega
      try (have x2_1 : w1.heap.size < w2.heap.size := by omega)
      (replace a0 := kp hb2 (by omega) a0); (replace a1 := kp hb2 (by omega) a1); (replace a2 := kp hb2 (by omega) a2); (replace a3 := kp hb2 (by omega) a3); (replace a4 := kp hb2 (by omega) a4); (replace a5 := kp hb2 (by omega) a5); (replace z0 := kp hb2 (by omega) z0); (replace z1 := kp hb2 (by omega) z1); (replace s0 := kf hb2 (by omega) s0); (replace s1 := kf hb2 (by omega) s1)
      go_wp2_with (fail)
      go_at_call 73
      refine Calls.mono (c_sSqr x2 x3 _) ?_
      rw [← HRB.out]
      rintro e w3 ⟨rfl, hb3⟩
      have hs3 := hb3.size
      try simp only [World.size_alloc, World.drew_heap, World.size_setCell] at hs3
      have y3_0 : w.heap.size < w3.heap.size := by omega
      have y3_1 : w.heap.size + 1 < w3.heap.size := by omega
      try (have x3_1 : w1.heap.size < w3.heap.size := by omega)
      try (have x3_2 : w2.heap.size < w3.heap.size := by omega)
      (replace a0 := kp1 hb3 (by omega) a0); (replace a1 := kp1 hb3 (by omega) a1); (replace a2 := kp1 hb3 (by omega) a2); (replace a3 := kp1 hb3 (by omega) a3); (replace a4 := kp1 hb3 (by omega) a4); (replace a5 := kp1 hb3 (by omega) a5); (replace z0 := kp1 hb3 (by omega) z0); (replace z1 := kp1 hb3 (by omega) z1); (replace s0 := kf1 hb3 (by omega) s0); (replace s1 := kf1 hb3 (by omega) s1)
      have g0 : w3.cell? ⟨w2.heap.size, 0, none⟩ = some (.int .i64 ra.1) := (kn hb3 0).trans rfl
      have g1 : w3.cell? ⟨w2.heap.size, 1, none⟩ = some (.int .i64 ra.2.1) := (kn hb3 1).trans rfl
      go_wp2_with (fail)
      go_at_call 73
      refine Calls.mono (c_sSqr x4 x5 _) ?_
      rw [← HRC.out]
      rintro e w4 ⟨rfl, hb4⟩
      have hs4 := hb4.size
      try simp only [World.size_alloc, World.drew_heap, World.size_setCell] at hs4
      have y4_0 : w.heap.size < w4.heap.size := by omega
      have y4_1 : w.heap.size + 1 < w4.heap.size := by omega
      try (have x4_1 : w1.heap.size < w4.heap.size := by omega)
      try (have x4_2 : w2.heap.size < w4.heap.size := by omega)
      try (have x4_3 : w3.heap.size < w4.heap.size := by omega)
      (replace a0 := kp1 hb4 (by omega) a0); (replace a1 := kp1 hb4 (by omega) a1); (replace a2 := kp1 hb4 (by omega) a2); (replace a3 := kp1 hb4 (by omega) a3); (replace a4 := kp1 hb4 (by omega) a4); (replace a5 := kp1 hb4 (by omega) a5); (replace z0 := kp1 hb4 (by omega) z0); (replace z1 := kp1 hb4 (by omega) z1); (replace g0 := kp1 hb4 (by omega) g0); (replace g1 := kp1 hb4 (by omega) g1); (replace s0 := kf1 hb4 (by omega) s0); (replace s1 := kf1 hb4 (by omega) s1)
      have h0 : w4.cell? ⟨w3.heap.size, 0, none⟩ = some (.int .i64 rb.1) := (kn hb4 0).trans rfl
      have h1 : w4.cell? ⟨w3.heap.size, 1, none⟩ = some (.int .i64 rb.2.1) := (kn hb4 1).trans rfl
      go_wp2_with (fail)
      go_at_call 69
      refine Calls.mono (c_vthree ra rb rc _) ?_
      rw [← HRT.out]
      rintro e w5 ⟨rfl, hb5⟩
      have hs5 := hb5.size
      try simp only [World.size_alloc, World.drew_heap, World.size_setCell] at hs5
      have y5_0 : w.heap.size < w5.heap.size := by omega
      have y5_1 : w.heap.size + 1 < w5.heap.size := by omega
      try (have x5_1 : w1.heap.size < w5.heap.size := by omega)
      try (have x5_2 : w2.heap.size < w5.heap.size := by omega)
      try (have x5_3 : w3.heap.size < w5.heap.size := by omega)
      try (have x5_4 : w4.heap.size < w5.heap.size := by omega)
      (replace a0 := kp1 hb5 (by omega) a0); (replace a1 := kp1 hb5 (by omega) a1); (replace a2 := kp1 hb5 (by omega) a2); (replace a3 := kp1 hb5 (by omega) a3); (replace a4 := kp1 hb5 (by omega) a4); (replace a5 := kp1 hb5 (by omega) a5); (replace z0 := kp1 hb5 (by omega) z0); (replace z1 := kp1 hb5 (by omega) z1); (replace g0 := kp1 hb5 (by omega) g0); (replace g1 := kp1 hb5 (by omega) g1); (replace h0 := kp1 hb5 (by omega) h0); (replace h1 := kp1 hb5 (by omega) h1); (replace s0 := kf1 hb5 (by omega) s0); (replace s1 := kf1 hb5 (by omega) s1)
      have i0 : w5.cell? ⟨w4.heap.size, 0, none⟩ = some (.int .i64 rc.1) := (kn hb5 0).trans rfl
      have i1 : w5.cell? ⟨w4.heap.size, 1, none⟩ = some (.int .i64 rc.2.1) := (kn hb5 1).trans rfl
      go_wp2_with (fail)
      go_at_call 74
      refine Calls.mono (c_sSqrt rt.1 rt.2.1 _) ?_
      rw [← HRQ.out]
      rintro e w6 ⟨rfl, hb6⟩
      have hs6 := hb6.size
      try simp only [World.size_alloc, World.drew_heap, World.size_setCell] at hs6
      have y6_0 : w.heap.size < w6.heap.size := by omega
      have y6_1 : w.heap.size + 1 < w6.heap.size := by omega
      try (have x6_1 : w1.heap.size < w6.heap.size := by omega)
      try (have x6_2 : w2.heap.size < w6.heap.size := by omega)
      try (have x6_3 : w3.heap.size < w6.heap.size := by omega)
      try (have x6_4 : w4.heap.size < w6.heap.size := by omega)
      try (have x6_5 : w5.heap.size < w6.heap.size := by omega)
      (replace a0 := kp1 hb6 (by omega) a0); (replace a1 := kp1 hb6 (by omega) a1); (replace a2 := kp1 hb6 (by omega) a2); (replace a3 := kp1 hb6 (by omega) a3); (replace a4 := kp1 hb6 (by omega) a4); (replace a5 := kp1 hb6 (by omega) a5); (replace z0 := kp1 hb6 (by omega) z0); (replace z1 := kp1 hb6 (by omega) z1); (replace g0 := kp1 hb6 (by omega) g0); (replace g1 := kp1 hb6 (by omega) g1); (replace h0 := kp1 hb6 (by omega) h0); (replace h1 := kp1 hb6 (by omega) h1); (replace i0 := kp1 hb6 (by omega) i0); (replace i1 := kp1 hb6 (by omega) i1); (replace s0 := kf1 hb6 (by omega) s0); (replace s1 := kf1 hb6 (by omega) s1)
      go_wp2
      have HB := hB.out
      refine bodyPost_ret (v := .tuple #[.agg #[.int .i64 rq.1, .int .i64 rq.2.1], .int .i64 rq.2.2]) (by simp [results, Tryz.results27, go_sem, *]) rfl ⟨rfl, by (repeat' (first | (with_reducible exact Below.refl _ _) | (with_reducible refine Below.setCell ?_ ?_ _) | (with_reducible refine Below.alloc ?_ ?_ _) | (with_reducible refine Below.drew ?_) | (with_reducible refine below_drewN ?_ _) | (with_reducible assumption) | (with_reducible refine Below.trans ?_ (Below.mono (by with_reducible assumption) ?_)) | omega | (simp; done) | (simp; omega) | (simp [World.setCell]; omega)))⟩

    · have v : Hid (rNorm ra rb rc = (0, 0, rt.2.2)) := by unfold Hid; rw [q, if_pos h0]
      have d0 : (rt.2.2 != 0) = true := by simp [h0]
      rw [v.out]
      clear q h0
      have HRT := Lib.hid hrt; clear hrt
      have HRQ := Lib.hid hrq; clear hrq
      have HRA := Lib.hid hra; clear hra
      have HRB := Lib.hid hrb; clear hrb
      have HRC := Lib.hid hrc; clear hrc
      obtain ⟨W, hW⟩ : ∃ W, W = ((w.alloc (Obj.cells #[Value.int IntKind.i64 x0, Value.int IntKind.i64 x1, Value.int IntKind.i64 x2, Value.int IntKind.i64 x3, Value.int IntKind.i64 x4, Value.int IntKind.i64 x5] 25)).alloc (Obj.cells #[Value.int IntKind.i64 0, Value.int IntKind.i64 0] 23)) := ⟨_, rfl⟩
      have hsW : w.heap.size + 1 < W.heap.size := by rw [hW]; simp
      have hB : Hid (Below w.heap.size w W) := by rw [hW]; unfold Hid; (repeat' (first | (with_reducible exact Below.refl _ _) | (with_reducible refine Below.setCell ?_ ?_ _) | (with_reducible refine Below.alloc ?_ ?_ _) | (with_reducible refine Below.drew ?_) | (with_reducible refine below_drewN ?_ _) | (with_reducible assumption) | (with_reducible refine Below.trans ?_ (Below.mono (by with_reducible assumption) ?_)) | omega | (simp; done) | (simp; omega) | (simp [World.setCell]; omega)))
      have a0 : W.cell? ⟨w.heap.size, 0, none⟩ = some (.int .i64 x0) := by rw [hW]; simp [go_sem]
      have a1 : W.cell? ⟨w.heap.size, 1, none⟩ = some (.int .i64 x1) := by rw [hW]; simp [go_sem]
      have a2 : W.cell? ⟨w.heap.size, 2, none⟩ = some (.int .i64 x2) := by rw [hW]; simp [go_sem]
      have a3 : W.cell? ⟨w.heap.size, 3, none⟩ = some (.int .i64 x3) := by rw [hW]; simp [go_sem]
      have a4 : W.cell? ⟨w.heap.size, 4, none⟩ = some (.int .i64 x4) := by rw [hW]; simp [go_sem]
      have a5 : W.cell? ⟨w.heap.size, 5, none⟩ = some (.int .i64 x5) := by rw [hW]; simp [go_sem]
      have z0 : W.cell? ⟨w.heap.size + 1, 0, none⟩ = some (.int .i64 0) := by rw [hW]; simp [go_sem]
      have z1 : W.cell? ⟨w.heap.size + 1, 1, none⟩ = some (.int .i64 0) := by rw [hW]; simp [go_sem]
      have s0 : W.frozen? ⟨w.heap.size + 1, 0, none⟩ = false := by rw [hW]; simp [go_sem]
      have s1 : W.frozen? ⟨w.heap.size + 1, 1, none⟩ = false := by rw [hW]; simp [go_sem]
      go_enter Tryz.func27, Tryz.ntmps27
      go_wp2_with (fail)
      rw [← hW]; clear hW
      go_wp2_with (fail)
      go_at_call 56
      refine Calls.mono (c_vRight x0 x1 x2 x3 x4 x5 _) ?_
      rintro e w1 ⟨rfl, hb1⟩
      have hs1 := hb1.size
      try simp only [World.size_alloc, World.drew_heap, World.size_setCell] at hs1
      have y1_0 : w.heap.size < w1.heap.size := by omega
      have y1_1 : w.heap.size + 1 < w1.heap.size := by omega
      (replace a0 := kp hb1 (by omega) a0); (replace a1 := kp hb1 (by omega) a1); (replace a2 := kp hb1 (by omega) a2); (replace a3 := kp hb1 (by omega) a3); (replace a4 := kp hb1 (by omega) a4); (replace a5 := kp hb1 (by omega) a5); (replace z0 := kp hb1 (by omega) z0); (replace z1 := kp hb1 (by omega) z1); (replace s0 := kf hb1 (by omega) s0); (replace s1 := kf hb1 (by omega) s1)
      go_wp2_with (fail)
      go_at_call 73
      refine Calls.mono (c_sSqr x0 x1 _) ?_
      rw [← HRA.out]
      rintro e w2 ⟨rfl, hb2⟩
      have hs2 := hb2.size
      try simp only [World.size_alloc, World.drew_heap, World.size_setCell] at hs2
      have y2_0 : w.heap.size < w2.heap.size := by omega
      have y2_1 : w.heap.size + 1 < w2.heap.size := by omega
      try (have x2_1 : w1.heap.size < w2.heap.size := by omega)
      (replace a0 := kp hb2 (by omega) a0); (replace a1 := kp hb2 (by omega) a1); (replace a2 := kp hb2 (by omega) a2); (replace a3 := kp hb2 (by omega) a3); (replace a4 := kp hb2 (by omega) a4); (replace a5 := kp hb2 (by omega) a5); (replace z0 := kp hb2 (by omega) z0); (replace z1 := kp hb2 (by omega) z1); (replace s0 := kf hb2 (by omega) s0); (replace s1 := kf hb2 (by omega) s1)
      go_wp2_with (fail)
      go_at_call 73
      refine Calls.mono (c_sSqr x2 x3 _) ?_
      rw [← HRB.out]
      rintro e w3 ⟨rfl, hb3⟩
      have hs3 := hb3.size
      try simp only [World.size_alloc, World.drew_heap, World.size_setCell] at hs3
      have y3_0 : w.heap.size < w3.heap.size := by omega
      have y3_1 : w.heap.size + 1 < w3.heap.size := by omega
      try (have x3_1 : w1.heap.size < w3.heap.size := by omega)
      try (have x3_2 : w2.heap.size < w3.heap.size := by omega)
      (replace a0 := kp1 hb3 (by omega) a0); (replace a1 := kp1 hb3 (by omega) a1); (replace a2 := kp1 hb3 (by omega) a2); (replace a3 := kp1 hb3 (by omega) a3); (replace a4 := kp1 hb3 (by omega) a4); (replace a5 := kp1 hb3 (by omega) a5); (replace z0 := kp1 hb3 (by omega) z0); (replace z1 := kp1 hb3 (by omega) z1); (replace s0 := kf1 hb3 (by omega) s0); (replace s1 := kf1 hb3 (by omega) s1)
      have g0 : w3.cell? ⟨w2.heap.size, 0, none⟩ = some (.int .i64 ra.1) := (kn hb3 0).trans rfl
      have g1 : w3.cell? ⟨w2.heap.size, 1, none⟩ = some (.int .i64 ra.2.1) := (kn hb3 1).trans rfl
      go_wp2_with (fail)
      go_at_call 73
      refine Calls.mono (c_sSqr x4 x5 _) ?_
      rw [← HRC.out]
      rintro e w4 ⟨rfl, hb4⟩
      have hs4 := hb4.size
      try simp only [World.size_alloc, World.drew_heap, World.size_setCell] at hs4
      have y4_0 : w.heap.size < w4.heap.size := by omega
      have y4_1 : w.heap.size + 1 < w4.heap.size := by omega
      try (have x4_1 : w1.heap.size < w4.heap.size := by omega)
      try (have x4_2 : w2.heap.size < w4.heap.size := by omega)
      try (have x4_3 : w3.heap.size < w4.heap.size := by omega)
      (replace a0 := kp1 hb4 (by omega) a0); (replace a1 := kp1 hb4 (by omega) a1); (replace a2 := kp1 hb4 (by omega) a2); (replace a3 := kp1 hb4 (by omega) a3); (replace a4 := kp1 hb4 (by omega) a4); (replace a5 := kp1 hb4 (by omega) a5); (replace z0 := kp1 hb4 (by omega) z0); (replace z1 := kp1 hb4 (by omega) z1); (replace g0 := kp1 hb4 (by omega) g0); (replace g1 := kp1 hb4 (by omega) g1); (replace s0 := kf1 hb4 (by omega) s0); (replace s1 := kf1 hb4 (by omega) s1)
      have h0 : w4.cell? ⟨w3.heap.size, 0, none⟩ = some (.int .i64 rb.1) := (kn hb4 0).trans rfl
      have h1 : w4.cell? ⟨w3.heap.size, 1, none⟩ = some (.int .i64 rb.2.1) := (kn hb4 1).trans rfl
      go_wp2_with (fail)
      go_at_call 69
      refine Calls.mono (c_vthree ra rb rc _) ?_
      rw [← HRT.out]
      rintro e w5 ⟨rfl, hb5⟩
      have hs5 := hb5.size
      try simp only [World.size_alloc, World.drew_heap, World.size_setCell] at hs5
      have y5_0 : w.heap.size < w5.heap.size := by omega
      have y5_1 : w.heap.size + 1 < w5.heap.size := by omega
      try (have x5_1 : w1.heap.size < w5.heap.size := by omega)
      try (have x5_2 : w2.heap.size < w5.heap.size := by omega)
      try (have x5_3 : w3.heap.size < w5.heap.size := by omega)
      try (have x5_4 : w4.heap.size < w5.heap.size := by omega)
      (replace a0 := kp1 hb5 (by omega) a0); (replace a1 := kp1 hb5 (by omega) a1); (replace a2 := kp1 hb5 (by omega) a2); (replace a3 := kp1 hb5 (by omega) a3); (replace a4 := kp1 hb5 (by omega) a4); (replace a5 := kp1 hb5 (by omega) a5); (replace z0 := kp1 hb5 (by omega) z0); (replace z1 := kp1 hb5 (by omega) z1); (replace g0 := kp1 hb5 (by omega) g0); (replace g1 := kp1 hb5 (by omega) g1); (replace h0 := kp1 hb5 (by omega) h0); (replace h1 := kp1 hb5 (by omega) h1); (replace s0 := kf1 hb5 (by omega) s0); (replace s1 := kf1 hb5 (by omega) s1)
      have i0 : w5.cell? ⟨w4.heap.size, 0, none⟩ = some (.int .i64 rc.1) := (kn hb5 0).trans rfl
      have i1 : w5.cell? ⟨w4.heap.size, 1, none⟩ = some (.int .i64 rc.2.1) := (kn hb5 1).trans rfl
      go_wp2
      have HB := hB.out
      refine bodyPost_ret (v := .tuple #[.agg #[.int .i64 0, .int .i64 0], .int .i64 rt.2.2]) (by simp [results, Tryz.results27, go_sem, *]) rfl ⟨rfl, by (repeat' (first | (with_reducible exact Below.refl _ _) | (with_reducible refine Below.setCell ?_ ?_ _) | (with_reducible refine Below.alloc ?_ ?_ _) | (with_reducible refine Below.drew ?_) | (with_reducible refine below_drewN ?_ _) | (with_reducible assumption) | (with_reducible refine Below.trans ?_ (Below.mono (by with_reducible assumption) ?_)) | omega | (simp; done) | (simp; omega) | (simp [World.setCell]; omega)))⟩

  · obtain hE : chk3 0 x0 x1 x2 x3 x4 x5 3 = 20 := chk3_bad (fun h => hx (ok3_iff.2 h))
    rw [hE, normE_20, iRes_bad]
    clear hE
    have hx0 : ok3 x0 x1 x2 x3 x4 x5 = false := by simpa using hx
    clear hx
    obtain ⟨W, hW⟩ : ∃ W, W = ((w.alloc (Obj.cells #[Value.int IntKind.i64 x0, Value.int IntKind.i64 x1, Value.int IntKind.i64 x2, Value.int IntKind.i64 x3, Value.int IntKind.i64 x4, Value.int IntKind.i64 x5] 25)).alloc (Obj.cells #[Value.int IntKind.i64 0, Value.int IntKind.i64 0] 23)) := ⟨_, rfl⟩
    have hsW : w.heap.size + 1 < W.heap.size := by rw [hW]; simp
    have hB : Hid (Below w.heap.size w W) := by rw [hW]; unfold Hid; (repeat' (first | (with_reducible exact Below.refl _ _) | (with_reducible refine Below.setCell ?_ ?_ _) | (with_reducible refine Below.alloc ?_ ?_ _) | (with_reducible refine Below.drew ?_) | (with_reducible refine below_drewN ?_ _) | (with_reducible assumption) | (with_reducible refine Below.trans ?_ (Below.mono (by with_reducible assumption) ?_)) | omega | (simp; done) | (simp; omega) | (simp [World.setCell]; omega)))
    have a0 : W.cell? ⟨w.heap.size, 0, none⟩ = some (.int .i64 x0) := by rw [hW]; simp [go_sem]
    have a1 : W.cell? ⟨w.heap.size, 1, none⟩ = some (.int .i64 x1) := by rw [hW]; simp [go_sem]
    have a2 : W.cell? ⟨w.heap.size, 2, none⟩ = some (.int .i64 x2) := by rw [hW]; simp [go_sem]
    have a3 : W.cell? ⟨w.heap.size, 3, none⟩ = some (.int .i64 x3) := by rw [hW]; simp [go_sem]
    have a4 : W.cell? ⟨w.heap.size, 4, none⟩ = some (.int .i64 x4) := by rw [hW]; simp [go_sem]
    have a5 : W.cell? ⟨w.heap.size, 5, none⟩ = some (.int .i64 x5) := by rw [hW]; simp [go_sem]
    have z0 : W.cell? ⟨w.heap.size + 1, 0, none⟩ = some (.int .i64 0) := by rw [hW]; simp [go_sem]
    have z1 : W.cell? ⟨w.heap.size + 1, 1, none⟩ = some (.int .i64 0) := by rw [hW]; simp [go_sem]
    have s0 : W.frozen? ⟨w.heap.size + 1, 0, none⟩ = false := by rw [hW]; simp [go_sem]
    have s1 : W.frozen? ⟨w.heap.size + 1, 1, none⟩ = false := by rw [hW]; simp [go_sem]
    go_enter Tryz.func27, Tryz.ntmps27
    go_wp2_with (fail)
    rw [← hW]; clear hW
    go_wp2_with (fail)
    go_at_call 56
    refine Calls.mono (c_vRight x0 x1 x2 x3 x4 x5 _) ?_
    rintro e w1 ⟨rfl, hb1⟩
    have hs1 := hb1.size
    try simp only [World.size_alloc, World.drew_heap, World.size_setCell] at hs1
    have y1_0 : w.heap.size < w1.heap.size := by omega
    have y1_1 : w.heap.size + 1 < w1.heap.size := by omega
    (replace a0 := kp hb1 (by omega) a0); (replace a1 := kp hb1 (by omega) a1); (replace a2 := kp hb1 (by omega) a2); (replace a3 := kp hb1 (by omega) a3); (replace a4 := kp hb1 (by omega) a4); (replace a5 := kp hb1 (by omega) a5); (replace z0 := kp hb1 (by omega) z0); (replace z1 := kp hb1 (by omega) z1); (replace s0 := kf hb1 (by omega) s0); (replace s1 := kf hb1 (by omega) s1)
    go_wp2
    have HB := hB.out
    refine bodyPost_ret (v := .tuple #[.agg #[.int .i64 0, .int .i64 0], .int .i64 20]) (by simp [results, Tryz.results27, go_sem, *]) rfl ⟨rfl, by (repeat' (first | (with_reducible exact Below.refl _ _) | (with_reducible refine Below.setCell ?_ ?_ _) | (with_reducible refine Below.alloc ?_ ?_ _) | (with_reducible refine Below.drew ?_) | (with_reducible refine below_drewN ?_ _) | (with_reducible assumption) | (with_reducible refine Below.trans ?_ (Below.mono (by with_reducible assumption) ?_)) | omega | (simp; done) | (simp; omega) | (simp [World.setCell]; omega)))⟩


set_option maxHeartbeats 1000000 in
theorem c_vUnit (x0 x1 x2 x3 x4 x5 : Int) (w : World) :
    Calls Tryz.prog 29 #[.agg #[.int .i64 x0, .int .i64 x1, .int .i64 x2, .int .i64 x3, .int .i64 x4, .int .i64 x5]] w fun e w' => e = .returned (vRes (errTo (normE (chk3 0 x0 x1 x2 x3 x4 x5 3) (spPow (x0, x1) 2) (spPow (x2, x3) 2) (spPow (x4, x5) 2)) (spDiv (x0, x1) (ivl (norm3 (spPow (x0, x1) 2) (spPow (x2, x3) 2) (spPow (x4, x5) 2)))).2.2 (spDiv (x2, x3) (ivl (norm3 (spPow (x0, x1) 2) (spPow (x2, x3) 2) (spPow (x4, x5) 2)))).2.2 (spDiv (x4, x5) (ivl (norm3 (spPow (x0, x1) 2) (spPow (x2, x3) 2) (spPow (x4, x5) 2)))).2.2 3) (spDiv (x0, x1) (ivl (norm3 (spPow (x0, x1) 2) (spPow (x2, x3) 2) (spPow (x4, x5) 2)))) (spDiv (x2, x3) (ivl (norm3 (spPow (x0, x1) 2) (spPow (x2, x3) 2) (spPow (x4, x5) 2)))) (spDiv (x4, x5) (ivl (norm3 (spPow (x0, x1) 2) (spPow (x2, x3) 2) (spPow (x4, x5) 2))))) ∧ Below w.heap.size w w' := by
  obtain ⟨rd, hrd⟩ : ∃ r, r = norm3 (spPow (x0, x1) 2) (spPow (x2, x3) 2) (spPow (x4, x5) 2) := ⟨_, rfl⟩
  obtain ⟨en, hen⟩ : ∃ e, e = normE (chk3 0 x0 x1 x2 x3 x4 x5 3) (spPow (x0, x1) 2) (spPow (x2, x3) 2) (spPow (x4, x5) 2) := ⟨_, rfl⟩
  rw [← hrd, ← hen]
  by_cases h0 : en = 0
  · have hi : Hid (iRes en rd = .tuple #[.agg #[.int .i64 rd.1, .int .i64 rd.2.1], .int .i64 0]) := by unfold Hid iRes; rw [if_pos h0]
    have d0 : (en != 0) = false := by simp [h0]
    obtain ⟨ra, hra⟩ : ∃ r, r = spDiv (x0, x1) (rd.1, rd.2.1) := ⟨_, rfl⟩
    obtain ⟨rb, hrb⟩ : ∃ r, r = spDiv (x2, x3) (rd.1, rd.2.1) := ⟨_, rfl⟩
    obtain ⟨rc, hrc⟩ : ∃ r, r = spDiv (x4, x5) (rd.1, rd.2.1) := ⟨_, rfl⟩
    rw [show spDiv (x0, x1) (ivl rd) = ra from hra.symm]
    rw [show spDiv (x2, x3) (ivl rd) = rb from hrb.symm]
    rw [show spDiv (x4, x5) (ivl rd) = rc from hrc.symm]
    rw [h0]
    rw [h0] at hen
    obtain ⟨ek, hek⟩ : ∃ ek, ek = errTo 0 ra.2.2 rb.2.2 rc.2.2 3 := ⟨_, rfl⟩
    rw [← hek]
    obtain ⟨n0, n1, n2, n3, n4, n5, hn⟩ := vRes_form ek ra rb rc
    rw [hn]
    rw [h0] at hi
    clear h0 d0
    have HN := Lib.hid hn; clear hn
    have HEK := Lib.hid hek; clear hek
    have HRA := Lib.hid hra; clear hra
    have HRB := Lib.hid hrb; clear hrb
    have HRC := Lib.hid hrc; clear hrc
    have HRD := Lib.hid hrd; clear hrd
    have HEN := Lib.hid hen; clear hen
    obtain ⟨W, hW⟩ : ∃ W, W = ((w.alloc (Obj.cells #[Value.int IntKind.i64 x0, Value.int IntKind.i64 x1, Value.int IntKind.i64 x2, Value.int IntKind.i64 x3, Value.int IntKind.i64 x4, Value.int IntKind.i64 x5] 25)).alloc (Obj.cells #[Value.int IntKind.i64 0, Value.int IntKind.i64 0, Value.int IntKind.i64 0, Value.int IntKind.i64 0, Value.int IntKind.i64 0, Value.int IntKind.i64 0] 25)) := ⟨_, rfl⟩
    have hsW : w.heap.size + 1 < W.heap.size := by rw [hW]; simp
    have hB : Hid (Below w.heap.size w W) := by rw [hW]; unfold Hid; (repeat' (first | (with_reducible exact Below.refl _ _) | (with_reducible refine Below.setCell ?_ ?_ _) | (with_reducible refine Below.alloc ?_ ?_ _) | (with_reducible refine Below.drew ?_) | (with_reducible refine below_drewN ?_ _) | (with_reducible assumption) | (with_reducible refine Below.trans ?_ (Below.mono (by with_reducible assumption) ?_)) | omega | (simp; done) | (simp; omega) | (simp [World.setCell]; omega)))
    have a0 : W.cell? ⟨w.heap.size, 0, none⟩ = some (.int .i64 x0) := by rw [hW]; simp [go_sem]
    have a1 : W.cell? ⟨w.heap.size, 1, none⟩ = some (.int .i64 x1) := by rw [hW]; simp [go_sem]
    have a2 : W.cell? ⟨w.heap.size, 2, none⟩ = some (.int .i64 x2) := by rw [hW]; simp [go_sem]
    have a3 : W.cell? ⟨w.heap.size, 3, none⟩ = some (.int .i64 x3) := by rw [hW]; simp [go_sem]
    have a4 : W.cell? ⟨w.heap.size, 4, none⟩ = some (.int .i64 x4) := by rw [hW]; simp [go_sem]
    have a5 : W.cell? ⟨w.heap.size, 5, none⟩ = some (.int .i64 x5) := by rw [hW]; simp [go_sem]
    have z0 : W.cell? ⟨w.heap.size + 1, 0, none⟩ = some (.int .i64 0) := by rw [hW]; simp [go_sem]
    have z1 : W.cell? ⟨w.heap.size + 1, 1, none⟩ = some (.int .i64 0) := by rw [hW]; simp [go_sem]
    have z2 : W.cell? ⟨w.heap.size + 1, 2, none⟩ = some (.int .i64 0) := by rw [hW]; simp [go_sem]
    have z3 : W.cell? ⟨w.heap.size + 1, 3, none⟩ = some (.int .i64 0) := by rw [hW]; simp [go_sem]
    have z4 : W.cell? ⟨w.heap.size + 1, 4, none⟩ = some (.int .i64 0) := by rw [hW]; simp [go_sem]
    have z5 : W.cell? ⟨w.heap.size + 1, 5, none⟩ = some (.int .i64 0) := by rw [hW]; simp [go_sem]
    have s0 : W.frozen? ⟨w.heap.size + 1, 0, none⟩ = false := by rw [hW]; simp [go_sem]
    have s1 : W.frozen? ⟨w.heap.size + 1, 1, none⟩ = false := by rw [hW]; simp [go_sem]
    have s2 : W.frozen? ⟨w.heap.size + 1, 2, none⟩ = false := by rw [hW]; simp [go_sem]
    have s3 : W.frozen? ⟨w.heap.size + 1, 3, none⟩ = false := by rw [hW]; simp [go_sem]
    have s4 : W.frozen? ⟨w.heap.size + 1, 4, none⟩ = false := by rw [hW]; simp [go_sem]
    have s5 : W.frozen? ⟨w.heap.size + 1, 5, none⟩ = false := by rw [hW]; simp [go_sem]
    go_enter Tryz.func29, Tryz.ntmps29
    go_wp2_with (fail)
    rw [← hW]; clear hW
    go_wp2_with (fail)
    go_at_call 27
    refine Calls.mono (c_vNorm x0 x1 x2 x3 x4 x5 _) ?_
    rw [← HRD.out, ← HEN.out, hi.out]
    rintro e w1 ⟨rfl, hb1⟩
    have hs1 := hb1.size
    try simp only [World.size_alloc, World.drew_heap, World.size_setCell] at hs1
    have y1_0 : w.heap.size < w1.heap.size := by omega
    have y1_1 : w.heap.size + 1 < w1.heap.size := by omega
    (replace a0 := kp hb1 (by omega) a0); (replace a1 := kp hb1 (by omega) a1); (replace a2 := kp hb1 (by omega) a2); (replace a3 := kp hb1 (by omega) a3); (replace a4 := kp hb1 (by omega) a4); (replace a5 := kp hb1 (by omega) a5); (replace z0 := kp hb1 (by omega) z0); (replace z1 := kp hb1 (by omega) z1); (replace z2 := kp hb1 (by omega) z2); (replace z3 := kp hb1 (by omega) z3); (replace z4 := kp hb1 (by omega) z4); (replace z5 := kp hb1 (by omega) z5); (replace s0 := kf hb1 (by omega) s0); (replace s1 := kf hb1 (by omega) s1); (replace s2 := kf hb1 (by omega) s2); (replace s3 := kf hb1 (by omega) s3); (replace s4 := kf hb1 (by omega) s4); (replace s5 := kf hb1 (by omega) s5)
    go_wp2_with (fail)
    go_at_call 76
    refine Calls.mono (c_sDiv x0 x1 rd.1 rd.2.1 _) ?_
    rw [← HRA.out]
    rintro e w2 ⟨rfl, hb2⟩
    have hs2 := hb2.size
    try simp only [World.size_alloc, World.drew_heap, World.size_setCell] at hs2
    have y2_0 : w.heap.size < w2.heap.size := by omega
    have y2_1 : w.heap.size + 1 < w2.heap.size := by omega
    try (have x2_1 : w1.heap.size < w2.heap.size := by omega)
    (replace a0 := kp1 hb2 (by omega) a0); (replace a1 := kp1 hb2 (by omega) a1); (replace a2 := kp1 hb2 (by omega) a2); (replace a3 := kp1 hb2 (by omega) a3); (replace a4 := kp1 hb2 (by omega) a4); (replace a5 := kp1 hb2 (by omega) a5); (replace z0 := kp1 hb2 (by omega) z0); (replace z1 := kp1 hb2 (by omega) z1); (replace z2 := kp1 hb2 (by omega) z2); (replace z3 := kp1 hb2 (by omega) z3); (replace z4 := kp1 hb2 (by omega) z4); (replace z5 := kp1 hb2 (by omega) z5); (replace s0 := kf1 hb2 (by omega) s0); (replace s1 := kf1 hb2 (by omega) s1); (replace s2 := kf1 hb2 (by omega) s2); (replace s3 := kf1 hb2 (by omega) s3); (replace s4 := kf1 hb2 (by omega) s4); (replace s5 := kf1 hb2 (by omega) s5)
    have d0 : w2.cell? ⟨w1.heap.size, 0, none⟩ = some (.int .i64 rd.1) := (kn hb2 0).trans rfl
    have d1 : w2.cell? ⟨w1.heap.size, 1, none⟩ = some (.int .i64 rd.2.1) := (kn hb2 1).trans rfl
    go_wp2_with (fail)
    go_at_call 76
    refine Calls.mono (c_sDiv x2 x3 rd.1 rd.2.1 _) ?_
    rw [← HRB.out]
    rintro e w3 ⟨rfl, hb3⟩
    have hs3 := hb3.size
    try simp only [World.size_alloc, World.drew_heap, World.size_setCell] at hs3
    have y3_0 : w.heap.size < w3.heap.size := by omega
    have y3_1 : w.heap.size + 1 < w3.heap.size := by omega
    try (have x3_1 : w1.heap.size < w3.heap.size := by omega)
    try (have x3_2 : w2.heap.size < w3.heap.size := by omega)
    (replace a0 := kp1 hb3 (by omega) a0); (replace a1 := kp1 hb3 (by omega) a1); (replace a2 := kp1 hb3 (by omega) a2); (replace a3 := kp1 hb3 (by omega) a3); (replace a4 := kp1 hb3 (by omega) a4); (replace a5 := kp1 hb3 (by omega) a5); (replace z0 := kp1 hb3 (by omega) z0); (replace z1 := kp1 hb3 (by omega) z1); (replace z2 := kp1 hb3 (by omega) z2); (replace z3 := kp1 hb3 (by omega) z3); (replace z4 := kp1 hb3 (by omega) z4); (replace z5 := kp1 hb3 (by omega) z5); (replace d0 := kp1 hb3 (by omega) d0); (replace d1 := kp1 hb3 (by omega) d1); (replace s0 := kf1 hb3 (by omega) s0); (replace s1 := kf1 hb3 (by omega) s1); (replace s2 := kf1 hb3 (by omega) s2); (replace s3 := kf1 hb3 (by omega) s3); (replace s4 := kf1 hb3 (by omega) s4); (replace s5 := kf1 hb3 (by omega) s5)
    have g0 : w3.cell? ⟨w2.heap.size, 0, none⟩ = some (.int .i64 ra.1) := (kn hb3 0).trans rfl
    have g1 : w3.cell? ⟨w2.heap.size, 1, none⟩ = some (.int .i64 ra.2.1) := (kn hb3 1).trans rfl
    go_wp2_with (fail)
    go_at_call 76
    refine Calls.mono (c_sDiv x4 x5 rd.1 rd.2.1 _) ?_
    rw [← HRC.out]
    rintro e w4 ⟨rfl, hb4⟩
    have hs4 := hb4.size
    try simp only [World.size_alloc, World.drew_heap, World.size_setCell] at hs4
    have y4_0 : w.heap.size < w4.heap.size := by omega
    have y4_1 : w.heap.size + 1 < w4.heap.size := by omega
    try (have x4_1 : w1.heap.size < w4.heap.size := by omega)
    try (have x4_2 : w2.heap.size < w4.heap.size := by omega)
    try (have x4_3 : w3.heap.size < w4.heap.size := by omega)
    (replace a0 := kp1 hb4 (by omega) a0); (replace a1 := kp1 hb4 (by omega) a1); (replace a2 := kp1 hb4 (by omega) a2); (replace a3 := kp1 hb4 (by omega) a3); (replace a4 := kp1 hb4 (by omega) a4); (replace a5 := kp1 hb4 (by omega) a5); (replace z0 := kp1 hb4 (by omega) z0); (replace z1 := kp1 hb4 (by omega) z1); (replace z2 := kp1 hb4 (by omega) z2); (replace z3 := kp1 hb4 (by omega) z3); (replace z4 := kp1 hb4 (by omega) z4); (replace z5 := kp1 hb4 (by omega) z5); (replace d0 := kp1 hb4 (by omega) d0); (replace d1 := kp1 hb4 (by omega) d1); (replace g0 := kp1 hb4 (by omega) g0); (replace g1 := kp1 hb4 (by omega) g1); (replace s0 := kf1 hb4 (by omega) s0); (replace s1 := kf1 hb4 (by omega) s1); (replace s2 := kf1 hb4 (by omega) s2); (replace s3 := kf1 hb4 (by omega) s3); (replace s4 := kf1 hb4 (by omega) s4); (replace s5 := kf1 hb4 (by omega) s5)
    have h0 : w4.cell? ⟨w3.heap.size, 0, none⟩ = some (.int .i64 rb.1) := (kn hb4 0).trans rfl
    have h1 : w4.cell? ⟨w3.heap.size, 1, none⟩ = some (.int .i64 rb.2.1) := (kn hb4 1).trans rfl
    go_wp2_with (fail)
    go_at_call 58
    refine Calls.mono (c_vvector ra rb rc _) ?_
    rw [← HEK.out, HN.out]
    rintro e w5 ⟨rfl, hb5⟩
    have hs5 := hb5.size
    try simp only [World.size_alloc, World.drew_heap, World.size_setCell] at hs5
    have y5_0 : w.heap.size < w5.heap.size := by omega
    have y5_1 : w.heap.size + 1 < w5.heap.size := by omega
    try (have x5_1 : w1.heap.size < w5.heap.size := by omega)
    try (have x5_2 : w2.heap.size < w5.heap.size := by omega)
    try (have x5_3 : w3.heap.size < w5.heap.size := by omega)
    try (have x5_4 : w4.heap.size < w5.heap.size := by omega)
    (replace a0 := kp1 hb5 (by omega) a0); (replace a1 := kp1 hb5 (by omega) a1); (replace a2 := kp1 hb5 (by omega) a2); (replace a3 := kp1 hb5 (by omega) a3); (replace a4 := kp1 hb5 (by omega) a4); (replace a5 := kp1 hb5 (by omega) a5); (replace z0 := kp1 hb5 (by omega) z0); (replace z1 := kp1 hb5 (by omega) z1); (replace z2 := kp1 hb5 (by omega) z2); (replace z3 := kp1 hb5 (by omega) z3); (replace z4 := kp1 hb5 (by omega) z4); (replace z5 := kp1 hb5 (by omega) z5); (replace d0 := kp1 hb5 (by omega) d0); (replace d1 := kp1 hb5 (by omega) d1); (replace g0 := kp1 hb5 (by omega) g0); (replace g1 := kp1 hb5 (by omega) g1); (replace h0 := kp1 hb5 (by omega) h0); (replace h1 := kp1 hb5 (by omega) h1); (replace s0 := kf1 hb5 (by omega) s0); (replace s1 := kf1 hb5 (by omega) s1); (replace s2 := kf1 hb5 (by omega) s2); (replace s3 := kf1 hb5 (by omega) s3); (replace s4 := kf1 hb5 (by omega) s4); (replace s5 := kf1 hb5 (by omega) s5)
    have i0 : w5.cell? ⟨w4.heap.size, 0, none⟩ = some (.int .i64 rc.1) := (kn hb5 0).trans rfl
    have i1 : w5.cell? ⟨w4.heap.size, 1, none⟩ = some (.int .i64 rc.2.1) := (kn hb5 1).trans rfl
    go_wp2
    have HB := hB.out
    refine bodyPost_ret (v := .tuple #[.agg #[.int .i64 n0, .int .i64 n1, .int .i64 n2, .int .i64 n3, .int .i64 n4, .int .i64 n5], .int .i64 ek]) (by simp [results, Tryz.results29, go_sem, *]) rfl ⟨rfl, by (repeat' (first | (with_reducible exact Below.refl _ _) | (with_reducible refine Below.setCell ?_ ?_ _) | (with_reducible refine Below.alloc ?_ ?_ _) | (with_reducible refine Below.drew ?_) | (with_reducible refine below_drewN ?_ _) | (with_reducible assumption) | (with_reducible refine Below.trans ?_ (Below.mono (by with_reducible assumption) ?_)) | omega | (simp; done) | (simp; omega) | (simp [World.setCell]; omega)))⟩

  · have hi : Hid (iRes en rd = .tuple #[.agg #[.int .i64 0, .int .i64 0], .int .i64 en]) := by unfold Hid iRes; rw [if_neg h0]
    have d0 : (en != 0) = true := by simp [h0]
    rw [errTo3_of h0]
    have v : Hid (∀ a b c, vRes en a b c = .tuple #[.agg #[.int .i64 0, .int .i64 0, .int .i64 0, .int .i64 0, .int .i64 0, .int .i64 0], .int .i64 en]) := by unfold Hid; intro a b c; unfold vRes; rw [if_neg h0]
    rw [v.out]
    clear h0
    have HRD := Lib.hid hrd; clear hrd
    have HEN := Lib.hid hen; clear hen
    obtain ⟨W, hW⟩ : ∃ W, W = ((w.alloc (Obj.cells #[Value.int IntKind.i64 x0, Value.int IntKind.i64 x1, Value.int IntKind.i64 x2, Value.int IntKind.i64 x3, Value.int IntKind.i64 x4, Value.int IntKind.i64 x5] 25)).alloc (Obj.cells #[Value.int IntKind.i64 0, Value.int IntKind.i64 0, Value.int IntKind.i64 0, Value.int IntKind.i64 0, Value.int IntKind.i64 0, Value.int IntKind.i64 0] 25)) := ⟨_, rfl⟩
    have hsW : w.heap.size + 1 < W.heap.size := by rw [hW]; simp
    have hB : Hid (Below w.heap.size w W) := by rw [hW]; unfold Hid; (repeat' (first | (with_reducible exact Below.refl _ _) | (with_reducible refine Below.setCell ?_ ?_ _) | (with_reducible refine Below.alloc ?_ ?_ _) | (with_reducible refine Below.drew ?_) | (with_reducible refine below_drewN ?_ _) | (with_reducible assumption) | (with_reducible refine Below.trans ?_ (Below.mono (by with_reducible assumption) ?_)) | omega | (simp; done) | (simp; omega) | (simp [World.setCell]; omega)))
    have a0 : W.cell? ⟨w.heap.size, 0, none⟩ = some (.int .i64 x0) := by rw [hW]; simp [go_sem]
    have a1 : W.cell? ⟨w.heap.size, 1, none⟩ = some (.int .i64 x1) := by rw [hW]; simp [go_sem]
    have a2 : W.cell? ⟨w.heap.size, 2, none⟩ = some (.int .i64 x2) := by rw [hW]; simp [go_sem]
    have a3 : W.cell? ⟨w.heap.size, 3, none⟩ = some (.int .i64 x3) := by rw [hW]; simp [go_sem]
    have a4 : W.cell? ⟨w.heap.size, 4, none⟩ = some (.int .i64 x4) := by rw [hW]; simp [go_sem]
    have a5 : W.cell? ⟨w.heap.size, 5, none⟩ = some (.int .i64 x5) := by rw [hW]; simp [go_sem]
    have z0 : W.cell? ⟨w.heap.size + 1, 0, none⟩ = some (.int .i64 0) := by rw [hW]; simp [go_sem]
    have z1 : W.cell? ⟨w.heap.size + 1, 1, none⟩ = some (.int .i64 0) := by rw [hW]; simp [go_sem]
    have z2 : W.cell? ⟨w.heap.size + 1, 2, none⟩ = some (.int .i64 0) := by rw [hW]; simp [go_sem]
    have z3 : W.cell? ⟨w.heap.size + 1, 3, none⟩ = some (.int .i64 0) := by rw [hW]; simp [go_sem]
    have z4 : W.cell? ⟨w.heap.size + 1, 4, none⟩ = some (.int .i64 0) := by rw [hW]; simp [go_sem]
    have z5 : W.cell? ⟨w.heap.size + 1, 5, none⟩ = some (.int .i64 0) := by rw [hW]; simp [go_sem]
    have s0 : W.frozen? ⟨w.heap.size + 1, 0, none⟩ = false := by rw [hW]; simp [go_sem]
    have s1 : W.frozen? ⟨w.heap.size + 1, 1, none⟩ = false := by rw [hW]; simp [go_sem]
    have s2 : W.frozen? ⟨w.heap.size + 1, 2, none⟩ = false := by rw [hW]; simp [go_sem]
    have s3 : W.frozen? ⟨w.heap.size + 1, 3, none⟩ = false := by rw [hW]; simp [go_sem]
    have s4 : W.frozen? ⟨w.heap.size + 1, 4, none⟩ = false := by rw [hW]; simp [go_sem]
    have s5 : W.frozen? ⟨w.heap.size + 1, 5, none⟩ = false := by rw [hW]; simp [go_sem]
    go_enter Tryz.func29, Tryz.ntmps29
    go_wp2_with (fail)
    rw [← hW]; clear hW
    go_wp2_with (fail)
    go_at_call 27
    refine Calls.mono (c_vNorm x0 x1 x2 x3 x4 x5 _) ?_
    rw [← HRD.out, ← HEN.out, hi.out]
    rintro e w1 ⟨rfl, hb1⟩
    have hs1 := hb1.size
    try simp only [World.size_alloc, World.drew_heap, World.size_setCell] at hs1
    have y1_0 : w.heap.size < w1.heap.size := by omega
    have y1_1 : w.heap.size + 1 < w1.heap.size := by omega
    (replace a0 := kp hb1 (by omega) a0); (replace a1 := kp hb1 (by omega) a1); (replace a2 := kp hb1 (by omega) a2); (replace a3 := kp hb1 (by omega) a3); (replace a4 := kp hb1 (by omega) a4); (replace a5 := kp hb1 (by omega) a5); (replace z0 := kp hb1 (by omega) z0); (replace z1 := kp hb1 (by omega) z1); (replace z2 := kp hb1 (by omega) z2); (replace z3 := kp hb1 (by omega) z3); (replace z4 := kp hb1 (by omega) z4); (replace z5 := kp hb1 (by omega) z5); (replace s0 := kf hb1 (by omega) s0); (replace s1 := kf hb1 (by omega) s1); (replace s2 := kf hb1 (by omega) s2); (replace s3 := kf hb1 (by omega) s3); (replace s4 := kf hb1 (by omega) s4); (replace s5 := kf hb1 (by omega) s5)
    go_wp2
    have HB := hB.out
    refine bodyPost_ret (v := .tuple #[.agg #[.int .i64 0, .int .i64 0, .int .i64 0, .int .i64 0, .int .i64 0, .int .i64 0], .int .i64 en]) (by simp [results, Tryz.results29, go_sem, *]) rfl ⟨rfl, by (repeat' (first | (with_reducible exact Below.refl _ _) | (with_reducible refine Below.setCell ?_ ?_ _) | (with_reducible refine Below.alloc ?_ ?_ _) | (with_reducible refine Below.drew ?_) | (with_reducible refine below_drewN ?_ _) | (with_reducible assumption) | (with_reducible refine Below.trans ?_ (Below.mono (by with_reducible assumption) ?_)) | omega | (simp; done) | (simp; omega) | (simp [World.setCell]; omega)))⟩


end Go.Proofs.YtpdaigenffecmaaGreat
