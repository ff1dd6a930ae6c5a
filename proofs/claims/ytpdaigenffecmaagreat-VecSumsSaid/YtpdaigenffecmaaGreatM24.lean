/-
  The reference 06: Right, First, vector, three, less. The walk of the reference's 'parts'. Package vec: told, alike, turned.
-/
import Derived.Test.YtpdaigenffecmaaGreatM01
import Derived.Test.YtpdaigenffecmaaGreatM15
import Derived.Test.YtpdaigenffecmaaGreatM20
import Derived.Test.YtpdaigenffecmaaGreatM22
import Derived.Test.YtpdaigenffecmaaGreatM23
set_option linter.all false
namespace Go.Proofs.YtpdaigenffecmaaGreat
open Go.RowKit Go.Shelf

theorem c_vRight (x0 x1 x2 x3 x4 x5 : Int) (w : World) :
    Calls Tryz.prog 56 #[.agg #[.int .i64 x0, .int .i64 x1, .int .i64 x2, .int .i64 x3, .int .i64 x4, .int .i64 x5]] w fun e w' => e = .returned (.bool (ok3 x0 x1 x2 x3 x4 x5)) ∧ Below w.heap.size w w' := by
  rcases spChk_or (x0, x1) with h1 | h1
  · rcases spChk_or (x2, x3) with h2 | h2
    · have d1 : decide (spChk (x0, x1) = 0) = true := by simp [h1]
      have d2 : decide (spChk (x2, x3) = 0) = true := by simp [h2]
      have v : Hid (ok3 x0 x1 x2 x3 x4 x5 = decide (spChk (x4, x5) = 0)) := by unfold Hid ok3; rw [d1, d2]; simp
      clear h1 h2
      obtain ⟨W, hW⟩ : ∃ W, W = w.alloc (Obj.cells #[Value.int IntKind.i64 x0, Value.int IntKind.i64 x1, Value.int IntKind.i64 x2, Value.int IntKind.i64 x3, Value.int IntKind.i64 x4, Value.int IntKind.i64 x5] 25) := ⟨_, rfl⟩
      have hsW : w.heap.size < W.heap.size := by rw [hW]; simp
      have hB : Hid (Below w.heap.size w W) := by rw [hW]; unfold Hid; (repeat' (first | (with_reducible exact Below.refl _ _) | (with_reducible refine Below.setCell ?_ ?_ _) | (with_reducible refine Below.alloc ?_ ?_ _) | (with_reducible refine Below.drew ?_) | (with_reducible refine below_drewN ?_ _) | (with_reducible assumption) | (with_reducible refine Below.trans ?_ (Below.mono (by with_reducible assumption) ?_)) | omega | (simp; done) | (simp; omega) | (simp [World.setCell]; omega)))
      have a0 : W.cell? ⟨w.heap.size, 0, none⟩ = some (.int .i64 x0) := by rw [hW]; simp [go_sem]
      have a1 : W.cell? ⟨w.heap.size, 1, none⟩ = some (.int .i64 x1) := by rw [hW]; simp [go_sem]
      have a2 : W.cell? ⟨w.heap.size, 2, none⟩ = some (.int .i64 x2) := by rw [hW]; simp [go_sem]
      have a3 : W.cell? ⟨w.heap.size, 3, none⟩ = some (.int .i64 x3) := by rw [hW]; simp [go_sem]
      have a4 : W.cell? ⟨w.heap.size, 4, none⟩ = some (.int .i64 x4) := by rw [hW]; simp [go_sem]
      have a5 : W.cell? ⟨w.heap.size, 5, none⟩ = some (.int .i64 x5) := by rw [hW]; simp [go_sem]
      go_enter Tryz.func56, Tryz.ntmps56
      go_wp2_with (fail)
      rw [← hW]; clear hW
      go_wp2_with (fail)
      go_at_call 65
      refine Calls.mono (c_sRight x0 x1 _) ?_
      rintro e w1 ⟨rfl, hb1⟩
      have hs1 := hb1.size
      try simp only [World.size_alloc, World.drew_heap, World.size_setCell] at hs1
      have y1_0 : w.heap.size < w1.heap.size := by omega
      (replace a0 := kp hb1 (by omega) a0); (replace a1 := kp hb1 (by omega) a1); (replace a2 := kp hb1 (by omega) a2); (replace a3 := kp hb1 (by omega) a3); (replace a4 := kp hb1 (by omega) a4); (replace a5 := kp hb1 (by omega) a5)
      go_wp2_with (fail)
      go_at_call 65
      refine Calls.mono (c_sRight x2 x3 _) ?_
      rintro e w2 ⟨rfl, hb2⟩
      have hs2 := hb2.size
      try simp only [World.size_alloc, World.drew_heap, World.size_setCell] at hs2
      have y2_0 : w.heap.size < w2.heap.size := by omega
      try (have x2_1 : w1.heap.size < w2.heap.size := by omega)
      (replace a0 := kp hb2 (by omega) a0); (replace a1 := kp hb2 (by omega) a1); (replace a2 := kp hb2 (by omega) a2); (replace a3 := kp hb2 (by omega) a3); (replace a4 := kp hb2 (by omega) a4); (replace a5 := kp hb2 (by omega) a5)
      go_wp2_with (fail)
      go_at_call 65
      refine Calls.mono (c_sRight x4 x5 _) ?_
      rintro e w3 ⟨rfl, hb3⟩
      have hs3 := hb3.size
      try simp only [World.size_alloc, World.drew_heap, World.size_setCell] at hs3
      have y3_0 : w.heap.size < w3.heap.size := by omega
      try (have x3_1 : w1.heap.size < w3.heap.size := by omega)
      try (have x3_2 : w2.heap.size < w3.heap.size := by omega)
      (replace a0 := kp hb3 (by omega) a0); (replace a1 := kp hb3 (by omega) a1); (replace a2 := kp hb3 (by omega) a2); (replace a3 := kp hb3 (by omega) a3); (replace a4 := kp hb3 (by omega) a4); (replace a5 := kp hb3 (by omega) a5)
      go_wp2
      have HB := hB.out
      refine bodyPost_ret (v := .bool (ok3 x0 x1 x2 x3 x4 x5)) (by rw [v.out]; simp [results, Tryz.results56, go_sem, *]) rfl ⟨rfl, by (repeat' (first | (with_reducible exact Below.refl _ _) | (with_reducible refine Below.setCell ?_ ?_ _) | (with_reducible refine Below.alloc ?_ ?_ _) | (with_reducible refine Below.drew ?_) | (with_reducible refine below_drewN ?_ _) | (with_reducible assumption) | (with_reducible refine Below.trans ?_ (Below.mono (by with_reducible assumption) ?_)) | omega | (simp; done) | (simp; omega) | (simp [World.setCell]; omega)))⟩

    · have d1 : decide (spChk (x0, x1) = 0) = true := by simp [h1]
      have d2 : decide (spChk (x2, x3) = 0) = false := by simp [h2]
      have v : Hid (ok3 x0 x1 x2 x3 x4 x5 = false) := by unfold Hid ok3; rw [d1, d2]; simp
      clear h1 h2
      obtain ⟨W, hW⟩ : ∃ W, W = w.alloc (Obj.cells #[Value.int IntKind.i64 x0, Value.int IntKind.i64 x1, Value.int IntKind.i64 x2, Value.int IntKind.i64 x3, Value.int IntKind.i64 x4, Value.int IntKind.i64 x5] 25) := ⟨_, rfl⟩
      have hsW : w.heap.size < W.heap.size := by rw [hW]; simp
      have hB : Hid (Below w.heap.size w W) := by rw [hW]; unfold Hid; (repeat' (first | (with_reducible exact Below.refl _ _) | (with_reducible refine Below.setCell ?_ ?_ _) | (with_reducible refine Below.alloc ?_ ?_ _) | (with_reducible refine Below.drew ?_) | (with_reducible refine below_drewN ?_ _) | (with_reducible assumption) | (with_reducible refine Below.trans ?_ (Below.mono (by with_reducible assumption) ?_)) | omega | (simp; done) | (simp; omega) | (simp [World.setCell]; omega)))
      have a0 : W.cell? ⟨w.heap.size, 0, none⟩ = some (.int .i64 x0) := by rw [hW]; simp [go_sem]
      have a1 : W.cell? ⟨w.heap.size, 1, none⟩ = some (.int .i64 x1) := by rw [hW]; simp [go_sem]
      have a2 : W.cell? ⟨w.heap.size, 2, none⟩ = some (.int .i64 x2) := by rw [hW]; simp [go_sem]
      have a3 : W.cell? ⟨w.heap.size, 3, none⟩ = some (.int .i64 x3) := by rw [hW]; simp [go_sem]
      have a4 : W.cell? ⟨w.heap.size, 4, none⟩ = some (.int .i64 x4) := by rw [hW]; simp [go_sem]
      have a5 : W.cell? ⟨w.heap.size, 5, none⟩ = some (.int .i64 x5) := by rw [hW]; simp [go_sem]
      go_enter Tryz.func56, Tryz.ntmps56
      go_wp2_with (fail)
      rw [← hW]; clear hW
      go_wp2_with (fail)
      go_at_call 65
      refine Calls.mono (c_sRight x0 x1 _) ?_
      rintro e w1 ⟨rfl, hb1⟩
      have hs1 := hb1.size
      try simp only [World.size_alloc, World.drew_heap, World.size_setCell] at hs1
      have y1_0 : w.heap.size < w1.heap.size := by omega
      (replace a0 := kp hb1 (by omega) a0); (replace a1 := kp hb1 (by omega) a1); (replace a2 := kp hb1 (by omega) a2); (replace a3 := kp hb1 (by omega) a3); (replace a4 := kp hb1 (by omega) a4); (replace a5 := kp hb1 (by omega) a5)
      go_wp2_with (fail)
      go_at_call 65
      refine Calls.mono (c_sRight x2 x3 _) ?_
      rintro e w2 ⟨rfl, hb2⟩
      have hs2 := hb2.size
      try simp only [World.size_alloc, World.drew_heap, World.size_setCell] at hs2
      have y2_0 : w.heap.size < w2.heap.size := by omega
      try (have x2_1 : w1.heap.size < w2.heap.size := by omega)
      (replace a0 := kp hb2 (by omega) a0); (replace a1 := kp hb2 (by omega) a1); (replace a2 := kp hb2 (by omega) a2); (replace a3 := kp hb2 (by omega) a3); (replace a4 := kp hb2 (by omega) a4); (replace a5 := kp hb2 (by omega) a5)
      go_wp2
      have HB := hB.out
      refine bodyPost_ret (v := .bool (ok3 x0 x1 x2 x3 x4 x5)) (by rw [v.out]; simp [results, Tryz.results56, go_sem, *]) rfl ⟨rfl, by (repeat' (first | (with_reducible exact Below.refl _ _) | (with_reducible refine Below.setCell ?_ ?_ _) | (with_reducible refine Below.alloc ?_ ?_ _) | (with_reducible refine Below.drew ?_) | (with_reducible refine below_drewN ?_ _) | (with_reducible assumption) | (with_reducible refine Below.trans ?_ (Below.mono (by with_reducible assumption) ?_)) | omega | (simp; done) | (simp; omega) | (simp [World.setCell]; omega)))⟩

  · have d1 : decide (spChk (x0, x1) = 0) = false := by simp [h1]
    have v : Hid (ok3 x0 x1 x2 x3 x4 x5 = false) := by unfold Hid ok3; rw [d1]; simp
    clear h1
    obtain ⟨W, hW⟩ : ∃ W, W = w.alloc (Obj.cells #[Value.int IntKind.i64 x0, Value.int IntKind.i64 x1, Value.int IntKind.i64 x2, Value.int IntKind.i64 x3, Value.int IntKind.i64 x4, Value.int IntKind.i64 x5] 25) := ⟨_, rfl⟩
    have hsW : w.heap.size < W.heap.size := by rw [hW]; simp
    have hB : Hid (Below w.heap.size w W) := by rw [hW]; unfold Hid; (repeat' (first | (with_reducible exact Below.refl _ _) | (with_reducible refine Below.setCell ?_ ?_ _) | (with_reducible refine Below.alloc ?_ ?_ _) | (with_reducible refine Below.drew ?_) | (with_reducible refine below_drewN ?_ _) | (with_reducible assumption) | (with_reducible refine Below.trans ?_ (Below.mono (by with_reducible assumption) ?_)) | omega | (simp; done) | (simp; omega) | (simp [World.setCell]; omega)))
    have a0 : W.cell? ⟨w.heap.size, 0, none⟩ = some (.int .i64 x0) := by rw [hW]; simp [go_sem]
    have a1 : W.cell? ⟨w.heap.size, 1, none⟩ = some (.int .i64 x1) := by rw [hW]; simp [go_sem]
    have a2 : W.cell? ⟨w.heap.size, 2, none⟩ = some (.int .i64 x2) := by rw [hW]; simp [go_sem]
    have a3 : W.cell? ⟨w.heap.size, 3, none⟩ = some (.int .i64 x3) := by rw [hW]; simp [go_sem]
    have a4 : W.cell? ⟨w.heap.size, 4, none⟩ = some (.int .i64 x4) := by rw [hW]; simp [go_sem]
    have a5 : W.cell? ⟨w.heap.size, 5, none⟩ = some (.int .i64 x5) := by rw [hW]; simp [go_sem]
    go_enter Tryz.func56, Tryz.ntmps56
    go_wp2_with (fail)
    rw [← hW]; clear hW
    go_wp2_with (fail)
    go_at_call 65
    refine Calls.mono (c_sRight x0 x1 _) ?_
    rintro e w1 ⟨rfl, hb1⟩
    have hs1 := hb1.size
    try simp only [World.size_alloc, World.drew_heap, World.size_setCell] at hs1
    have y1_0 : w.heap.size < w1.heap.size := by omega
    (replace a0 := kp hb1 (by omega) a0); (replace a1 := kp hb1 (by omega) a1); (replace a2 := kp hb1 (by omega) a2); (replace a3 := kp hb1 (by omega) a3); (replace a4 := kp hb1 (by omega) a4); (replace a5 := kp hb1 (by omega) a5)
    go_wp2
    have HB := hB.out
    refine bodyPost_ret (v := .bool (ok3 x0 x1 x2 x3 x4 x5)) (by rw [v.out]; simp [results, Tryz.results56, go_sem, *]) rfl ⟨rfl, by (repeat' (first | (with_reducible exact Below.refl _ _) | (with_reducible refine Below.setCell ?_ ?_ _) | (with_reducible refine Below.alloc ?_ ?_ _) | (with_reducible refine Below.drew ?_) | (with_reducible refine below_drewN ?_ _) | (with_reducible assumption) | (with_reducible refine Below.trans ?_ (Below.mono (by with_reducible assumption) ?_)) | omega | (simp; done) | (simp; omega) | (simp [World.setCell]; omega)))⟩


theorem c_first3 (pb c : Nat) (a b d : Int) (w : World) (h0 : w.cell? ⟨pb, 0, none⟩ = some (.int .i64 a)) (h1 : w.cell? ⟨pb, 1, none⟩ = some (.int .i64 b)) (h2 : w.cell? ⟨pb, 2, none⟩ = some (.int .i64 d)) :
    Calls Tryz.prog 123 #[.slice (some ⟨pb, 0, none⟩) 3 c] w fun e w' => e = .returned (.int .i64 (errTo 0 a b d 3)) ∧ w' = w := by
  by_cases z0 : a = 0
  · skip
    by_cases z1 : b = 0
    · skip
      by_cases z2 : d = 0
      · skip
        have t0 : (a != 0) = false := by simp [z0]
        have t1 : (b != 0) = false := by simp [z1]
        have t2 : (d != 0) = false := by simp [z2]
        have v : Hid (errTo 0 a b d 3 = 0) := by unfold Hid; simp [errTo, fst2, z0, z1, z2]
        clear z0 z1 z2
        (go_enter Tryz.func123, Tryz.ntmps123; go_wp2_with (first | (with_reducible refine wp_rounds 4 ?_) | (with_reducible refine rounds_step _ ?_; intro _ _)); refine bodyPost_ret (v := .int .i64 (errTo 0 a b d 3)) (by rw [v.out]; simp [results, Tryz.results123, go_sem, *]) rfl ⟨rfl, rfl⟩)
      · skip
        have t0 : (a != 0) = false := by simp [z0]
        have t1 : (b != 0) = false := by simp [z1]
        have t2 : (d != 0) = true := by simp [z2]
        have v : Hid (errTo 0 a b d 3 = d) := by unfold Hid; simp [errTo, fst2, z0, z1, z2]
        clear z0 z1 z2
        (go_enter Tryz.func123, Tryz.ntmps123; go_wp2_with (first | (with_reducible refine wp_rounds 4 ?_) | (with_reducible refine rounds_step _ ?_; intro _ _)); refine bodyPost_ret (v := .int .i64 (errTo 0 a b d 3)) (by rw [v.out]; simp [results, Tryz.results123, go_sem, *]) rfl ⟨rfl, rfl⟩)
    · skip
      have t0 : (a != 0) = false := by simp [z0]
      have t1 : (b != 0) = true := by simp [z1]
      have v : Hid (errTo 0 a b d 3 = b) := by unfold Hid; simp [errTo, fst2, z0, z1]
      clear z0 z1
      (go_enter Tryz.func123, Tryz.ntmps123; go_wp2_with (first | (with_reducible refine wp_rounds 4 ?_) | (with_reducible refine rounds_step _ ?_; intro _ _)); refine bodyPost_ret (v := .int .i64 (errTo 0 a b d 3)) (by rw [v.out]; simp [results, Tryz.results123, go_sem, *]) rfl ⟨rfl, rfl⟩)
  · skip
    have t0 : (a != 0) = true := by simp [z0]
    have v : Hid (errTo 0 a b d 3 = a) := by unfold Hid; simp [errTo, fst2, z0]
    clear z0
    (go_enter Tryz.func123, Tryz.ntmps123; go_wp2_with (first | (with_reducible refine wp_rounds 4 ?_) | (with_reducible refine rounds_step _ ?_; intro _ _)); refine bodyPost_ret (v := .int .i64 (errTo 0 a b d 3)) (by rw [v.out]; simp [results, Tryz.results123, go_sem, *]) rfl ⟨rfl, rfl⟩)

theorem c_first2 (pb c : Nat) (a b : Int) (w : World) (h0 : w.cell? ⟨pb, 0, none⟩ = some (.int .i64 a)) (h1 : w.cell? ⟨pb, 1, none⟩ = some (.int .i64 b)) :
    Calls Tryz.prog 123 #[.slice (some ⟨pb, 0, none⟩) 2 c] w fun e w' => e = .returned (.int .i64 (fst2 a b)) ∧ w' = w := by
  by_cases z0 : a = 0
  · skip
    by_cases z1 : b = 0
    · skip
      have t0 : (a != 0) = false := by simp [z0]
      have t1 : (b != 0) = false := by simp [z1]
      have v : Hid (fst2 a b = 0) := by unfold Hid; simp [errTo, fst2, z0, z1]
      clear z0 z1
      (go_enter Tryz.func123, Tryz.ntmps123; go_wp2_with (first | (with_reducible refine wp_rounds 3 ?_) | (with_reducible refine rounds_step _ ?_; intro _ _)); refine bodyPost_ret (v := .int .i64 (fst2 a b)) (by rw [v.out]; simp [results, Tryz.results123, go_sem, *]) rfl ⟨rfl, rfl⟩)
    · skip
      have t0 : (a != 0) = false := by simp [z0]
      have t1 : (b != 0) = true := by simp [z1]
      have v : Hid (fst2 a b = b) := by unfold Hid; simp [errTo, fst2, z0, z1]
      clear z0 z1
      (go_enter Tryz.func123, Tryz.ntmps123; go_wp2_with (first | (with_reducible refine wp_rounds 3 ?_) | (with_reducible refine rounds_step _ ?_; intro _ _)); refine bodyPost_ret (v := .int .i64 (fst2 a b)) (by rw [v.out]; simp [results, Tryz.results123, go_sem, *]) rfl ⟨rfl, rfl⟩)
  · skip
    have t0 : (a != 0) = true := by simp [z0]
    have v : Hid (fst2 a b = a) := by unfold Hid; simp [errTo, fst2, z0]
    clear z0
    (go_enter Tryz.func123, Tryz.ntmps123; go_wp2_with (first | (with_reducible refine wp_rounds 3 ?_) | (with_reducible refine rounds_step _ ?_; intro _ _)); refine bodyPost_ret (v := .int .i64 (fst2 a b)) (by rw [v.out]; simp [results, Tryz.results123, go_sem, *]) rfl ⟨rfl, rfl⟩)

theorem c_vvector (ra rb rc : Int × Int × Int) (w : World) :
    Calls Tryz.prog 58 #[.agg #[.int .i64 ra.1, .int .i64 ra.2.1], .int .i64 ra.2.2, .agg #[.int .i64 rb.1, .int .i64 rb.2.1], .int .i64 rb.2.2, .agg #[.int .i64 rc.1, .int .i64 rc.2.1], .int .i64 rc.2.2] w fun e w' => e = .returned (vRes (errTo 0 ra.2.2 rb.2.2 rc.2.2 3) ra rb rc) ∧ Below w.heap.size w w' := by
  obtain ⟨ek, hek⟩ : ∃ ek, ek = errTo 0 ra.2.2 rb.2.2 rc.2.2 3 := ⟨_, rfl⟩
  rw [← hek]
  by_cases h : ek = 0
  · have d : (ek != 0) = false := by simp [h]
    have v : Hid (vRes ek ra rb rc = .tuple #[.agg #[.int .i64 ra.1, .int .i64 ra.2.1, .int .i64 rb.1, .int .i64 rb.2.1, .int .i64 rc.1, .int .i64 rc.2.1], .int .i64 0]) := by unfold Hid vRes; rw [if_pos h]
    clear h
    have HEK := Lib.hid hek; clear hek
    go_enter Tryz.func58, Tryz.ntmps58
    go_wp2_with (first | (go_at_call 123; refine Calls.mono (c_first3 _ _ ra.2.2 rb.2.2 rc.2.2 _ (by simp [go_sem]) (by simp [go_sem]) (by simp [go_sem])) ?_; rw [← HEK.out]; rintro e w1 ⟨rfl, rfl⟩))
    refine bodyPost_ret (v := .tuple #[.agg #[.int .i64 ra.1, .int .i64 ra.2.1, .int .i64 rb.1, .int .i64 rb.2.1, .int .i64 rc.1, .int .i64 rc.2.1], .int .i64 0]) (by simp [results, Tryz.results58, go_sem, *]) rfl ⟨by rw [v.out], by (repeat' (first | (with_reducible exact Below.refl _ _) | (with_reducible refine Below.setCell ?_ ?_ _) | (with_reducible refine Below.alloc ?_ ?_ _) | (with_reducible refine Below.drew ?_) | (with_reducible refine below_drewN ?_ _) | (with_reducible assumption) | (with_reducible refine Below.trans ?_ (Below.mono (by with_reducible assumption) ?_)) | omega | (simp; done) | (simp; omega) | (simp [World.setCell]; omega)))⟩
  · have d : (ek != 0) = true := by simp [h]
    have v : Hid (vRes ek ra rb rc = .tuple #[.agg #[.int .i64 0, .int .i64 0, .int .i64 0, .int .i64 0, .int .i64 0, .int .i64 0], .int .i64 ek]) := by unfold Hid vRes; rw [if_neg h]
    clear h
    have HEK := Lib.hid hek; clear hek
    go_enter Tryz.func58, Tryz.ntmps58
    go_wp2_with (first | (go_at_call 123; refine Calls.mono (c_first3 _ _ ra.2.2 rb.2.2 rc.2.2 _ (by simp [go_sem]) (by simp [go_sem]) (by simp [go_sem])) ?_; rw [← HEK.out]; rintro e w1 ⟨rfl, rfl⟩))
    refine bodyPost_ret (v := .tuple #[.agg #[.int .i64 0, .int .i64 0, .int .i64 0, .int .i64 0, .int .i64 0, .int .i64 0], .int .i64 ek]) (by simp [results, Tryz.results58, go_sem, *]) rfl ⟨by rw [v.out], by (repeat' (first | (with_reducible exact Below.refl _ _) | (with_reducible refine Below.setCell ?_ ?_ _) | (with_reducible refine Below.alloc ?_ ?_ _) | (with_reducible refine Below.drew ?_) | (with_reducible refine below_drewN ?_ _) | (with_reducible assumption) | (with_reducible refine Below.trans ?_ (Below.mono (by with_reducible assumption) ?_)) | omega | (simp; done) | (simp; omega) | (simp [World.setCell]; omega)))⟩

set_option maxHeartbeats 1000000 in
theorem c_vthree (ra rb rc : Int × Int × Int) (w : World) :
    Calls Tryz.prog 69 #[.agg #[.int .i64 ra.1, .int .i64 ra.2.1], .int .i64 ra.2.2, .agg #[.int .i64 rb.1, .int .i64 rb.2.1], .int .i64 rb.2.2, .agg #[.int .i64 rc.1, .int .i64 rc.2.1], .int .i64 rc.2.2] w fun e w' => e = .returned (.tuple #[.agg #[.int .i64 (rThree ra rb rc).1, .int .i64 (rThree ra rb rc).2.1], .int .i64 (rThree ra rb rc).2.2]) ∧ Below w.heap.size w w' := by
  obtain ⟨em, hem⟩ : ∃ e, e = errTo 0 ra.2.2 rb.2.2 rc.2.2 3 := ⟨_, rfl⟩
  obtain ⟨r1, hr1⟩ : ∃ r, r = spAdd (ra.1, ra.2.1) (rb.1, rb.2.1) := ⟨_, rfl⟩
  obtain ⟨r2, hr2⟩ : ∃ r, r = spAdd (r1.1, r1.2.1) (rc.1, rc.2.1) := ⟨_, rfl⟩
  have q : rThree ra rb rc = if em ≠ 0 then (0, 0, em) else if r1.2.2 ≠ 0 then (0, 0, r1.2.2) else r2 := by rw [hr2, hr1, hem]; rfl
  by_cases h0 : em = 0
  · by_cases h1 : r1.2.2 = 0
    · have v : Hid (rThree ra rb rc = r2) := by unfold Hid; rw [q, if_neg (by simp [h0]), if_neg (by simp [h1])]
      have d0 : (em != 0) = false := by simp [h0]
      have d1 : (r1.2.2 != 0) = false := by simp [h1]
      rw [v.out]
      clear q h0 h1
      have HEM := Lib.hid hem; clear hem
      have HR1 := Lib.hid hr1; clear hr1
      have HR2 := Lib.hid hr2; clear hr2
      obtain ⟨W, hW⟩ : ∃ W, W = ((((w.alloc (Obj.cells #[Value.int IntKind.i64 ra.1, Value.int IntKind.i64 ra.2.1] 23)).alloc (Obj.cells #[Value.int IntKind.i64 rb.1, Value.int IntKind.i64 rb.2.1] 23)).alloc (Obj.cells #[Value.int IntKind.i64 rc.1, Value.int IntKind.i64 rc.2.1] 23)).alloc (Obj.cells #[Value.int IntKind.i64 0, Value.int IntKind.i64 0] 23)).alloc (Obj.cells #[.int .i64 ra.2.2, .int .i64 rb.2.2, .int .i64 rc.2.2] 37) := ⟨_, rfl⟩
      have hsW : w.heap.size + 1 + 1 + 1 + 1 < W.heap.size := by rw [hW]; simp
      have hB : Hid (Below w.heap.size w W) := by rw [hW]; unfold Hid; (repeat' (first | (with_reducible exact Below.refl _ _) | (with_reducible refine Below.setCell ?_ ?_ _) | (with_reducible refine Below.alloc ?_ ?_ _) | (with_reducible refine Below.drew ?_) | (with_reducible refine below_drewN ?_ _) | (with_reducible assumption) | (with_reducible refine Below.trans ?_ (Below.mono (by with_reducible assumption) ?_)) | omega | (simp; done) | (simp; omega) | (simp [World.setCell]; omega)))
      have pa0 : W.cell? ⟨w.heap.size, 0, none⟩ = some (.int .i64 ra.1) := by rw [hW]; simp [go_sem]
      have pa1 : W.cell? ⟨w.heap.size, 1, none⟩ = some (.int .i64 ra.2.1) := by rw [hW]; simp [go_sem]
      have pb0 : W.cell? ⟨w.heap.size + 1, 0, none⟩ = some (.int .i64 rb.1) := by rw [hW]; simp [go_sem]
      have pb1 : W.cell? ⟨w.heap.size + 1, 1, none⟩ = some (.int .i64 rb.2.1) := by rw [hW]; simp [go_sem]
      have pc0 : W.cell? ⟨w.heap.size + 1 + 1, 0, none⟩ = some (.int .i64 rc.1) := by rw [hW]; simp [go_sem]
      have pc1 : W.cell? ⟨w.heap.size + 1 + 1, 1, none⟩ = some (.int .i64 rc.2.1) := by rw [hW]; simp [go_sem]
      have z0 : W.cell? ⟨w.heap.size + 1 + 1 + 1, 0, none⟩ = some (.int .i64 0) := by rw [hW]; simp [go_sem]
      have z1 : W.cell? ⟨w.heap.size + 1 + 1 + 1, 1, none⟩ = some (.int .i64 0) := by rw [hW]; simp [go_sem]
      have f0 : W.cell? ⟨w.heap.size + 1 + 1 + 1 + 1, 0, none⟩ = some (.int .i64 ra.2.2) := by rw [hW]; simp [go_sem]
      have f1 : W.cell? ⟨w.heap.size + 1 + 1 + 1 + 1, 1, none⟩ = some (.int .i64 rb.2.2) := by rw [hW]; simp [go_sem]
      have f2 : W.cell? ⟨w.heap.size + 1 + 1 + 1 + 1, 2, none⟩ = some (.int .i64 rc.2.2) := by rw [hW]; simp [go_sem]
      have s0 : W.frozen? ⟨w.heap.size + 1 + 1 + 1, 0, none⟩ = false := by rw [hW]; simp [go_sem]
      have s1 : W.frozen? ⟨w.heap.size + 1 + 1 + 1, 1, none⟩ = false := by rw [hW]; simp [go_sem]
      go_enter Tryz.func69, Tryz.ntmps69
      go_wp2_with (fail)
      rw [← hW]; clear hW
      go_wp2_with (fail)
      go_at_call 123
      refine Calls.mono (c_first3 _ _ ra.2.2 rb.2.2 rc.2.2 _ f0 f1 f2) ?_
      rw [← HEM.out]
      rintro e wq ⟨rfl, hq⟩
      rw [hq]; clear hq wq
      go_wp2_with (fail)
      go_at_call 57
      refine Calls.mono (c_sAdd ra.1 ra.2.1 rb.1 rb.2.1 _) ?_
      rw [← HR1.out]
      rintro e w1 ⟨rfl, hb1⟩
      have hs1 := hb1.size
      try simp only [World.size_alloc, World.drew_heap, World.size_setCell] at hs1
      have y1_0 : w.heap.size < w1.heap.size := by omega
      have y1_1 : w.heap.size + 1 < w1.heap.size := by omega
      have y1_2 : w.heap.size + 1 + 1 < w1.heap.size := by omega
      have y1_3 : w.heap.size + 1 + 1 + 1 < w1.heap.size := by omega
      have y1_4 : w.heap.size + 1 + 1 + 1 + 1 < w1.heap.size := by omega
      (replace pa0 := kp hb1 (by omega) pa0); (replace pa1 := kp hb1 (by omega) pa1); (replace pb0 := kp hb1 (by omega) pb0); (replace pb1 := kp hb1 (by omega) pb1); (replace pc0 := kp hb1 (by omega) pc0); (replace pc1 := kp hb1 (by omega) pc1); (replace z0 := kp hb1 (by omega) z0); (replace z1 := kp hb1 (by omega) z1); (replace s0 := kf hb1 (by omega) s0); (replace s1 := kf hb1 (by omega) s1)
      go_wp2_with (fail)
      go_at_call 57
      refine Calls.mono (c_sAdd r1.1 r1.2.1 rc.1 rc.2.1 _) ?_
      rw [← HR2.out]
      rintro e w2 ⟨rfl, hb2⟩
      have hs2 := hb2.size
      try simp only [World.size_alloc, World.drew_heap, World.size_setCell] at hs2
      have y2_0 : w.heap.size < w2.heap.size := by omega
      have y2_1 : w.heap.size + 1 < w2.heap.size := by omega
      have y2_2 : w.heap.size + 1 + 1 < w2.heap.size := by omega
      have y2_3 : w.heap.size + 1 + 1 + 1 < w2.heap.size := by omega
      have y2_4 : w.heap.size + 1 + 1 + 1 + 1 < w2.heap.size := by omega
      try (have x2_1 : w1.heap.size < w2.heap.size := by omega)
      (replace pa0 := kp1 hb2 (by omega) pa0); (replace pa1 := kp1 hb2 (by omega) pa1); (replace pb0 := kp1 hb2 (by omega) pb0); (replace pb1 := kp1 hb2 (by omega) pb1); (replace pc0 := kp1 hb2 (by omega) pc0); (replace pc1 := kp1 hb2 (by omega) pc1); (replace z0 := kp1 hb2 (by omega) z0); (replace z1 := kp1 hb2 (by omega) z1); (replace s0 := kf1 hb2 (by omega) s0); (replace s1 := kf1 hb2 (by omega) s1)
      go_wp2
      have HB := hB.out
      refine bodyPost_ret (v := .tuple #[.agg #[.int .i64 r2.1, .int .i64 r2.2.1], .int .i64 r2.2.2]) (by simp [results, Tryz.results69, go_sem, *]) rfl ⟨rfl, by (repeat' (first | (with_reducible exact Below.refl _ _) | (with_reducible refine Below.setCell ?_ ?_ _) | (with_reducible refine Below.alloc ?_ ?_ _) | (with_reducible refine Below.drew ?_) | (with_reducible refine below_drewN ?_ _) | (with_reducible assumption) | (with_reducible refine Below.trans ?_ (Below.mono (by with_reducible assumption) ?_)) | omega | (simp; done) | (simp; omega) | (simp [World.setCell]; omega)))⟩

    · have v : Hid (rThree ra rb rc = (0, 0, r1.2.2)) := by unfold Hid; rw [q, if_neg (by simp [h0]), if_pos h1]
      have d0 : (em != 0) = false := by simp [h0]
      have d1 : (r1.2.2 != 0) = true := by simp [h1]
      rw [v.out]
      clear q h0 h1
      have HEM := Lib.hid hem; clear hem
      have HR1 := Lib.hid hr1; clear hr1
      have HR2 := Lib.hid hr2; clear hr2
      obtain ⟨W, hW⟩ : ∃ W, W = ((((w.alloc (Obj.cells #[Value.int IntKind.i64 ra.1, Value.int IntKind.i64 ra.2.1] 23)).alloc (Obj.cells #[Value.int IntKind.i64 rb.1, Value.int IntKind.i64 rb.2.1] 23)).alloc (Obj.cells #[Value.int IntKind.i64 rc.1, Value.int IntKind.i64 rc.2.1] 23)).alloc (Obj.cells #[Value.int IntKind.i64 0, Value.int IntKind.i64 0] 23)).alloc (Obj.cells #[.int .i64 ra.2.2, .int .i64 rb.2.2, .int .i64 rc.2.2] 37) := ⟨_, rfl⟩
      have hsW : w.heap.size + 1 + 1 + 1 + 1 < W.heap.size := by rw [hW]; simp
      have hB : Hid (Below w.heap.size w W) := by rw [hW]; unfold Hid; (repeat' (first | (with_reducible exact Below.refl _ _) | (with_reducible refine Below.setCell ?_ ?_ _) | (with_reducible refine Below.alloc ?_ ?_ _) | (with_reducible refine Below.drew ?_) | (with_reducible refine below_drewN ?_ _) | (with_reducible assumption) | (with_reducible refine Below.trans ?_ (Below.mono (by with_reducible assumption) ?_)) | omega | (simp; done) | (simp; omega) | (simp [World.setCell]; omega)))
      have pa0 : W.cell? ⟨w.heap.size, 0, none⟩ = some (.int .i64 ra.1) := by rw [hW]; simp [go_sem]
      have pa1 : W.cell? ⟨w.heap.size, 1, none⟩ = some (.int .i64 ra.2.1) := by rw [hW]; simp [go_sem]
      have pb0 : W.cell? ⟨w.heap.size + 1, 0, none⟩ = some (.int .i64 rb.1) := by rw [hW]; simp [go_sem]
      have pb1 : W.cell? ⟨w.heap.size + 1, 1, none⟩ = some (.int .i64 rb.2.1) := by rw [hW]; simp [go_sem]
      have pc0 : W.cell? ⟨w.heap.size + 1 + 1, 0, none⟩ = some (.int .i64 rc.1) := by rw [hW]; simp [go_sem]
      have pc1 : W.cell? ⟨w.heap.size + 1 + 1, 1, none⟩ = some (.int .i64 rc.2.1) := by rw [hW]; simp [go_sem]
      have z0 : W.cell? ⟨w.heap.size + 1 + 1 + 1, 0, none⟩ = some (.int .i64 0) := by rw [hW]; simp [go_sem]
      have z1 : W.cell? ⟨w.heap.size + 1 + 1 + 1, 1, none⟩ = some (.int .i64 0) := by rw [hW]; simp [go_sem]
      have f0 : W.cell? ⟨w.heap.size + 1 + 1 + 1 + 1, 0, none⟩ = some (.int .i64 ra.2.2) := by rw [hW]; simp [go_sem]
      have f1 : W.cell? ⟨w.heap.size + 1 + 1 + 1 + 1, 1, none⟩ = some (.int .i64 rb.2.2) := by rw [hW]; simp [go_sem]
      have f2 : W.cell? ⟨w.heap.size + 1 + 1 + 1 + 1, 2, none⟩ = some (.int .i64 rc.2.2) := by rw [hW]; simp [go_sem]
      have s0 : W.frozen? ⟨w.heap.size + 1 + 1 + 1, 0, none⟩ = false := by rw [hW]; simp [go_sem]
      have s1 : W.frozen? ⟨w.heap.size + 1 + 1 + 1, 1, none⟩ = false := by rw [hW]; simp [go_sem]
      go_enter Tryz.func69, Tryz.ntmps69
      go_wp2_with (fail)
      rw [← hW]; clear hW
      go_wp2_with (fail)
      go_at_call 123
      refine Calls.mono (c_first3 _ _ ra.2.2 rb.2.2 rc.2.2 _ f0 f1 f2) ?_
      rw [← HEM.out]
      rintro e wq ⟨rfl, hq⟩
      rw [hq]; clear hq wq
      go_wp2_with (fail)
      go_at_call 57
      refine Calls.mono (c_sAdd ra.1 ra.2.1 rb.1 rb.2.1 _) ?_
      rw [← HR1.out]
      rintro e w1 ⟨rfl, hb1⟩
      have hs1 := hb1.size
      try simp only [World.size_alloc, World.drew_heap, World.size_setCell] at hs1
      have y1_0 : w.heap.size < w1.heap.size := by omega
      have y1_1 : w.heap.size + 1 < w1.heap.size := by omega
      have y1_2 : w.heap.size + 1 + 1 < w1.heap.size := by omega
      have y1_3 : w.heap.size + 1 + 1 + 1 < w1.heap.size := by omega
      have y1_4 : w.heap.size + 1 + 1 + 1 + 1 < w1.heap.size := by omega
      (replace pa0 := kp hb1 (by omega) pa0); (replace pa1 := kp hb1 (by omega) pa1); (replace pb0 := kp hb1 (by omega) pb0); (replace pb1 := kp hb1 (by omega) pb1); (replace pc0 := kp hb1 (by omega) pc0); (replace pc1 := kp hb1 (by omega) pc1); (replace z0 := kp hb1 (by omega) z0); (replace z1 := kp hb1 (by omega) z1); (replace s0 := kf hb1 (by omega) s0); (replace s1 := kf hb1 (by omega) s1)
      go_wp2
      have HB := hB.out
      refine bodyPost_ret (v := .tuple #[.agg #[.int .i64 0, .int .i64 0], .int .i64 r1.2.2]) (by simp [results, Tryz.results69, go_sem, *]) rfl ⟨rfl, by (repeat' (first | (with_reducible exact Below.refl _ _) | (with_reducible refine Below.setCell ?_ ?_ _) | (with_reducible refine Below.alloc ?_ ?_ _) | (with_reducible refine Below.drew ?_) | (with_reducible refine below_drewN ?_ _) | (with_reducible assumption) | (with_reducible refine Below.trans ?_ (Below.mono (by with_reducible assumption) ?_)) | omega | (simp; done) | (simp; omega) | (simp [World.setCell]; omega)))⟩

  · have v : Hid (rThree ra rb rc = (0, 0, em)) := by unfold Hid; rw [q, if_pos h0]
    have d0 : (em != 0) = true := by simp [h0]
    rw [v.out]
    clear q h0
    have HEM := Lib.hid hem; clear hem
    have HR1 := Lib.hid hr1; clear hr1
    have HR2 := Lib.hid hr2; clear hr2
    obtain ⟨W, hW⟩ : ∃ W, W = ((((w.alloc (Obj.cells #[Value.int IntKind.i64 ra.1, Value.int IntKind.i64 ra.2.1] 23)).alloc (Obj.cells #[Value.int IntKind.i64 rb.1, Value.int IntKind.i64 rb.2.1] 23)).alloc (Obj.cells #[Value.int IntKind.i64 rc.1, Value.int IntKind.i64 rc.2.1] 23)).alloc (Obj.cells #[Value.int IntKind.i64 0, Value.int IntKind.i64 0] 23)).alloc (Obj.cells #[.int .i64 ra.2.2, .int .i64 rb.2.2, .int .i64 rc.2.2] 37) := ⟨_, rfl⟩
    have hsW : w.heap.size + 1 + 1 + 1 + 1 < W.heap.size := by rw [hW]; simp
    have hB : Hid (Below w.heap.size w W) := by rw [hW]; unfold Hid; (repeat' (first | (with_reducible exact Below.refl _ _) | (with_reducible refine Below.setCell ?_ ?_ _) | (with_reducible refine Below.alloc ?_ ?_ _) | (with_reducible refine Below.drew ?_) | (with_reducible refine below_drewN ?_ _) | (with_reducible assumption) | (with_reducible refine Below.trans ?_ (Below.mono (by with_reducible assumption) ?_)) | omega | (simp; done) | (simp; omega) | (simp [World.setCell]; omega)))
    have pa0 : W.cell? ⟨w.heap.size, 0, none⟩ = some (.int .i64 ra.1) := by rw [hW]; simp [go_sem]
    have pa1 : W.cell? ⟨w.heap.size, 1, none⟩ = some (.int .i64 ra.2.1) := by rw [hW]; simp [go_sem]
    have pb0 : W.cell? ⟨w.heap.size + 1, 0, none⟩ = some (.int .i64 rb.1) := by rw [hW]; simp [go_sem]
    have pb1 : W.cell? ⟨w.heap.size + 1, 1, none⟩ = some (.int .i64 rb.2.1) := by rw [hW]; simp [go_sem]
    have pc0 : W.cell? ⟨w.heap.size + 1 + 1, 0, none⟩ = some (.int .i64 rc.1) := by rw [hW]; simp [go_sem]
    have pc1 : W.cell? ⟨w.heap.size + 1 + 1, 1, none⟩ = some (.int .i64 rc.2.1) := by rw [hW]; simp [go_sem]
    have z0 : W.cell? ⟨w.heap.size + 1 + 1 + 1, 0, none⟩ = some (.int .i64 0) := by rw [hW]; simp [go_sem]
    have z1 : W.cell? ⟨w.heap.size + 1 + 1 + 1, 1, none⟩ = some (.int .i64 0) := by rw [hW]; simp [go_sem]
    have f0 : W.cell? ⟨w.heap.size + 1 + 1 + 1 + 1, 0, none⟩ = some (.int .i64 ra.2.2) := by rw [hW]; simp [go_sem]
    have f1 : W.cell? ⟨w.heap.size + 1 + 1 + 1 + 1, 1, none⟩ = some (.int .i64 rb.2.2) := by rw [hW]; simp [go_sem]
    have f2 : W.cell? ⟨w.heap.size + 1 + 1 + 1 + 1, 2, none⟩ = some (.int .i64 rc.2.2) := by rw [hW]; simp [go_sem]
    have s0 : W.frozen? ⟨w.heap.size + 1 + 1 + 1, 0, none⟩ = false := by rw [hW]; simp [go_sem]
    have s1 : W.frozen? ⟨w.heap.size + 1 + 1 + 1, 1, none⟩ = false := by rw [hW]; simp [go_sem]
    go_enter Tryz.func69, Tryz.ntmps69
    go_wp2_with (fail)
    rw [← hW]; clear hW
    go_wp2_with (fail)
    go_at_call 123
    refine Calls.mono (c_first3 _ _ ra.2.2 rb.2.2 rc.2.2 _ f0 f1 f2) ?_
    rw [← HEM.out]
    rintro e wq ⟨rfl, hq⟩
    rw [hq]; clear hq wq
    go_wp2
    have HB := hB.out
    refine bodyPost_ret (v := .tuple #[.agg #[.int .i64 0, .int .i64 0], .int .i64 em]) (by simp [results, Tryz.results69, go_sem, *]) rfl ⟨rfl, by (repeat' (first | (with_reducible exact Below.refl _ _) | (with_reducible refine Below.setCell ?_ ?_ _) | (with_reducible refine Below.alloc ?_ ?_ _) | (with_reducible refine Below.drew ?_) | (with_reducible refine below_drewN ?_ _) | (with_reducible assumption) | (with_reducible refine Below.trans ?_ (Below.mono (by with_reducible assumption) ?_)) | omega | (simp; done) | (simp; omega) | (simp [World.setCell]; omega)))⟩


set_option maxHeartbeats 1000000 in
theorem c_vless (a1 a2 b1 b2 c1 c2 d1 d2 : Int) (w : World) :
    Calls Tryz.prog 71 #[.agg #[.int .i64 a1, .int .i64 a2], .agg #[.int .i64 b1, .int .i64 b2], .agg #[.int .i64 c1, .int .i64 c2], .agg #[.int .i64 d1, .int .i64 d2]] w
      fun e w' => e = .returned (.tuple #[.agg #[.int .i64 (rLess (spMul (a1, a2) (b1, b2)) (spMul (c1, c2) (d1, d2))).1, .int .i64 (rLess (spMul (a1, a2) (b1, b2)) (spMul (c1, c2) (d1, d2))).2.1], .int .i64 (rLess (spMul (a1, a2) (b1, b2)) (spMul (c1, c2) (d1, d2))).2.2]) ∧ Below w.heap.size w w' := by
  obtain ⟨rp, hrp⟩ : ∃ r, r = spMul (a1, a2) (b1, b2) := ⟨_, rfl⟩
  obtain ⟨rq, hrq⟩ : ∃ r, r = spMul (c1, c2) (d1, d2) := ⟨_, rfl⟩
  obtain ⟨rd, hrd⟩ : ∃ r, r = spSub (rp.1, rp.2.1) (rq.1, rq.2.1) := ⟨_, rfl⟩
  obtain ⟨em, hem⟩ : ∃ e, e = fst2 rp.2.2 rq.2.2 := ⟨_, rfl⟩
  rw [← hrp, ← hrq]
  have q : rLess rp rq = if em ≠ 0 then (0, 0, em) else rd := by rw [hrd, hem]; rfl
  by_cases h0 : em = 0
  · have v : Hid (rLess rp rq = rd) := by unfold Hid; rw [q, if_neg (by simp [h0])]
    have d0 : (em != 0) = false := by simp [h0]
    rw [v.out]
    clear q h0
    have HRP := Lib.hid hrp; clear hrp
    have HRQ := Lib.hid hrq; clear hrq
    have HRD := Lib.hid hrd; clear hrd
    have HEM := Lib.hid hem; clear hem
    obtain ⟨W, hW⟩ : ∃ W, W = ((((w.alloc (Obj.cells #[Value.int IntKind.i64 a1, Value.int IntKind.i64 a2] 23)).alloc (Obj.cells #[Value.int IntKind.i64 b1, Value.int IntKind.i64 b2] 23)).alloc (Obj.cells #[Value.int IntKind.i64 c1, Value.int IntKind.i64 c2] 23)).alloc (Obj.cells #[Value.int IntKind.i64 d1, Value.int IntKind.i64 d2] 23)).alloc (Obj.cells #[Value.int IntKind.i64 0, Value.int IntKind.i64 0] 23) := ⟨_, rfl⟩
    have hsW : w.heap.size + 1 + 1 + 1 + 1 < W.heap.size := by rw [hW]; simp
    have hB : Hid (Below w.heap.size w W) := by rw [hW]; unfold Hid; (repeat' (first | (with_reducible exact Below.refl _ _) | (with_reducible refine Below.setCell ?_ ?_ _) | (with_reducible refine Below.alloc ?_ ?_ _) | (with_reducible refine Below.drew ?_) | (with_reducible refine below_drewN ?_ _) | (with_reducible assumption) | (with_reducible refine Below.trans ?_ (Below.mono (by with_reducible assumption) ?_)) | omega | (simp; done) | (simp; omega) | (simp [World.setCell]; omega)))
    have p0 : W.cell? ⟨w.heap.size, 0, none⟩ = some (.int .i64 a1) := by rw [hW]; simp [go_sem]
    have p1 : W.cell? ⟨w.heap.size, 1, none⟩ = some (.int .i64 a2) := by rw [hW]; simp [go_sem]
    have q0 : W.cell? ⟨w.heap.size + 1, 0, none⟩ = some (.int .i64 b1) := by rw [hW]; simp [go_sem]
    have q1 : W.cell? ⟨w.heap.size + 1, 1, none⟩ = some (.int .i64 b2) := by rw [hW]; simp [go_sem]
    have r0 : W.cell? ⟨w.heap.size + 1 + 1, 0, none⟩ = some (.int .i64 c1) := by rw [hW]; simp [go_sem]
    have r1 : W.cell? ⟨w.heap.size + 1 + 1, 1, none⟩ = some (.int .i64 c2) := by rw [hW]; simp [go_sem]
    have u0 : W.cell? ⟨w.heap.size + 1 + 1 + 1, 0, none⟩ = some (.int .i64 d1) := by rw [hW]; simp [go_sem]
    have u1 : W.cell? ⟨w.heap.size + 1 + 1 + 1, 1, none⟩ = some (.int .i64 d2) := by rw [hW]; simp [go_sem]
    have z0 : W.cell? ⟨w.heap.size + 1 + 1 + 1 + 1, 0, none⟩ = some (.int .i64 0) := by rw [hW]; simp [go_sem]
    have z1 : W.cell? ⟨w.heap.size + 1 + 1 + 1 + 1, 1, none⟩ = some (.int .i64 0) := by rw [hW]; simp [go_sem]
    have s0 : W.frozen? ⟨w.heap.size + 1 + 1 + 1 + 1, 0, none⟩ = false := by rw [hW]; simp [go_sem]
    have s1 : W.frozen? ⟨w.heap.size + 1 + 1 + 1 + 1, 1, none⟩ = false := by rw [hW]; simp [go_sem]
    go_enter Tryz.func71, Tryz.ntmps71
    go_wp2_with (fail)
    rw [← hW]; clear hW
    go_wp2_with (fail)
    go_at_call 66
    refine Calls.mono (c_sMul a1 a2 b1 b2 _) ?_
    rw [← HRP.out]
    rintro e w1 ⟨rfl, hb1⟩
    have hs1 := hb1.size
    try simp only [World.size_alloc, World.drew_heap, World.size_setCell] at hs1
    have y1_0 : w.heap.size < w1.heap.size := by omega
    have y1_1 : w.heap.size + 1 < w1.heap.size := by omega
    have y1_2 : w.heap.size + 1 + 1 < w1.heap.size := by omega
    have y1_3 : w.heap.size + 1 + 1 + 1 < w1.heap.size := by omega
    have y1_4 : w.heap.size + 1 + 1 + 1 + 1 < w1.heap.size := by omega
    (replace p0 := kp hb1 (by omega) p0); (replace p1 := kp hb1 (by omega) p1); (replace q0 := kp hb1 (by omega) q0); (replace q1 := kp hb1 (by omega) q1); (replace r0 := kp hb1 (by omega) r0); (replace r1 := kp hb1 (by omega) r1); (replace u0 := kp hb1 (by omega) u0); (replace u1 := kp hb1 (by omega) u1); (replace z0 := kp hb1 (by omega) z0); (replace z1 := kp hb1 (by omega) z1); (replace s0 := kf hb1 (by omega) s0); (replace s1 := kf hb1 (by omega) s1)
    go_wp2_with (fail)
    go_at_call 66
    refine Calls.mono (c_sMul c1 c2 d1 d2 _) ?_
    rw [← HRQ.out]
    rintro e w2 ⟨rfl, hb2⟩
    have hs2 := hb2.size
    try simp only [World.size_alloc, World.drew_heap, World.size_setCell] at hs2
    have y2_0 : w.heap.size < w2.heap.size := by omega
    have y2_1 : w.heap.size + 1 < w2.heap.size := by omega
    have y2_2 : w.heap.size + 1 + 1 < w2.heap.size := by omega
    have y2_3 : w.heap.size + 1 + 1 + 1 < w2.heap.size := by omega
    have y2_4 : w.heap.size + 1 + 1 + 1 + 1 < w2.heap.size := by omega
    try (have x2_1 : w1.heap.size < w2.heap.size := by omega)
    (replace p0 := kp1 hb2 (by omega) p0); (replace p1 := kp1 hb2 (by omega) p1); (replace q0 := kp1 hb2 (by omega) q0); (replace q1 := kp1 hb2 (by omega) q1); (replace r0 := kp1 hb2 (by omega) r0); (replace r1 := kp1 hb2 (by omega) r1); (replace u0 := kp1 hb2 (by omega) u0); (replace u1 := kp1 hb2 (by omega) u1); (replace z0 := kp1 hb2 (by omega) z0); (replace z1 := kp1 hb2 (by omega) z1); (replace s0 := kf1 hb2 (by omega) s0); (replace s1 := kf1 hb2 (by omega) s1)
    have g0 : w2.cell? ⟨w1.heap.size, 0, none⟩ = some (.int .i64 rp.1) := (kn hb2 0).trans rfl
    have g1 : w2.cell? ⟨w1.heap.size, 1, none⟩ = some (.int .i64 rp.2.1) := (kn hb2 1).trans rfl
    go_wp2_with (fail)
    go_at_call 123
    refine Calls.mono (c_first2 _ _ rp.2.2 rq.2.2 _ (by simp [go_sem]) (by simp [go_sem])) ?_
    rw [← HEM.out]
    rintro e w3 ⟨rfl, rfl⟩
    go_wp2_with (fail)
    go_at_call 60
    refine Calls.mono (c_sSub rp.1 rp.2.1 rq.1 rq.2.1 _) ?_
    rw [← HRD.out]
    rintro e w3 ⟨rfl, hb3⟩
    have hs3 := hb3.size
    try simp only [World.size_alloc, World.drew_heap, World.size_setCell] at hs3
    have y3_0 : w.heap.size < w3.heap.size := by omega
    have y3_1 : w.heap.size + 1 < w3.heap.size := by omega
    have y3_2 : w.heap.size + 1 + 1 < w3.heap.size := by omega
    have y3_3 : w.heap.size + 1 + 1 + 1 < w3.heap.size := by omega
    have y3_4 : w.heap.size + 1 + 1 + 1 + 1 < w3.heap.size := by omega
    try (have x3_1 : w1.heap.size < w3.heap.size := by omega)
    try (have x3_2 : w2.heap.size < w3.heap.size := by omega)
    (replace p0 := kp2 hb3 (by omega) p0); (replace p1 := kp2 hb3 (by omega) p1); (replace q0 := kp2 hb3 (by omega) q0); (replace q1 := kp2 hb3 (by omega) q1); (replace r0 := kp2 hb3 (by omega) r0); (replace r1 := kp2 hb3 (by omega) r1); (replace u0 := kp2 hb3 (by omega) u0); (replace u1 := kp2 hb3 (by omega) u1); (replace z0 := kp2 hb3 (by omega) z0); (replace z1 := kp2 hb3 (by omega) z1); (replace g0 := kp2 hb3 (by omega) g0); (replace g1 := kp2 hb3 (by omega) g1); (replace s0 := kf2 hb3 (by omega) s0); (replace s1 := kf2 hb3 (by omega) s1)
    go_wp2
    have HB := hB.out
    refine bodyPost_ret (v := .tuple #[.agg #[.int .i64 rd.1, .int .i64 rd.2.1], .int .i64 rd.2.2]) (by simp [results, Tryz.results71, go_sem, *]) rfl ⟨rfl, by (repeat' (first | (with_reducible exact Below.refl _ _) | (with_reducible refine Below.setCell ?_ ?_ _) | (with_reducible refine Below.alloc ?_ ?_ _) | (with_reducible refine Below.drew ?_) | (with_reducible refine below_drewN ?_ _) | (with_reducible assumption) | (with_reducible refine Below.trans ?_ (Below.mono (by with_reducible assumption) ?_)) | omega | (simp; done) | (simp; omega) | (simp [World.setCell]; omega)))⟩

  · have v : Hid (rLess rp rq = (0, 0, em)) := by unfold Hid; rw [q, if_pos h0]
    have d0 : (em != 0) = true := by simp [h0]
    rw [v.out]
    clear q h0
    have HRP := Lib.hid hrp; clear hrp
    have HRQ := Lib.hid hrq; clear hrq
    have HRD := Lib.hid hrd; clear hrd
    have HEM := Lib.hid hem; clear hem
    obtain ⟨W, hW⟩ : ∃ W, W = ((((w.alloc (Obj.cells #[Value.int IntKind.i64 a1, Value.int IntKind.i64 a2] 23)).alloc (Obj.cells #[Value.int IntKind.i64 b1, Value.int IntKind.i64 b2] 23)).alloc (Obj.cells #[Value.int IntKind.i64 c1, Value.int IntKind.i64 c2] 23)).alloc (Obj.cells #[Value.int IntKind.i64 d1, Value.int IntKind.i64 d2] 23)).alloc (Obj.cells #[Value.int IntKind.i64 0, Value.int IntKind.i64 0] 23) := ⟨_, rfl⟩
    have hsW : w.heap.size + 1 + 1 + 1 + 1 < W.heap.size := by rw [hW]; simp
    have hB : Hid (Below w.heap.size w W) := by rw [hW]; unfold Hid; (repeat' (first | (with_reducible exact Below.refl _ _) | (with_reducible refine Below.setCell ?_ ?_ _) | (with_reducible refine Below.alloc ?_ ?_ _) | (with_reducible refine Below.drew ?_) | (with_reducible refine below_drewN ?_ _) | (with_reducible assumption) | (with_reducible refine Below.trans ?_ (Below.mono (by with_reducible assumption) ?_)) | omega | (simp; done) | (simp; omega) | (simp [World.setCell]; omega)))
    have p0 : W.cell? ⟨w.heap.size, 0, none⟩ = some (.int .i64 a1) := by rw [hW]; simp [go_sem]
    have p1 : W.cell? ⟨w.heap.size, 1, none⟩ = some (.int .i64 a2) := by rw [hW]; simp [go_sem]
    have q0 : W.cell? ⟨w.heap.size + 1, 0, none⟩ = some (.int .i64 b1) := by rw [hW]; simp [go_sem]
    have q1 : W.cell? ⟨w.heap.size + 1, 1, none⟩ = some (.int .i64 b2) := by rw [hW]; simp [go_sem]
    have r0 : W.cell? ⟨w.heap.size + 1 + 1, 0, none⟩ = some (.int .i64 c1) := by rw [hW]; simp [go_sem]
    have r1 : W.cell? ⟨w.heap.size + 1 + 1, 1, none⟩ = some (.int .i64 c2) := by rw [hW]; simp [go_sem]
    have u0 : W.cell? ⟨w.heap.size + 1 + 1 + 1, 0, none⟩ = some (.int .i64 d1) := by rw [hW]; simp [go_sem]
    have u1 : W.cell? ⟨w.heap.size + 1 + 1 + 1, 1, none⟩ = some (.int .i64 d2) := by rw [hW]; simp [go_sem]
    have z0 : W.cell? ⟨w.heap.size + 1 + 1 + 1 + 1, 0, none⟩ = some (.int .i64 0) := by rw [hW]; simp [go_sem]
    have z1 : W.cell? ⟨w.heap.size + 1 + 1 + 1 + 1, 1, none⟩ = some (.int .i64 0) := by rw [hW]; simp [go_sem]
    have s0 : W.frozen? ⟨w.heap.size + 1 + 1 + 1 + 1, 0, none⟩ = false := by rw [hW]; simp [go_sem]
    have s1 : W.frozen? ⟨w.heap.size + 1 + 1 + 1 + 1, 1, none⟩ = false := by rw [hW]; simp [go_sem]
    go_enter Tryz.func71, Tryz.ntmps71
    go_wp2_with (fail)
    rw [← hW]; clear hW
    go_wp2_with (fail)
    go_at_call 66
    refine Calls.mono (c_sMul a1 a2 b1 b2 _) ?_
    rw [← HRP.out]
    rintro e w1 ⟨rfl, hb1⟩
    have hs1 := hb1.size
    try simp only [World.size_alloc, World.drew_heap, World.size_setCell] at hs1
    have y1_0 : w.heap.size < w1.heap.size := by omega
    have y1_1 : w.heap.size + 1 < w1.heap.size := by omega
    have y1_2 : w.heap.size + 1 + 1 < w1.heap.size := by omega
    have y1_3 : w.heap.size + 1 + 1 + 1 < w1.heap.size := by omega
    have y1_4 : w.heap.size + 1 + 1 + 1 + 1 < w1.heap.size := by omega
    (replace p0 := kp hb1 (by omega) p0); (replace p1 := kp hb1 (by omega) p1); (replace q0 := kp hb1 (by omega) q0); (replace q1 := kp hb1 (by omega) q1); (replace r0 := kp hb1 (by omega) r0); (replace r1 := kp hb1 (by omega) r1); (replace u0 := kp hb1 (by omega) u0); (replace u1 := kp hb1 (by omega) u1); (replace z0 := kp hb1 (by omega) z0); (replace z1 := kp hb1 (by omega) z1); (replace s0 := kf hb1 (by omega) s0); (replace s1 := kf hb1 (by omega) s1)
    go_wp2_with (fail)
    go_at_call 66
    refine Calls.mono (c_sMul c1 c2 d1 d2 _) ?_
    rw [← HRQ.out]
    rintro e w2 ⟨rfl, hb2⟩
    have hs2 := hb2.size
    try simp only [World.size_alloc, World.drew_heap, World.size_setCell] at hs2
    have y2_0 : w.heap.size < w2.heap.size := by omega
    have y2_1 : w.heap.size + 1 < w2.heap.size := by omega
    have y2_2 : w.heap.size + 1 + 1 < w2.heap.size := by omega
    have y2_3 : w.heap.size + 1 + 1 + 1 < w2.heap.size := by omega
    have y2_4 : w.heap.size + 1 + 1 + 1 + 1 < w2.heap.size := by omega
    try (have x2_1 : w1.heap.size < w2.heap.size := by omega)
    (replace p0 := kp1 hb2 (by omega) p0); (replace p1 := kp1 hb2 (by omega) p1); (replace q0 := kp1 hb2 (by omega) q0); (replace q1 := kp1 hb2 (by omega) q1); (replace r0 := kp1 hb2 (by omega) r0); (replace r1 := kp1 hb2 (by omega) r1); (replace u0 := kp1 hb2 (by omega) u0); (replace u1 := kp1 hb2 (by omega) u1); (replace z0 := kp1 hb2 (by omega) z0); (replace z1 := kp1 hb2 (by omega) z1); (replace s0 := kf1 hb2 (by omega) s0); (replace s1 := kf1 hb2 (by omega) s1)
    have g0 : w2.cell? ⟨w1.heap.size, 0, none⟩ = some (.int .i64 rp.1) := (kn hb2 0).trans rfl
    have g1 : w2.cell? ⟨w1.heap.size, 1, none⟩ = some (.int .i64 rp.2.1) := (kn hb2 1).trans rfl
    go_wp2_with (fail)
    go_at_call 123
    refine Calls.mono (c_first2 _ _ rp.2.2 rq.2.2 _ (by simp [go_sem]) (by simp [go_sem])) ?_
    rw [← HEM.out]
    rintro e w3 ⟨rfl, rfl⟩
    go_wp2
    have HB := hB.out
    refine bodyPost_ret (v := .tuple #[.agg #[.int .i64 0, .int .i64 0], .int .i64 em]) (by simp [results, Tryz.results71, go_sem, *]) rfl ⟨rfl, by (repeat' (first | (with_reducible exact Below.refl _ _) | (with_reducible refine Below.setCell ?_ ?_ _) | (with_reducible refine Below.alloc ?_ ?_ _) | (with_reducible refine Below.drew ?_) | (with_reducible refine below_drewN ?_ _) | (with_reducible assumption) | (with_reducible refine Below.trans ?_ (Below.mono (by with_reducible assumption) ?_)) | omega | (simp; done) | (simp; omega) | (simp [World.setCell]; omega)))⟩


end Go.Proofs.YtpdaigenffecmaaGreat

namespace Go.Proofs.YtpdaigenffecmaaGreat
open Go.RowKit

/-- The cells of n numbers. -/
def cellsI (f : Nat → Nat) (n : Nat) : List Value := (List.range n).map fun j => Value.int .i64 ((f j : Nat) : Int)
theorem cellsI_length (f : Nat → Nat) (n : Nat) : (cellsI f n).length = n := by simp [cellsI]
theorem cellsI_get (f : Nat → Nat) (n j : Nat) (h : j < n) : (cellsI f n)[j]? = some (Value.int .i64 ((f j : Nat) : Int)) := by simp [cellsI, h]
theorem cellsI_snoc (f : Nat → Nat) (n : Nat) : cellsI f (n + 1) = cellsI f n ++ [Value.int .i64 ((f n : Nat) : Int)] := by simp [cellsI, List.range_succ]
theorem cellsI_set (f : Nat → Nat) (n k u : Nat) (hk : k < n) : (cellsI f n).set k (Value.int .i64 ((u : Nat) : Int)) = cellsI (upd f k u) n := by
  apply List.ext_getElem?
  intro j
  by_cases hj : j < n
  · rw [List.getElem?_set]
    by_cases e : k = j
    · subst e; rw [if_pos rfl, if_pos (by rw [cellsI_length]; exact hk), cellsI_get _ _ _ hk]; simp [upd]
    · rw [if_neg e, cellsI_get _ _ _ hj, cellsI_get _ _ _ hj]; unfold upd; rw [if_neg (fun h => e h.symm)]
  · rw [List.getElem?_eq_none (by rw [List.length_set, cellsI_length]; omega), List.getElem?_eq_none (by rw [cellsI_length]; omega)]

theorem info_int : (Tryz.prog.info? 3).map (fun i => (i.zero, i.size, i.bytes)) = some (some (.int .i64 0), 1, 8) := by kernel_rfl
theorem und_ints : Tryz.prog.underlying 195 = some (.slice 3) := by kernel_rfl

set_option maxHeartbeats 1000000 in
theorem c_parts (N : Nat) (w : World) (hN : N ≤ 4503599627370496) :
    Calls Tryz.prog 190 #[.int .i64 (N : Int)] w fun e w' => ∃ v' k, e = .returned v' ∧ w'.ownsRow w.heap.size 3 1 v' k (cellsI (dig N) k) ∧ k ≤ 4 ∧ v16 (dig N) k = N ∧ Below w.heap.size w w' := by
  obtain ⟨i0, hi, hz0, hz1, hz2⟩ := info_parts info_int
  have I := Lib.hid hi; clear hi
  have HB := Lib.hid (Below.refl w.heap.size w)
  go_enter Tryz.func190, Tryz.ntmps190
  go_wp2
  go_loopw [0, 3] (fun n v wr => ∃ (k R : Nat), n = .int .i64 (R : Int) ∧ Hid (R = N / W16 ^ k) ∧ k ≤ 4 ∧ R ≤ 4503599627370496 ∧ wr.ownsRow w.heap.size 3 1 v k (cellsI (dig N) k) ∧ Below w.heap.size w wr) (fun n _ _ => (intOf n).toNat)
  case atStart => exact ⟨0, N, rfl, by unfold Hid; simp, by omega, hN, World.ownsRow_nil _ _ _ _, HB.out⟩
  case round =>
    obtain ⟨k, R, rfl, hR, hk, hRb, hown, hbe⟩ := hrel
    have HR := Lib.hid hown; clear hown
    have HE := Lib.hid hbe; clear hbe
    rcases Nat.eq_zero_or_pos R with h0 | h0
    · subst h0
      have hv : Hid (v16 (dig N) k = N) := by
        unfold Hid; rw [v16_dig]
        have h1 := hR.out
        have hp : 0 < W16 ^ k := Nat.pow_pos (by decide)
        have := Nat.div_add_mod N (W16 ^ k)
        rw [← h1] at this; omega
      go_wp2
      go_ret
      exact ⟨_, k, rfl, HR.out, hk, hv.out, HE.out⟩
    · have t1 : decide ((0 : Int) < (R : Int)) = true := by (simp <;> omega)
      have hk4 : k < 4 := by
        rcases Nat.lt_or_ge k 4 with h | h
        · exact h
        · exfalso
          have : k = 4 := by omega
          have h1 := hR.out
          rw [this, Nat.div_eq_of_lt (by simp only [W16]; omega)] at h1
          omega
      obtain ⟨d, hd⟩ : ∃ d, d = R % 65536 := ⟨_, rfl⟩
      obtain ⟨q, hq⟩ : ∃ q, q = R / 65536 := ⟨_, rfl⟩
      have e1 : (R : Int) % 65536 = (d : Int) := by omega
      have e2 : (R : Int) / 65536 = (q : Int) := by omega
      have e3 : (R : Int).tmod 65536 = (d : Int) := by rw [Int.tmod_eq_emod_of_nonneg (by omega)]; omega
      have e4 : (R : Int).tdiv 65536 = (q : Int) := by rw [Int.tdiv_eq_ediv_of_nonneg (by omega)]; omega
      have hdd : Hid (dig N k = d) := by unfold Hid dig; rw [← hR.out, hd]
      have hqq : Hid (q = N / W16 ^ (k + 1)) := by unfold Hid; rw [div_of_pow, ← hR.out, hq]
      have hlt : q < R := by omega
      clear hd hq
      have hws : w.heap.size ≤ wr.heap.size := HE.out.size
      go_wp2_with (at_builtin; refine wpList_append_own _ rfl _ _ 195 rfl w.heap.size 3 i0 (.int .i64 0) 1 8 und_ints I.out hz0 hz1 hz2 rfl (by decide) _ _ _ rfl (HR.out.alloc _) ⟨wr.heap.size, 0, none⟩ 1 1 [.int .i64 (d : Int)] rfl ?qc1 ?qc2 ?qc3 ?qc4 ?qc5 ?qc6 ?_)
      case qc1 => rfl
      case qc2 =>
        intro j u hj
        match j, hj with
        | 0, hj => simp at hj; subst hj; simp [Addr.add]
      case qc3 => intro u hu; simp at hu; subst hu; rfl
      case qc4 => unfold maxLen; omega
      case qc5 => omega
      case qc6 => simp; omega
      intro v' w2 hown' hgrow _
      have HO := Lib.hid hown'
      have HG := Lib.hid hgrow
      clear hown' hgrow
      go_wp2
      go_roundw
      case rel => exact ⟨k + 1, q, by simp, hqq, hk4, by omega, by rw [cellsI_snoc, hdd.out]; exact HO.out, (HE.out.alloc hws _).grown HG.out (by simp; omega) (by intro x hx; exact (HR.out.lt x hx).1)⟩
      case measure => simp [intOf]; omega

end Go.Proofs.YtpdaigenffecmaaGreat

namespace Go.Proofs.YtpdaigenffecmaaGreat
open Go.RowKit Go.Shelf

set_option maxHeartbeats 400000 in
theorem c_alike (a b : Int) (w : World) :
    Calls Tryz.prog 63 #[.agg #[.int .i64 a, .int .i64 b]] w fun e w' => e = .returned (.agg #[.int .i64 a, .int .i64 b, .int .i64 a, .int .i64 b, .int .i64 a, .int .i64 b]) ∧ Below w.heap.size w w' := by
  go_enter Tryz.func63, Tryz.ntmps63
  go_wp2
  refine bodyPost_ret (v := .agg #[.int .i64 a, .int .i64 b, .int .i64 a, .int .i64 b, .int .i64 a, .int .i64 b]) (by simp [results, Tryz.results63, go_sem, *]) rfl ⟨rfl, by (repeat' (first | (with_reducible exact Below.refl _ _) | assumption | (with_reducible refine Below.setCell ?_ ?_ _) | (with_reducible refine Below.alloc ?_ ?_ _) | (with_reducible refine Below.drew ?_) | (with_reducible refine below_drewN ?_ _) | (with_reducible refine Below.trans ?_ (Below.mono (by assumption) ?_)) | omega | (simp; done) | (simp; omega) | (simp [World.setCell]; omega)))⟩

set_option maxHeartbeats 400000 in
theorem c_turned (x0 x1 x2 x3 x4 x5 : Int) (w : World) :
    Calls Tryz.prog 70 #[.agg #[.int .i64 x0, .int .i64 x1, .int .i64 x2, .int .i64 x3, .int .i64 x4, .int .i64 x5]] w fun e w' => e = .returned (.agg #[.int .i64 x2, .int .i64 x3, .int .i64 x4, .int .i64 x5, .int .i64 x0, .int .i64 x1]) ∧ Below w.heap.size w w' := by
  go_enter Tryz.func70, Tryz.ntmps70
  go_wp2
  refine bodyPost_ret (v := .agg #[.int .i64 x2, .int .i64 x3, .int .i64 x4, .int .i64 x5, .int .i64 x0, .int .i64 x1]) (by simp [results, Tryz.results70, go_sem, *]) rfl ⟨rfl, by (repeat' (first | (with_reducible exact Below.refl _ _) | assumption | (with_reducible refine Below.setCell ?_ ?_ _) | (with_reducible refine Below.alloc ?_ ?_ _) | (with_reducible refine Below.drew ?_) | (with_reducible refine below_drewN ?_ _) | (with_reducible refine Below.trans ?_ (Below.mono (by assumption) ?_)) | omega | (simp; done) | (simp; omega) | (simp [World.setCell]; omega)))⟩

set_option maxHeartbeats 400000 in
theorem c_toldV_ok (p : Nat) (x0 x1 x2 x3 x4 x5 : Int) (w : World) (hp : p < w.heap.size) (hc : w.cell? ⟨p, 0, none⟩ = some (.int .i64 0)) :
    Calls Tryz.prog 53 #[.pointer (some ⟨p, 0, none⟩), .agg #[.int .i64 x0, .int .i64 x1, .int .i64 x2, .int .i64 x3, .int .i64 x4, .int .i64 x5]] w fun e w' => e = .returned (.tuple #[.agg #[.int .i64 x0, .int .i64 x1, .int .i64 x2, .int .i64 x3, .int .i64 x4, .int .i64 x5], .int .i64 0]) ∧ Below w.heap.size w w' := by
  go_enter Tryz.func53, Tryz.ntmps53
  go_wp2
  refine bodyPost_ret (v := .tuple #[.agg #[.int .i64 x0, .int .i64 x1, .int .i64 x2, .int .i64 x3, .int .i64 x4, .int .i64 x5], .int .i64 0]) (by simp [results, Tryz.results53, go_sem, *]) rfl ⟨rfl, by (repeat' (first | (with_reducible exact Below.refl _ _) | assumption | (with_reducible refine Below.setCell ?_ ?_ _) | (with_reducible refine Below.alloc ?_ ?_ _) | (with_reducible refine Below.drew ?_) | (with_reducible refine below_drewN ?_ _) | (with_reducible refine Below.trans ?_ (Below.mono (by assumption) ?_)) | omega | (simp; done) | (simp; omega) | (simp [World.setCell]; omega)))⟩

set_option maxHeartbeats 400000 in
theorem c_toldS_ok (p : Nat) (a b : Int) (w : World) (hp : p < w.heap.size) (hc : w.cell? ⟨p, 0, none⟩ = some (.int .i64 0)) :
    Calls Tryz.prog 67 #[.pointer (some ⟨p, 0, none⟩), .agg #[.int .i64 a, .int .i64 b]] w fun e w' => e = .returned (.tuple #[.agg #[.int .i64 a, .int .i64 b], .int .i64 0]) ∧ Below w.heap.size w w' := by
  go_enter Tryz.func67, Tryz.ntmps67
  go_wp2
  refine bodyPost_ret (v := .tuple #[.agg #[.int .i64 a, .int .i64 b], .int .i64 0]) (by simp [results, Tryz.results67, go_sem, *]) rfl ⟨rfl, by (repeat' (first | (with_reducible exact Below.refl _ _) | assumption | (with_reducible refine Below.setCell ?_ ?_ _) | (with_reducible refine Below.alloc ?_ ?_ _) | (with_reducible refine Below.drew ?_) | (with_reducible refine below_drewN ?_ _) | (with_reducible refine Below.trans ?_ (Below.mono (by assumption) ?_)) | omega | (simp; done) | (simp; omega) | (simp [World.setCell]; omega)))⟩

end Go.Proofs.YtpdaigenffecmaaGreat
