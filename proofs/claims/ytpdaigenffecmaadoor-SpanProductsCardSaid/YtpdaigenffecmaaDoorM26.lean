/-
  The walk of the reference's product of intervals.
-/
import Derived.Test.YtpdaigenffecmaaDoorM25
set_option linter.all false
namespace Go.Proofs.YtpdaigenffecmaaDoor
open Go.RowKit Go.Shelf

set_option maxHeartbeats 1000000 in
theorem c_sMulBad (al ah bl bh : Int) (w : World) (h : spChk (al, ah) ≠ 0 ∨ spChk (bl, bh) ≠ 0) :
    Calls Tryd.prog 31 #[.agg #[.int .i64 al, .int .i64 ah], .agg #[.int .i64 bl, .int .i64 bh]] w fun e w' => e = .returned (.tuple #[.agg #[.int .i64 0, .int .i64 0], .int .i64 20]) ∧ Below w.heap.size w w' := by
  by_cases ha : spChk (al, ah) = 0
  · have hb : spChk (bl, bh) ≠ 0 := by omega
    have ea : Hid (decide (spChk (al, ah) = 0) = true) := decide_eq_true ha
    have eb : Hid (decide (spChk (bl, bh) = 0) = false) := decide_eq_false hb
    clear ha hb h
    go_enter Tryd.func31, Tryd.ntmps31
    go_wp2_with (first | (go_at_call 65; refine (c_sRight _ _ _).mono ?_; (first | rw [ea.out] | rw [eb.out]); rintro e w1 ⟨rfl, hb1⟩; (obtain ⟨hc1, hf1⟩ := bcell hb1; have hs1 := hb1.size; (try simp only [World.size_alloc, World.drew_heap, World.heap_drewN, World.size_setCell] at hs1); try (have z1_0 : w.heap.size < w1.heap.size := (by omega)); try (have z1_1 : w.heap.size + 1 < w1.heap.size := (by omega)); try (have z1_2 : w.heap.size + 1 + 1 < w1.heap.size := (by omega)); try (have z1_3 : w.heap.size + 1 + 1 + 1 < w1.heap.size := (by omega)); try (have z1_4 : w.heap.size + 1 + 1 + 1 + 1 < w1.heap.size := (by omega)); try (have z1_5 : w.heap.size + 1 + 1 + 1 + 1 + 1 < w1.heap.size := (by omega)))))
    refine bodyPost_ret (v := .tuple #[.agg #[.int .i64 0, .int .i64 0], .int .i64 20]) (by simp [results, Tryd.results31, go_sem, *]) rfl ⟨rfl, by (repeat' (first | (with_reducible exact Below.refl _ _) | assumption | (with_reducible refine Below.setCell ?_ ?_ _) | (with_reducible refine Below.alloc ?_ ?_ _) | (with_reducible refine Below.drew ?_) | (with_reducible refine below_drewN ?_ _) | (with_reducible refine Below.trans ?_ (Below.mono (by assumption) ?_)) | omega | (simp; done) | (simp; omega) | (simp [World.setCell]; omega)))⟩
  · have ea : Hid (decide (spChk (al, ah) = 0) = false) := decide_eq_false ha
    clear ha h
    go_enter Tryd.func31, Tryd.ntmps31
    go_wp2_with (first | (go_at_call 65; refine (c_sRight _ _ _).mono ?_; rw [ea.out]; rintro e w1 ⟨rfl, hb1⟩; (obtain ⟨hc1, hf1⟩ := bcell hb1; have hs1 := hb1.size; (try simp only [World.size_alloc, World.drew_heap, World.heap_drewN, World.size_setCell] at hs1); try (have z1_0 : w.heap.size < w1.heap.size := (by omega)); try (have z1_1 : w.heap.size + 1 < w1.heap.size := (by omega)); try (have z1_2 : w.heap.size + 1 + 1 < w1.heap.size := (by omega)); try (have z1_3 : w.heap.size + 1 + 1 + 1 < w1.heap.size := (by omega)); try (have z1_4 : w.heap.size + 1 + 1 + 1 + 1 < w1.heap.size := (by omega)); try (have z1_5 : w.heap.size + 1 + 1 + 1 + 1 + 1 < w1.heap.size := (by omega)))))
    refine bodyPost_ret (v := .tuple #[.agg #[.int .i64 0, .int .i64 0], .int .i64 20]) (by simp [results, Tryd.results31, go_sem, *]) rfl ⟨rfl, by (repeat' (first | (with_reducible exact Below.refl _ _) | assumption | (with_reducible refine Below.setCell ?_ ?_ _) | (with_reducible refine Below.alloc ?_ ?_ _) | (with_reducible refine Below.drew ?_) | (with_reducible refine below_drewN ?_ _) | (with_reducible refine Below.trans ?_ (Below.mono (by assumption) ?_)) | omega | (simp; done) | (simp; omega) | (simp [World.setCell]; omega)))⟩


set_option maxHeartbeats 2000000 in
theorem c_sMulOk (al ah bl bh : Int) (w : World) (ha : spChk (al, ah) = 0) (hb : spChk (bl, bh) = 0) :
    Calls Tryd.prog 31 #[.agg #[.int .i64 al, .int .i64 ah], .agg #[.int .i64 bl, .int .i64 bh]] w fun e w' => e = .returned (.tuple #[.agg #[.int .i64 (spMul (al, ah) (bl, bh)).1, .int .i64 (spMul (al, ah) (bl, bh)).2.1], .int .i64 (spMul (al, ah) (bl, bh)).2.2]) ∧ Below w.heap.size w w' := by
  have hs : Hid (_ = _) := spMul_ref al ah bl bh ha hb
  obtain ⟨a1, a2, _⟩ := (spChk_parts al ah).1 ha
  obtain ⟨b1, b2, b3⟩ := (spChk_parts bl bh).1 hb
  have ea : Hid (decide (spChk (al, ah) = 0) = true) := decide_eq_true ha
  have eb : Hid (decide (spChk (bl, bh) = 0) = true) := decide_eq_true hb
  have HA1 := Lib.hid a1
  have HA2 := Lib.hid a2
  have HB1 := Lib.hid b1
  have HB2 := Lib.hid b2
  clear ha hb a1 a2 b1 b2
  go_enter Tryd.func31, Tryd.ntmps31
  go_wp2_with (first | (go_at_call 65; refine (c_sRight _ _ _).mono ?_; (first | rw [ea.out] | rw [eb.out]); rintro e w1 ⟨rfl, hb1⟩; (obtain ⟨hc1, hf1⟩ := bcell hb1; have hs1 := hb1.size; (try simp only [World.size_alloc, World.drew_heap, World.heap_drewN, World.size_setCell] at hs1); try (have z1_0 : w.heap.size < w1.heap.size := (by omega)); try (have z1_1 : w.heap.size + 1 < w1.heap.size := (by omega)); try (have z1_2 : w.heap.size + 1 + 1 < w1.heap.size := (by omega)); try (have z1_3 : w.heap.size + 1 + 1 + 1 < w1.heap.size := (by omega)); try (have z1_4 : w.heap.size + 1 + 1 + 1 + 1 < w1.heap.size := (by omega)); try (have z1_5 : w.heap.size + 1 + 1 + 1 + 1 + 1 < w1.heap.size := (by omega))); (have q0 : w1.cell? ⟨w.heap.size, 0, none⟩ = some (.int .i64 al) := by simp [go_sem, *]); (have q1 : w1.cell? ⟨w.heap.size, 1, none⟩ = some (.int .i64 ah) := by simp [go_sem, *]); (have q2 : w1.cell? ⟨w.heap.size + 1, 0, none⟩ = some (.int .i64 bl) := by simp [go_sem, *]); (have q3 : w1.cell? ⟨w.heap.size + 1, 1, none⟩ = some (.int .i64 bh) := by simp [go_sem, *]); (have q4 : w1.cell? ⟨w.heap.size + 1 + 1, 0, none⟩ = some (.int .i64 0) := by simp [go_sem, *]); (have q5 : w1.cell? ⟨w.heap.size + 1 + 1, 1, none⟩ = some (.int .i64 0) := by simp [go_sem, *]); (have f4 : w1.frozen? ⟨w.heap.size + 1 + 1, 0, none⟩ = false := by simp [go_sem, *]); (have f5 : w1.frozen? ⟨w.heap.size + 1 + 1, 1, none⟩ = false := by simp [go_sem, *]); clear hc1 hf1))
  go_region_held3 (fun w' => w'.cell? ⟨w.heap.size, 0, none⟩ = some (.int .i64 al) ∧ w'.cell? ⟨w.heap.size, 1, none⟩ = some (.int .i64 ah) ∧ w'.cell? ⟨w.heap.size + 1, 0, none⟩ = some (.int .i64 bl) ∧ w'.cell? ⟨w.heap.size + 1, 1, none⟩ = some (.int .i64 bh)) (go_keep) (fail)
  all_goals go_wp2
  · go_loopw [10, 11] (fun ft i wr => ∃ k : Nat, k ≤ 4 ∧ ft = .bool (fitTo (fun j => (rMul (cx al ah j) (cy bl bh j) false).2) (fun j => (rMul (cx al ah j) (cy bl bh j) true).2) k) ∧ i = .int .i64 (k : Int) ∧ Hid (TabAt wr (w1.heap.size) (cx al ah)) ∧ Hid (TabAt wr (w1.heap.size + 1) (cy bl bh)) ∧
        Hid (TabAt wr (w1.heap.size + 1 + 1) (upto (fun j => (rMul (cx al ah j) (cy bl bh j) false).1) k)) ∧ Hid (TabAt wr (w1.heap.size + 1 + 1 + 1) (upto (fun j => (rMul (cx al ah j) (cy bl bh j) true).1) k)) ∧ Hid (Soft wr (w1.heap.size + 1 + 1)) ∧ Hid (Soft wr (w1.heap.size + 1 + 1 + 1)) ∧ Hid (Below w1.heap.size w1 wr) ∧ w1.heap.size + 1 + 1 + 1 < wr.heap.size) (fun _ i _ => 4 - (intOf i).toNat)
    case atStart =>
      refine ⟨0, by omega, rfl, rfl, ?_, ?_, ?_, ?_, ?_, ?_, ?_, ?_⟩
      · intro j hj; rcases (by omega : j = 0 ∨ j = 1 ∨ j = 2 ∨ j = 3) with rfl | rfl | rfl | rfl <;> simp [go_sem, cx]
      · intro j hj; rcases (by omega : j = 0 ∨ j = 1 ∨ j = 2 ∨ j = 3) with rfl | rfl | rfl | rfl <;> simp [go_sem, cy]
      · intro j hj; rcases (by omega : j = 0 ∨ j = 1 ∨ j = 2 ∨ j = 3) with rfl | rfl | rfl | rfl <;> simp [go_sem, upto]
      · intro j hj; rcases (by omega : j = 0 ∨ j = 1 ∨ j = 2 ∨ j = 3) with rfl | rfl | rfl | rfl <;> simp [go_sem, upto]
      · intro j; simp [go_sem]
      · intro j; simp [go_sem]
      · unfold Hid; (repeat' (first | (with_reducible exact Below.refl _ _) | assumption | (with_reducible refine Below.setCell ?_ ?_ _) | (with_reducible refine Below.alloc ?_ ?_ _) | (with_reducible refine Below.drew ?_) | (with_reducible refine below_drewN ?_ _) | (with_reducible refine Below.trans ?_ (Below.mono (by assumption) ?_)) | omega | (simp; done) | (simp; omega) | (simp [World.setCell]; omega)))
      · simp [go_sem]
    case round =>
      obtain ⟨k, hk, rfl, rfl, hx, hy, hl, hh, sl, sh, hbe, hsz⟩ := hrel
      obtain ⟨b0, hb0⟩ : ∃ b0, b0 = fitTo (fun j => (rMul (cx al ah j) (cy bl bh j) false).2) (fun j => (rMul (cx al ah j) (cy bl bh j) true).2) k := ⟨_, rfl⟩
      rw [← hb0]
      rcases Nat.lt_or_ge k 4 with hlt | hge
      · have k1 : (0 : Int) ≤ (k : Int) := by omega
        have k2 : (k : Int) < 4 := by omega
        have t0 : decide ((k : Int) < 4) = true := by (simp <;> omega)
        obtain ⟨X, hX⟩ : ∃ X, X = cx al ah k := ⟨_, rfl⟩
        obtain ⟨Y, hY⟩ : ∃ Y, Y = cy bl bh k := ⟨_, rfl⟩
        have okX : Hid (fxChk X = 0) := by rw [hX]; exact cx_ok al ah k HA1.out HA2.out
        have okY : Hid (fxChk Y = 0) := by rw [hY]; exact cy_ok bl bh k HB1.out HB2.out
        have c1 : wr.cell? ⟨w1.heap.size, k, none⟩ = some (.int .i64 X) := by rw [hX]; exact hx.out k hlt
        have c2 : wr.cell? ⟨w1.heap.size + 1, k, none⟩ = some (.int .i64 Y) := by rw [hY]; exact hy.out k hlt
        have c3 : wr.cell? ⟨w1.heap.size + 1 + 1, k, none⟩ = some (.int .i64 0) := by rw [hl.out k hlt]; simp [upto]
        have c4 : wr.cell? ⟨w1.heap.size + 1 + 1 + 1, k, none⟩ = some (.int .i64 0) := by rw [hh.out k hlt]; simp [upto]
        have c5 : wr.frozen? ⟨w1.heap.size + 1 + 1, k, none⟩ = false := sl.out k
        have c6 : wr.frozen? ⟨w1.heap.size + 1 + 1 + 1, k, none⟩ = false := sh.out k
        obtain ⟨o1, ho1⟩ : ∃ o1, o1 = rMul X Y false := ⟨_, rfl⟩
        obtain ⟨o2, ho2⟩ : ∃ o2, o2 = rMul X Y true := ⟨_, rfl⟩
        obtain ⟨l, okl⟩ := o1
        obtain ⟨h, okh⟩ := o2
        have g1 : Hid ((rMul (cx al ah k) (cy bl bh k) false) = (l, okl)) := by rw [← hX, ← hY]; exact ho1.symm
        have g2 : Hid ((rMul (cx al ah k) (cy bl bh k) true) = (h, okh)) := by rw [← hX, ← hY]; exact ho2.symm
        have HO1 := Lib.hid ho1; clear ho1
        have HO2 := Lib.hid ho2; clear ho2
        have g0 : Hid (fitTo (fun j => (rMul (cx al ah j) (cy bl bh j) false).2) (fun j => (rMul (cx al ah j) (cy bl bh j) true).2) (k + 1) = ((b0 && okl) && okh)) := by
          show ((_ && _) && _) = _
          rw [← hb0]; simp only [g1.out, g2.out]
        have HB0 := Lib.hid hb0; clear hb0
        clear hX hY
        rcases Bool.eq_false_or_eq_true b0 with e0 | e0
        rcases Bool.eq_false_or_eq_true okl with e1 | e1
        all_goals (try subst e0)
        all_goals (try subst e1)
        all_goals go_wp2_with (go_region_held3 (fun w' => w'.cell? ⟨w1.heap.size, k, none⟩ = some (.int .i64 X) ∧ w'.cell? ⟨w1.heap.size + 1, k, none⟩ = some (.int .i64 Y)) (go_keep) (first | (go_at_call 74; refine (c_rMul _ _ _ _ okX.out okY.out).mono ?_; (first | rw [← HO1.out] | rw [← HO2.out]); rintro e w2 ⟨rfl, rfl⟩)))
        all_goals go_roundw
        all_goals first
          | (simp [intOf]; done)
          | (simp [intOf]; omega)
          | (refine ⟨k + 1, hlt, by rw [g0.out]; simp, by simp, ?_, ?_, ?_, ?_, ?_, ?_, ?_, ?_⟩
             · exact ((hx.out.other _ _ (by (simp <;> omega))).other _ _ (by (simp <;> omega)))
             · exact ((hy.out.other _ _ (by (simp <;> omega))).other _ _ (by (simp <;> omega)))
             · exact (((hl.out.set k l hlt).other _ _ (by (simp <;> omega))).congr (fun j _ => by have := congrFun (upto_step (fun j => (rMul (cx al ah j) (cy bl bh j) false).1) k) j; simp only [g1.out] at this; exact this))
             · exact (((hh.out.other _ _ (by (simp <;> omega))).set k h hlt).congr (fun j _ => by have := congrFun (upto_step (fun j => (rMul (cx al ah j) (cy bl bh j) true).1) k) j; simp only [g2.out] at this; exact this))
             · exact ((sl.out.set _ _).set _ _)
             · exact ((sh.out.set _ _).set _ _)
             · have HBE := hbe.out; unfold Hid; (repeat' (first | (with_reducible exact Below.refl _ _) | assumption | (with_reducible refine Below.setCell ?_ ?_ _) | (with_reducible refine Below.alloc ?_ ?_ _) | (with_reducible refine Below.drew ?_) | (with_reducible refine below_drewN ?_ _) | (with_reducible refine Below.trans ?_ (Below.mono (by assumption) ?_)) | omega | (simp; done) | (simp; omega) | (simp [World.setCell]; omega)))
             · simpa using hsz)
      · have hk4 : k = 4 := by omega
        subst hk4
        have d0 : wr.cell? ⟨w1.heap.size + 1 + 1, 0, none⟩ = some (.int .i64 (rMul al bl false).1) := by have := hl.out 0 (by omega); simpa [upto, cx, cy] using this
        have d1 : wr.cell? ⟨w1.heap.size + 1 + 1, 1, none⟩ = some (.int .i64 (rMul al bh false).1) := by have := hl.out 1 (by omega); simpa [upto, cx, cy] using this
        have d2 : wr.cell? ⟨w1.heap.size + 1 + 1, 2, none⟩ = some (.int .i64 (rMul ah bl false).1) := by have := hl.out 2 (by omega); simpa [upto, cx, cy] using this
        have d3 : wr.cell? ⟨w1.heap.size + 1 + 1, 3, none⟩ = some (.int .i64 (rMul ah bh false).1) := by have := hl.out 3 (by omega); simpa [upto, cx, cy] using this
        have e0 : wr.cell? ⟨w1.heap.size + 1 + 1 + 1, 0, none⟩ = some (.int .i64 (rMul al bl true).1) := by have := hh.out 0 (by omega); simpa [upto, cx, cy] using this
        have e1 : wr.cell? ⟨w1.heap.size + 1 + 1 + 1, 1, none⟩ = some (.int .i64 (rMul al bh true).1) := by have := hh.out 1 (by omega); simpa [upto, cx, cy] using this
        have e2 : wr.cell? ⟨w1.heap.size + 1 + 1 + 1, 2, none⟩ = some (.int .i64 (rMul ah bl true).1) := by have := hh.out 2 (by omega); simpa [upto, cx, cy] using this
        have e3 : wr.cell? ⟨w1.heap.size + 1 + 1 + 1, 3, none⟩ = some (.int .i64 (rMul ah bh true).1) := by have := hh.out 3 (by omega); simpa [upto, cx, cy] using this
        have r0 : wr.cell? ⟨w.heap.size + 1 + 1, 0, none⟩ = some (.int .i64 0) := by rw [(bcell hbe.out).1 _ _ z1_2]; exact q4
        have r1 : wr.cell? ⟨w.heap.size + 1 + 1, 1, none⟩ = some (.int .i64 0) := by rw [(bcell hbe.out).1 _ _ z1_2]; exact q5
        have s0 : wr.frozen? ⟨w.heap.size + 1 + 1, 0, none⟩ = false := by rw [(bcell hbe.out).2 _ _ z1_2]; exact f4
        have s1 : wr.frozen? ⟨w.heap.size + 1 + 1, 1, none⟩ = false := by rw [(bcell hbe.out).2 _ _ z1_2]; exact f5
        have hbf : b0 = allFit (rMul al bl false).2 (rMul al bh false).2 (rMul ah bl false).2 (rMul ah bh false).2 (rMul al bl true).2 (rMul al bh true).2 (rMul ah bl true).2 (rMul ah bh true).2 := by rw [hb0]; simp [fitTo, allFit, cx, cy]
        clear hb0
        obtain ⟨L0, hL0⟩ : ∃ x, x = (rMul al bl false).1 := ⟨_, rfl⟩
        obtain ⟨L1, hL1⟩ : ∃ x, x = (rMul al bh false).1 := ⟨_, rfl⟩
        obtain ⟨L2, hL2⟩ : ∃ x, x = (rMul ah bl false).1 := ⟨_, rfl⟩
        obtain ⟨L3, hL3⟩ : ∃ x, x = (rMul ah bh false).1 := ⟨_, rfl⟩
        obtain ⟨H0, hH0⟩ : ∃ x, x = (rMul al bl true).1 := ⟨_, rfl⟩
        obtain ⟨H1, hH1⟩ : ∃ x, x = (rMul al bh true).1 := ⟨_, rfl⟩
        obtain ⟨H2, hH2⟩ : ∃ x, x = (rMul ah bl true).1 := ⟨_, rfl⟩
        obtain ⟨H3, hH3⟩ : ∃ x, x = (rMul ah bh true).1 := ⟨_, rfl⟩
        have hs2 := hs.out
        rw [← hbf, ← hL0, ← hL1, ← hL2, ← hL3, ← hH0, ← hH1, ← hH2, ← hH3] at hs2
        rw [← hL0] at d0; rw [← hL1] at d1; rw [← hL2] at d2; rw [← hL3] at d3
        rw [← hH0] at e0; rw [← hH1] at e1; rw [← hH2] at e2; rw [← hH3] at e3
        have HS2 := Lib.hid hs2; clear hs2
        clear hbf hL0 hL1 hL2 hL3 hH0 hH1 hH2 hH3
        have hw1r := hbe.out.size
        have y0 : w.heap.size + 1 + 1 < wr.heap.size := by omega
        go_wp2_with (first | (go_at_call 75; refine (c_four _ _ _ _ _ _ _ _ _ _).mono ?_; rintro e w3 ⟨rfl, hb3⟩; (obtain ⟨hc3, hf3⟩ := bcell hb3; have hs3 := hb3.size; (try simp only [World.size_alloc, World.drew_heap, World.heap_drewN, World.size_setCell] at hs3); try (have z3_0 : w.heap.size < w3.heap.size := (by omega)); try (have z3_1 : w.heap.size + 1 < w3.heap.size := (by omega)); try (have z3_2 : w.heap.size + 1 + 1 < w3.heap.size := (by omega)); try (have z3_3 : w.heap.size + 1 + 1 + 1 < w3.heap.size := (by omega)); try (have z3_4 : w.heap.size + 1 + 1 + 1 + 1 < w3.heap.size := (by omega)); try (have z3_5 : w.heap.size + 1 + 1 + 1 + 1 + 1 < w3.heap.size := (by omega)))))
        have HBE := hbe.out
        refine bodyPost_ret (v := .tuple #[.agg #[.int .i64 (spFourRes L0 L1 L2 L3 H0 H1 H2 H3 b0).1, .int .i64 (spFourRes L0 L1 L2 L3 H0 H1 H2 H3 b0).2.1], .int .i64 (spFourRes L0 L1 L2 L3 H0 H1 H2 H3 b0).2.2]) (by simp [results, Tryd.results31, go_sem, *]) rfl ⟨by rw [HS2.out], by (repeat' (first | (with_reducible exact Below.refl _ _) | assumption | (with_reducible refine Below.setCell ?_ ?_ _) | (with_reducible refine Below.alloc ?_ ?_ _) | (with_reducible refine Below.drew ?_) | (with_reducible refine below_drewN ?_ _) | (with_reducible refine Below.trans ?_ (Below.mono (by assumption) ?_)) | omega | (simp; done) | (simp; omega) | (simp [World.setCell]; omega)))⟩
  · go_loopw [10, 11] (fun ft i wr => ∃ k : Nat, k ≤ 4 ∧ ft = .bool (fitTo (fun j => (rMul (cx al ah j) (cy bl bh j) false).2) (fun j => (rMul (cx al ah j) (cy bl bh j) true).2) k) ∧ i = .int .i64 (k : Int) ∧ Hid (TabAt wr (w1.heap.size + 1) (cx al ah)) ∧ Hid (TabAt wr (w1.heap.size) (cy bl bh)) ∧
        Hid (TabAt wr (w1.heap.size + 1 + 1) (upto (fun j => (rMul (cx al ah j) (cy bl bh j) false).1) k)) ∧ Hid (TabAt wr (w1.heap.size + 1 + 1 + 1) (upto (fun j => (rMul (cx al ah j) (cy bl bh j) true).1) k)) ∧ Hid (Soft wr (w1.heap.size + 1 + 1)) ∧ Hid (Soft wr (w1.heap.size + 1 + 1 + 1)) ∧ Hid (Below w1.heap.size w1 wr) ∧ w1.heap.size + 1 + 1 + 1 < wr.heap.size) (fun _ i _ => 4 - (intOf i).toNat)
    case atStart =>
      refine ⟨0, by omega, rfl, rfl, ?_, ?_, ?_, ?_, ?_, ?_, ?_, ?_⟩
      · intro j hj; rcases (by omega : j = 0 ∨ j = 1 ∨ j = 2 ∨ j = 3) with rfl | rfl | rfl | rfl <;> simp [go_sem, cx]
      · intro j hj; rcases (by omega : j = 0 ∨ j = 1 ∨ j = 2 ∨ j = 3) with rfl | rfl | rfl | rfl <;> simp [go_sem, cy]
      · intro j hj; rcases (by omega : j = 0 ∨ j = 1 ∨ j = 2 ∨ j = 3) with rfl | rfl | rfl | rfl <;> simp [go_sem, upto]
      · intro j hj; rcases (by omega : j = 0 ∨ j = 1 ∨ j = 2 ∨ j = 3) with rfl | rfl | rfl | rfl <;> simp [go_sem, upto]
      · intro j; simp [go_sem]
      · intro j; simp [go_sem]
      · unfold Hid; (repeat' (first | (with_reducible exact Below.refl _ _) | assumption | (with_reducible refine Below.setCell ?_ ?_ _) | (with_reducible refine Below.alloc ?_ ?_ _) | (with_reducible refine Below.drew ?_) | (with_reducible refine below_drewN ?_ _) | (with_reducible refine Below.trans ?_ (Below.mono (by assumption) ?_)) | omega | (simp; done) | (simp; omega) | (simp [World.setCell]; omega)))
      · simp [go_sem]
    case round =>
      obtain ⟨k, hk, rfl, rfl, hx, hy, hl, hh, sl, sh, hbe, hsz⟩ := hrel
      obtain ⟨b0, hb0⟩ : ∃ b0, b0 = fitTo (fun j => (rMul (cx al ah j) (cy bl bh j) false).2) (fun j => (rMul (cx al ah j) (cy bl bh j) true).2) k := ⟨_, rfl⟩
      rw [← hb0]
      rcases Nat.lt_or_ge k 4 with hlt | hge
      · have k1 : (0 : Int) ≤ (k : Int) := by omega
        have k2 : (k : Int) < 4 := by omega
        have t0 : decide ((k : Int) < 4) = true := by (simp <;> omega)
        obtain ⟨X, hX⟩ : ∃ X, X = cx al ah k := ⟨_, rfl⟩
        obtain ⟨Y, hY⟩ : ∃ Y, Y = cy bl bh k := ⟨_, rfl⟩
        have okX : Hid (fxChk X = 0) := by rw [hX]; exact cx_ok al ah k HA1.out HA2.out
        have okY : Hid (fxChk Y = 0) := by rw [hY]; exact cy_ok bl bh k HB1.out HB2.out
        have c1 : wr.cell? ⟨w1.heap.size + 1, k, none⟩ = some (.int .i64 X) := by rw [hX]; exact hx.out k hlt
        have c2 : wr.cell? ⟨w1.heap.size, k, none⟩ = some (.int .i64 Y) := by rw [hY]; exact hy.out k hlt
        have c3 : wr.cell? ⟨w1.heap.size + 1 + 1, k, none⟩ = some (.int .i64 0) := by rw [hl.out k hlt]; simp [upto]
        have c4 : wr.cell? ⟨w1.heap.size + 1 + 1 + 1, k, none⟩ = some (.int .i64 0) := by rw [hh.out k hlt]; simp [upto]
        have c5 : wr.frozen? ⟨w1.heap.size + 1 + 1, k, none⟩ = false := sl.out k
        have c6 : wr.frozen? ⟨w1.heap.size + 1 + 1 + 1, k, none⟩ = false := sh.out k
        obtain ⟨o1, ho1⟩ : ∃ o1, o1 = rMul X Y false := ⟨_, rfl⟩
        obtain ⟨o2, ho2⟩ : ∃ o2, o2 = rMul X Y true := ⟨_, rfl⟩
        obtain ⟨l, okl⟩ := o1
        obtain ⟨h, okh⟩ := o2
        have g1 : Hid ((rMul (cx al ah k) (cy bl bh k) false) = (l, okl)) := by rw [← hX, ← hY]; exact ho1.symm
        have g2 : Hid ((rMul (cx al ah k) (cy bl bh k) true) = (h, okh)) := by rw [← hX, ← hY]; exact ho2.symm
        have HO1 := Lib.hid ho1; clear ho1
        have HO2 := Lib.hid ho2; clear ho2
        have g0 : Hid (fitTo (fun j => (rMul (cx al ah j) (cy bl bh j) false).2) (fun j => (rMul (cx al ah j) (cy bl bh j) true).2) (k + 1) = ((b0 && okl) && okh)) := by
          show ((_ && _) && _) = _
          rw [← hb0]; simp only [g1.out, g2.out]
        have HB0 := Lib.hid hb0; clear hb0
        clear hX hY
        rcases Bool.eq_false_or_eq_true b0 with e0 | e0
        rcases Bool.eq_false_or_eq_true okl with e1 | e1
        all_goals (try subst e0)
        all_goals (try subst e1)
        all_goals go_wp2_with (go_region_held3 (fun w' => w'.cell? ⟨w1.heap.size + 1, k, none⟩ = some (.int .i64 X) ∧ w'.cell? ⟨w1.heap.size, k, none⟩ = some (.int .i64 Y)) (go_keep) (first | (go_at_call 74; refine (c_rMul _ _ _ _ okX.out okY.out).mono ?_; (first | rw [← HO1.out] | rw [← HO2.out]); rintro e w2 ⟨rfl, rfl⟩)))
        all_goals go_roundw
        all_goals first
          | (simp [intOf]; done)
          | (simp [intOf]; omega)
          | (refine ⟨k + 1, hlt, by rw [g0.out]; simp, by simp, ?_, ?_, ?_, ?_, ?_, ?_, ?_, ?_⟩
             · exact ((hx.out.other _ _ (by (simp <;> omega))).other _ _ (by (simp <;> omega)))
             · exact ((hy.out.other _ _ (by (simp <;> omega))).other _ _ (by (simp <;> omega)))
             · exact (((hl.out.set k l hlt).other _ _ (by (simp <;> omega))).congr (fun j _ => by have := congrFun (upto_step (fun j => (rMul (cx al ah j) (cy bl bh j) false).1) k) j; simp only [g1.out] at this; exact this))
             · exact (((hh.out.other _ _ (by (simp <;> omega))).set k h hlt).congr (fun j _ => by have := congrFun (upto_step (fun j => (rMul (cx al ah j) (cy bl bh j) true).1) k) j; simp only [g2.out] at this; exact this))
             · exact ((sl.out.set _ _).set _ _)
             · exact ((sh.out.set _ _).set _ _)
             · have HBE := hbe.out; unfold Hid; (repeat' (first | (with_reducible exact Below.refl _ _) | assumption | (with_reducible refine Below.setCell ?_ ?_ _) | (with_reducible refine Below.alloc ?_ ?_ _) | (with_reducible refine Below.drew ?_) | (with_reducible refine below_drewN ?_ _) | (with_reducible refine Below.trans ?_ (Below.mono (by assumption) ?_)) | omega | (simp; done) | (simp; omega) | (simp [World.setCell]; omega)))
             · simpa using hsz)
      · have hk4 : k = 4 := by omega
        subst hk4
        have d0 : wr.cell? ⟨w1.heap.size + 1 + 1, 0, none⟩ = some (.int .i64 (rMul al bl false).1) := by have := hl.out 0 (by omega); simpa [upto, cx, cy] using this
        have d1 : wr.cell? ⟨w1.heap.size + 1 + 1, 1, none⟩ = some (.int .i64 (rMul al bh false).1) := by have := hl.out 1 (by omega); simpa [upto, cx, cy] using this
        have d2 : wr.cell? ⟨w1.heap.size + 1 + 1, 2, none⟩ = some (.int .i64 (rMul ah bl false).1) := by have := hl.out 2 (by omega); simpa [upto, cx, cy] using this
        have d3 : wr.cell? ⟨w1.heap.size + 1 + 1, 3, none⟩ = some (.int .i64 (rMul ah bh false).1) := by have := hl.out 3 (by omega); simpa [upto, cx, cy] using this
        have e0 : wr.cell? ⟨w1.heap.size + 1 + 1 + 1, 0, none⟩ = some (.int .i64 (rMul al bl true).1) := by have := hh.out 0 (by omega); simpa [upto, cx, cy] using this
        have e1 : wr.cell? ⟨w1.heap.size + 1 + 1 + 1, 1, none⟩ = some (.int .i64 (rMul al bh true).1) := by have := hh.out 1 (by omega); simpa [upto, cx, cy] using this
        have e2 : wr.cell? ⟨w1.heap.size + 1 + 1 + 1, 2, none⟩ = some (.int .i64 (rMul ah bl true).1) := by have := hh.out 2 (by omega); simpa [upto, cx, cy] using this
        have e3 : wr.cell? ⟨w1.heap.size + 1 + 1 + 1, 3, none⟩ = some (.int .i64 (rMul ah bh true).1) := by have := hh.out 3 (by omega); simpa [upto, cx, cy] using this
        have r0 : wr.cell? ⟨w.heap.size + 1 + 1, 0, none⟩ = some (.int .i64 0) := by rw [(bcell hbe.out).1 _ _ z1_2]; exact q4
        have r1 : wr.cell? ⟨w.heap.size + 1 + 1, 1, none⟩ = some (.int .i64 0) := by rw [(bcell hbe.out).1 _ _ z1_2]; exact q5
        have s0 : wr.frozen? ⟨w.heap.size + 1 + 1, 0, none⟩ = false := by rw [(bcell hbe.out).2 _ _ z1_2]; exact f4
        have s1 : wr.frozen? ⟨w.heap.size + 1 + 1, 1, none⟩ = false := by rw [(bcell hbe.out).2 _ _ z1_2]; exact f5
        have hbf : b0 = allFit (rMul al bl false).2 (rMul al bh false).2 (rMul ah bl false).2 (rMul ah bh false).2 (rMul al bl true).2 (rMul al bh true).2 (rMul ah bl true).2 (rMul ah bh true).2 := by rw [hb0]; simp [fitTo, allFit, cx, cy]
        clear hb0
        obtain ⟨L0, hL0⟩ : ∃ x, x = (rMul al bl false).1 := ⟨_, rfl⟩
        obtain ⟨L1, hL1⟩ : ∃ x, x = (rMul al bh false).1 := ⟨_, rfl⟩
        obtain ⟨L2, hL2⟩ : ∃ x, x = (rMul ah bl false).1 := ⟨_, rfl⟩
        obtain ⟨L3, hL3⟩ : ∃ x, x = (rMul ah bh false).1 := ⟨_, rfl⟩
        obtain ⟨H0, hH0⟩ : ∃ x, x = (rMul al bl true).1 := ⟨_, rfl⟩
        obtain ⟨H1, hH1⟩ : ∃ x, x = (rMul al bh true).1 := ⟨_, rfl⟩
        obtain ⟨H2, hH2⟩ : ∃ x, x = (rMul ah bl true).1 := ⟨_, rfl⟩
        obtain ⟨H3, hH3⟩ : ∃ x, x = (rMul ah bh true).1 := ⟨_, rfl⟩
        have hs2 := hs.out
        rw [← hbf, ← hL0, ← hL1, ← hL2, ← hL3, ← hH0, ← hH1, ← hH2, ← hH3] at hs2
        rw [← hL0] at d0; rw [← hL1] at d1; rw [← hL2] at d2; rw [← hL3] at d3
        rw [← hH0] at e0; rw [← hH1] at e1; rw [← hH2] at e2; rw [← hH3] at e3
        have HS2 := Lib.hid hs2; clear hs2
        clear hbf hL0 hL1 hL2 hL3 hH0 hH1 hH2 hH3
        have hw1r := hbe.out.size
        have y0 : w.heap.size + 1 + 1 < wr.heap.size := by omega
        go_wp2_with (first | (go_at_call 75; refine (c_four _ _ _ _ _ _ _ _ _ _).mono ?_; rintro e w3 ⟨rfl, hb3⟩; (obtain ⟨hc3, hf3⟩ := bcell hb3; have hs3 := hb3.size; (try simp only [World.size_alloc, World.drew_heap, World.heap_drewN, World.size_setCell] at hs3); try (have z3_0 : w.heap.size < w3.heap.size := (by omega)); try (have z3_1 : w.heap.size + 1 < w3.heap.size := (by omega)); try (have z3_2 : w.heap.size + 1 + 1 < w3.heap.size := (by omega)); try (have z3_3 : w.heap.size + 1 + 1 + 1 < w3.heap.size := (by omega)); try (have z3_4 : w.heap.size + 1 + 1 + 1 + 1 < w3.heap.size := (by omega)); try (have z3_5 : w.heap.size + 1 + 1 + 1 + 1 + 1 < w3.heap.size := (by omega)))))
        have HBE := hbe.out
        refine bodyPost_ret (v := .tuple #[.agg #[.int .i64 (spFourRes L0 L1 L2 L3 H0 H1 H2 H3 b0).1, .int .i64 (spFourRes L0 L1 L2 L3 H0 H1 H2 H3 b0).2.1], .int .i64 (spFourRes L0 L1 L2 L3 H0 H1 H2 H3 b0).2.2]) (by simp [results, Tryd.results31, go_sem, *]) rfl ⟨by rw [HS2.out], by (repeat' (first | (with_reducible exact Below.refl _ _) | assumption | (with_reducible refine Below.setCell ?_ ?_ _) | (with_reducible refine Below.alloc ?_ ?_ _) | (with_reducible refine Below.drew ?_) | (with_reducible refine below_drewN ?_ _) | (with_reducible refine Below.trans ?_ (Below.mono (by assumption) ?_)) | omega | (simp; done) | (simp; omega) | (simp [World.setCell]; omega)))⟩

theorem c_sMul (al ah bl bh : Int) (w : World) :
    Calls Tryd.prog 31 #[.agg #[.int .i64 al, .int .i64 ah], .agg #[.int .i64 bl, .int .i64 bh]] w fun e w' => e = .returned (.tuple #[.agg #[.int .i64 (spMul (al, ah) (bl, bh)).1, .int .i64 (spMul (al, ah) (bl, bh)).2.1], .int .i64 (spMul (al, ah) (bl, bh)).2.2]) ∧ Below w.heap.size w w' := by
  by_cases ha : spChk (al, ah) = 0
  · by_cases hb : spChk (bl, bh) = 0
    · exact c_sMulOk al ah bl bh w ha hb
    · rw [spMul_bad _ _ (.inr hb)]; exact c_sMulBad al ah bl bh w (.inr hb)
  · rw [spMul_bad _ _ (.inl ha)]; exact c_sMulBad al ah bl bh w (.inl ha)

end Go.Proofs.YtpdaigenffecmaaDoor
