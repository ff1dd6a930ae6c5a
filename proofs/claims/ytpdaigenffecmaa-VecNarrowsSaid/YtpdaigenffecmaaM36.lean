/-
  VecNarrows: its calls, of valid vectors within valid vectors. An executor of the program's code over a known part of the memory: its words. The executor is right: values, frames, operations that change nothing.
-/
import Derived.Test.YtpdaigenffecmaaM32
import Derived.Test.YtpdaigenffecmaaM35
set_option linter.all false
namespace Go.Proofs.Ytpdaigenffecmaa
open Go.RowKit Go.Shelf

theorem narV_Add {x0 x1 x2 x3 x4 x5 y0 y1 y2 y3 y4 y5 c0 c1 c2 c3 c4 c5 d0 d1 d2 d3 d4 d5 : Int} (hx0 : spChk (x0, x1) = 0) (hx1 : spChk (x2, x3) = 0) (hx2 : spChk (x4, x5) = 0) (hy0 : spChk (y0, y1) = 0) (hy1 : spChk (y2, y3) = 0) (hy2 : spChk (y4, y5) = 0) (hc0 : spChk (c0, c1) = 0) (hc1 : spChk (c2, c3) = 0) (hc2 : spChk (c4, c5) = 0) (hd0 : spChk (d0, d1) = 0) (hd1 : spChk (d2, d3) = 0) (hd2 : spChk (d4, d5) = 0) (wc0 : Wi (c0, c1) (x0, x1)) (wc1 : Wi (c2, c3) (x2, x3)) (wc2 : Wi (c4, c5) (x4, x5)) (wd0 : Wi (d0, d1) (y0, y1)) (wd1 : Wi (d2, d3) (y2, y3)) (wd2 : Wi (d4, d5) (y4, y5)) : ∃ r0 r1 r2 r3 r4 r5 re s0 s1 s2 s3 s4 s5 se, (∀ w, Calls Try.prog 13 #[.agg #[.int .i64 c0, .int .i64 c1, .int .i64 c2, .int .i64 c3, .int .i64 c4, .int .i64 c5], .agg #[.int .i64 d0, .int .i64 d1, .int .i64 d2, .int .i64 d3, .int .i64 d4, .int .i64 d5]] w fun x w' => x = .returned (.tuple #[.agg #[.int .i64 r0, .int .i64 r1, .int .i64 r2, .int .i64 r3, .int .i64 r4, .int .i64 r5], .int .i64 re]) ∧ Below w.heap.size w w') ∧
    (∀ w, Calls Try.prog 13 #[.agg #[.int .i64 x0, .int .i64 x1, .int .i64 x2, .int .i64 x3, .int .i64 x4, .int .i64 x5], .agg #[.int .i64 y0, .int .i64 y1, .int .i64 y2, .int .i64 y3, .int .i64 y4, .int .i64 y5]] w fun x w' => x = .returned (.tuple #[.agg #[.int .i64 s0, .int .i64 s1, .int .i64 s2, .int .i64 s3, .int .i64 s4, .int .i64 s5], .int .i64 se]) ∧ Below w.heap.size w w') ∧ (se = 0 → re = 0 ∧ (s0 ≤ r0 ∧ r1 ≤ s1) ∧ (s2 ≤ r2 ∧ r3 ≤ s3) ∧ (s4 ≤ r4 ∧ r5 ≤ s5)) := by
  obtain ⟨k1, _⟩ := valid2 hx0 hx1 hx2 hy0 hy1 hy2
  obtain ⟨k2, _⟩ := valid2 hc0 hc1 hc2 hd0 hd1 hd2
  have hn := nar_three (show Nar (spAdd (c0, c1) (d0, d1)) (spAdd (x0, x1) (y0, y1)) from fun h => spAdd_narrow hx0 hy0 hc0 hd0 wc0 wd0 h) (show Nar (spAdd (c2, c3) (d2, d3)) (spAdd (x2, x3) (y2, y3)) from fun h => spAdd_narrow hx1 hy1 hc1 hd1 wc1 wd1 h) (show Nar (spAdd (c4, c5) (d4, d5)) (spAdd (x4, x5) (y4, y5)) from fun h => spAdd_narrow hx2 hy2 hc2 hd2 wc2 wd2 h)
  obtain ⟨r0, r1, r2, r3, r4, r5, s0, s1, s2, s3, s4, s5, hr, hs, hh⟩ := vNar hn
  refine ⟨r0, r1, r2, r3, r4, r5, _, s0, s1, s2, s3, s4, s5, _, fun w => ?_, fun w => ?_, hh⟩
  · rw [← hr]; have h := c_vecAdd c0 c1 c2 c3 c4 c5 d0 d1 d2 d3 d4 d5 w; rw [k2] at h; exact h
  · rw [← hs]; have h := c_vecAdd x0 x1 x2 x3 x4 x5 y0 y1 y2 y3 y4 y5 w; rw [k1] at h; exact h

theorem narV_Sub {x0 x1 x2 x3 x4 x5 y0 y1 y2 y3 y4 y5 c0 c1 c2 c3 c4 c5 d0 d1 d2 d3 d4 d5 : Int} (hx0 : spChk (x0, x1) = 0) (hx1 : spChk (x2, x3) = 0) (hx2 : spChk (x4, x5) = 0) (hy0 : spChk (y0, y1) = 0) (hy1 : spChk (y2, y3) = 0) (hy2 : spChk (y4, y5) = 0) (hc0 : spChk (c0, c1) = 0) (hc1 : spChk (c2, c3) = 0) (hc2 : spChk (c4, c5) = 0) (hd0 : spChk (d0, d1) = 0) (hd1 : spChk (d2, d3) = 0) (hd2 : spChk (d4, d5) = 0) (wc0 : Wi (c0, c1) (x0, x1)) (wc1 : Wi (c2, c3) (x2, x3)) (wc2 : Wi (c4, c5) (x4, x5)) (wd0 : Wi (d0, d1) (y0, y1)) (wd1 : Wi (d2, d3) (y2, y3)) (wd2 : Wi (d4, d5) (y4, y5)) : ∃ r0 r1 r2 r3 r4 r5 re s0 s1 s2 s3 s4 s5 se, (∀ w, Calls Try.prog 14 #[.agg #[.int .i64 c0, .int .i64 c1, .int .i64 c2, .int .i64 c3, .int .i64 c4, .int .i64 c5], .agg #[.int .i64 d0, .int .i64 d1, .int .i64 d2, .int .i64 d3, .int .i64 d4, .int .i64 d5]] w fun x w' => x = .returned (.tuple #[.agg #[.int .i64 r0, .int .i64 r1, .int .i64 r2, .int .i64 r3, .int .i64 r4, .int .i64 r5], .int .i64 re]) ∧ Below w.heap.size w w') ∧
    (∀ w, Calls Try.prog 14 #[.agg #[.int .i64 x0, .int .i64 x1, .int .i64 x2, .int .i64 x3, .int .i64 x4, .int .i64 x5], .agg #[.int .i64 y0, .int .i64 y1, .int .i64 y2, .int .i64 y3, .int .i64 y4, .int .i64 y5]] w fun x w' => x = .returned (.tuple #[.agg #[.int .i64 s0, .int .i64 s1, .int .i64 s2, .int .i64 s3, .int .i64 s4, .int .i64 s5], .int .i64 se]) ∧ Below w.heap.size w w') ∧ (se = 0 → re = 0 ∧ (s0 ≤ r0 ∧ r1 ≤ s1) ∧ (s2 ≤ r2 ∧ r3 ≤ s3) ∧ (s4 ≤ r4 ∧ r5 ≤ s5)) := by
  obtain ⟨k1, _⟩ := valid2 hx0 hx1 hx2 hy0 hy1 hy2
  obtain ⟨k2, _⟩ := valid2 hc0 hc1 hc2 hd0 hd1 hd2
  have hn := nar_three (show Nar (spSub (c0, c1) (d0, d1)) (spSub (x0, x1) (y0, y1)) from fun h => spSub_narrow hx0 hy0 hc0 hd0 wc0 wd0 h) (show Nar (spSub (c2, c3) (d2, d3)) (spSub (x2, x3) (y2, y3)) from fun h => spSub_narrow hx1 hy1 hc1 hd1 wc1 wd1 h) (show Nar (spSub (c4, c5) (d4, d5)) (spSub (x4, x5) (y4, y5)) from fun h => spSub_narrow hx2 hy2 hc2 hd2 wc2 wd2 h)
  obtain ⟨r0, r1, r2, r3, r4, r5, s0, s1, s2, s3, s4, s5, hr, hs, hh⟩ := vNar hn
  refine ⟨r0, r1, r2, r3, r4, r5, _, s0, s1, s2, s3, s4, s5, _, fun w => ?_, fun w => ?_, hh⟩
  · rw [← hr]; have h := c_vecSub c0 c1 c2 c3 c4 c5 d0 d1 d2 d3 d4 d5 w; rw [k2] at h; exact h
  · rw [← hs]; have h := c_vecSub x0 x1 x2 x3 x4 x5 y0 y1 y2 y3 y4 y5 w; rw [k1] at h; exact h

theorem narV_Cross {x0 x1 x2 x3 x4 x5 y0 y1 y2 y3 y4 y5 c0 c1 c2 c3 c4 c5 d0 d1 d2 d3 d4 d5 : Int} (hx0 : spChk (x0, x1) = 0) (hx1 : spChk (x2, x3) = 0) (hx2 : spChk (x4, x5) = 0) (hy0 : spChk (y0, y1) = 0) (hy1 : spChk (y2, y3) = 0) (hy2 : spChk (y4, y5) = 0) (hc0 : spChk (c0, c1) = 0) (hc1 : spChk (c2, c3) = 0) (hc2 : spChk (c4, c5) = 0) (hd0 : spChk (d0, d1) = 0) (hd1 : spChk (d2, d3) = 0) (hd2 : spChk (d4, d5) = 0) (wc0 : Wi (c0, c1) (x0, x1)) (wc1 : Wi (c2, c3) (x2, x3)) (wc2 : Wi (c4, c5) (x4, x5)) (wd0 : Wi (d0, d1) (y0, y1)) (wd1 : Wi (d2, d3) (y2, y3)) (wd2 : Wi (d4, d5) (y4, y5)) : ∃ r0 r1 r2 r3 r4 r5 re s0 s1 s2 s3 s4 s5 se, (∀ w, Calls Try.prog 15 #[.agg #[.int .i64 c0, .int .i64 c1, .int .i64 c2, .int .i64 c3, .int .i64 c4, .int .i64 c5], .agg #[.int .i64 d0, .int .i64 d1, .int .i64 d2, .int .i64 d3, .int .i64 d4, .int .i64 d5]] w fun x w' => x = .returned (.tuple #[.agg #[.int .i64 r0, .int .i64 r1, .int .i64 r2, .int .i64 r3, .int .i64 r4, .int .i64 r5], .int .i64 re]) ∧ Below w.heap.size w w') ∧
    (∀ w, Calls Try.prog 15 #[.agg #[.int .i64 x0, .int .i64 x1, .int .i64 x2, .int .i64 x3, .int .i64 x4, .int .i64 x5], .agg #[.int .i64 y0, .int .i64 y1, .int .i64 y2, .int .i64 y3, .int .i64 y4, .int .i64 y5]] w fun x w' => x = .returned (.tuple #[.agg #[.int .i64 s0, .int .i64 s1, .int .i64 s2, .int .i64 s3, .int .i64 s4, .int .i64 s5], .int .i64 se]) ∧ Below w.heap.size w w') ∧ (se = 0 → re = 0 ∧ (s0 ≤ r0 ∧ r1 ≤ s1) ∧ (s2 ≤ r2 ∧ r3 ≤ s3) ∧ (s4 ≤ r4 ∧ r5 ≤ s5)) := by
  obtain ⟨k1, _⟩ := valid2 hx0 hx1 hx2 hy0 hy1 hy2
  obtain ⟨k2, _⟩ := valid2 hc0 hc1 hc2 hd0 hd1 hd2
  have hn := nar_cross (spMul_good hc1 hd2) (spMul_good hc2 hd0) (spMul_good hc0 hd1) (spMul_good hc2 hd1) (spMul_good hc0 hd2) (spMul_good hc1 hd0) (spMul_good hx1 hy2) (spMul_good hx2 hy0) (spMul_good hx0 hy1) (spMul_good hx2 hy1) (spMul_good hx0 hy2) (spMul_good hx1 hy0) (show Nar (spMul (c2, c3) (d4, d5)) (spMul (x2, x3) (y4, y5)) from fun h => spMul_narrow hx1 hy2 hc1 hd2 wc1 wd2 h) (show Nar (spMul (c4, c5) (d0, d1)) (spMul (x4, x5) (y0, y1)) from fun h => spMul_narrow hx2 hy0 hc2 hd0 wc2 wd0 h) (show Nar (spMul (c0, c1) (d2, d3)) (spMul (x0, x1) (y2, y3)) from fun h => spMul_narrow hx0 hy1 hc0 hd1 wc0 wd1 h) (show Nar (spMul (c4, c5) (d2, d3)) (spMul (x4, x5) (y2, y3)) from fun h => spMul_narrow hx2 hy1 hc2 hd1 wc2 wd1 h) (show Nar (spMul (c0, c1) (d4, d5)) (spMul (x0, x1) (y4, y5)) from fun h => spMul_narrow hx0 hy2 hc0 hd2 wc0 wd2 h) (show Nar (spMul (c2, c3) (d0, d1)) (spMul (x2, x3) (y0, y1)) from fun h => spMul_narrow hx1 hy0 hc1 hd0 wc1 wd0 h)
  obtain ⟨r0, r1, r2, r3, r4, r5, s0, s1, s2, s3, s4, s5, hr, hs, hh⟩ := vNar hn
  refine ⟨r0, r1, r2, r3, r4, r5, _, s0, s1, s2, s3, s4, s5, _, fun w => ?_, fun w => ?_, hh⟩
  · rw [← hr]; have h := c_vecCross c0 c1 c2 c3 c4 c5 d0 d1 d2 d3 d4 d5 w; rw [k2] at h; exact h
  · rw [← hs]; have h := c_vecCross x0 x1 x2 x3 x4 x5 y0 y1 y2 y3 y4 y5 w; rw [k1] at h; exact h

theorem narV_Dot {x0 x1 x2 x3 x4 x5 y0 y1 y2 y3 y4 y5 c0 c1 c2 c3 c4 c5 d0 d1 d2 d3 d4 d5 : Int} (hx0 : spChk (x0, x1) = 0) (hx1 : spChk (x2, x3) = 0) (hx2 : spChk (x4, x5) = 0) (hy0 : spChk (y0, y1) = 0) (hy1 : spChk (y2, y3) = 0) (hy2 : spChk (y4, y5) = 0) (hc0 : spChk (c0, c1) = 0) (hc1 : spChk (c2, c3) = 0) (hc2 : spChk (c4, c5) = 0) (hd0 : spChk (d0, d1) = 0) (hd1 : spChk (d2, d3) = 0) (hd2 : spChk (d4, d5) = 0) (wc0 : Wi (c0, c1) (x0, x1)) (wc1 : Wi (c2, c3) (x2, x3)) (wc2 : Wi (c4, c5) (x4, x5)) (wd0 : Wi (d0, d1) (y0, y1)) (wd1 : Wi (d2, d3) (y2, y3)) (wd2 : Wi (d4, d5) (y4, y5)) : ∃ r0 r1 re s0 s1 se, (∀ w, Calls Try.prog 18 #[.agg #[.int .i64 c0, .int .i64 c1, .int .i64 c2, .int .i64 c3, .int .i64 c4, .int .i64 c5], .agg #[.int .i64 d0, .int .i64 d1, .int .i64 d2, .int .i64 d3, .int .i64 d4, .int .i64 d5]] w fun x w' => x = .returned (.tuple #[.agg #[.int .i64 r0, .int .i64 r1], .int .i64 re]) ∧ Below w.heap.size w w') ∧
    (∀ w, Calls Try.prog 18 #[.agg #[.int .i64 x0, .int .i64 x1, .int .i64 x2, .int .i64 x3, .int .i64 x4, .int .i64 x5], .agg #[.int .i64 y0, .int .i64 y1, .int .i64 y2, .int .i64 y3, .int .i64 y4, .int .i64 y5]] w fun x w' => x = .returned (.tuple #[.agg #[.int .i64 s0, .int .i64 s1], .int .i64 se]) ∧ Below w.heap.size w w') ∧ (se = 0 → re = 0 ∧ (s0 ≤ r0 ∧ r1 ≤ s1)) := by
  obtain ⟨k1, _⟩ := valid2 hx0 hx1 hx2 hy0 hy1 hy2
  obtain ⟨k2, _⟩ := valid2 hc0 hc1 hc2 hd0 hd1 hd2
  have hn := nar_sum (spMul_good hc0 hd0) (spMul_good hc1 hd1) (spMul_good hc2 hd2) (spMul_good hx0 hy0) (spMul_good hx1 hy1) (spMul_good hx2 hy2) (show Nar (spMul (c0, c1) (d0, d1)) (spMul (x0, x1) (y0, y1)) from fun h => spMul_narrow hx0 hy0 hc0 hd0 wc0 wd0 h) (show Nar (spMul (c2, c3) (d2, d3)) (spMul (x2, x3) (y2, y3)) from fun h => spMul_narrow hx1 hy1 hc1 hd1 wc1 wd1 h) (show Nar (spMul (c4, c5) (d4, d5)) (spMul (x4, x5) (y4, y5)) from fun h => spMul_narrow hx2 hy2 hc2 hd2 wc2 wd2 h)
  obtain ⟨r0, r1, s0, s1, hr, hs, hh⟩ := iNar hn
  refine ⟨r0, r1, _, s0, s1, _, fun w => ?_, fun w => ?_, hh⟩
  · rw [← hr]; have h := c_vecDot c0 c1 c2 c3 c4 c5 d0 d1 d2 d3 d4 d5 w; rw [k2] at h; exact h
  · rw [← hs]; have h := c_vecDot x0 x1 x2 x3 x4 x5 y0 y1 y2 y3 y4 y5 w; rw [k1] at h; exact h

theorem narV_Norm {x0 x1 x2 x3 x4 x5 c0 c1 c2 c3 c4 c5 : Int} (hx0 : spChk (x0, x1) = 0) (hx1 : spChk (x2, x3) = 0) (hx2 : spChk (x4, x5) = 0) (hc0 : spChk (c0, c1) = 0) (hc1 : spChk (c2, c3) = 0) (hc2 : spChk (c4, c5) = 0) (wc0 : Wi (c0, c1) (x0, x1)) (wc1 : Wi (c2, c3) (x2, x3)) (wc2 : Wi (c4, c5) (x4, x5)) : ∃ r0 r1 re s0 s1 se, (∀ w, Calls Try.prog 20 #[.agg #[.int .i64 c0, .int .i64 c1, .int .i64 c2, .int .i64 c3, .int .i64 c4, .int .i64 c5]] w fun x w' => x = .returned (.tuple #[.agg #[.int .i64 r0, .int .i64 r1], .int .i64 re]) ∧ Below w.heap.size w w') ∧
    (∀ w, Calls Try.prog 20 #[.agg #[.int .i64 x0, .int .i64 x1, .int .i64 x2, .int .i64 x3, .int .i64 x4, .int .i64 x5]] w fun x w' => x = .returned (.tuple #[.agg #[.int .i64 s0, .int .i64 s1], .int .i64 se]) ∧ Below w.heap.size w w') ∧ (se = 0 → re = 0 ∧ (s0 ≤ r0 ∧ r1 ≤ s1)) := by
  have k1 := chk3_ok ⟨hx0, hx1, hx2⟩
  have k2 := chk3_ok ⟨hc0, hc1, hc2⟩
  have hn := nar_norm (spSqr_good hc0) (spSqr_good hc1) (spSqr_good hc2) (spSqr_good hx0) (spSqr_good hx1) (spSqr_good hx2) (show Nar (spPow (c0, c1) 2) (spPow (x0, x1) 2) from fun h => spPow_narrow 2 hx0 hc0 wc0 h) (show Nar (spPow (c2, c3) 2) (spPow (x2, x3) 2) from fun h => spPow_narrow 2 hx1 hc1 wc1 h) (show Nar (spPow (c4, c5) 2) (spPow (x4, x5) 2) from fun h => spPow_narrow 2 hx2 hc2 wc2 h)
  obtain ⟨r0, r1, s0, s1, hr, hs, hh⟩ := iNar hn
  refine ⟨r0, r1, _, s0, s1, _, fun w => ?_, fun w => ?_, hh⟩
  · rw [← hr]; have h := c_vecNorm c0 c1 c2 c3 c4 c5 w; rw [k2] at h; exact h
  · rw [← hs]; have h := c_vecNorm x0 x1 x2 x3 x4 x5 w; rw [k1] at h; exact h

theorem narV_Unit {x0 x1 x2 x3 x4 x5 c0 c1 c2 c3 c4 c5 : Int} (hx0 : spChk (x0, x1) = 0) (hx1 : spChk (x2, x3) = 0) (hx2 : spChk (x4, x5) = 0) (hc0 : spChk (c0, c1) = 0) (hc1 : spChk (c2, c3) = 0) (hc2 : spChk (c4, c5) = 0) (wc0 : Wi (c0, c1) (x0, x1)) (wc1 : Wi (c2, c3) (x2, x3)) (wc2 : Wi (c4, c5) (x4, x5)) : ∃ r0 r1 r2 r3 r4 r5 re s0 s1 s2 s3 s4 s5 se, (∀ w, Calls Try.prog 17 #[.agg #[.int .i64 c0, .int .i64 c1, .int .i64 c2, .int .i64 c3, .int .i64 c4, .int .i64 c5]] w fun x w' => x = .returned (.tuple #[.agg #[.int .i64 r0, .int .i64 r1, .int .i64 r2, .int .i64 r3, .int .i64 r4, .int .i64 r5], .int .i64 re]) ∧ Below w.heap.size w w') ∧
    (∀ w, Calls Try.prog 17 #[.agg #[.int .i64 x0, .int .i64 x1, .int .i64 x2, .int .i64 x3, .int .i64 x4, .int .i64 x5]] w fun x w' => x = .returned (.tuple #[.agg #[.int .i64 s0, .int .i64 s1, .int .i64 s2, .int .i64 s3, .int .i64 s4, .int .i64 s5], .int .i64 se]) ∧ Below w.heap.size w w') ∧ (se = 0 → re = 0 ∧ (s0 ≤ r0 ∧ r1 ≤ s1) ∧ (s2 ≤ r2 ∧ r3 ≤ s3) ∧ (s4 ≤ r4 ∧ r5 ≤ s5)) := by
  have k1 := chk3_ok ⟨hx0, hx1, hx2⟩
  have k2 := chk3_ok ⟨hc0, hc1, hc2⟩
  have hn := nar_unit hx0 hx1 hx2 hc0 hc1 hc2 wc0 wc1 wc2 (spSqr_good hc0) (spSqr_good hc1) (spSqr_good hc2) (spSqr_good hx0) (spSqr_good hx1) (spSqr_good hx2) (show Nar (spPow (c0, c1) 2) (spPow (x0, x1) 2) from fun h => spPow_narrow 2 hx0 hc0 wc0 h) (show Nar (spPow (c2, c3) 2) (spPow (x2, x3) 2) from fun h => spPow_narrow 2 hx1 hc1 wc1 h) (show Nar (spPow (c4, c5) 2) (spPow (x4, x5) 2) from fun h => spPow_narrow 2 hx2 hc2 wc2 h)
  obtain ⟨r0, r1, r2, r3, r4, r5, s0, s1, s2, s3, s4, s5, hr, hs, hh⟩ := vNar hn
  refine ⟨r0, r1, r2, r3, r4, r5, _, s0, s1, s2, s3, s4, s5, _, fun w => ?_, fun w => ?_, hh⟩
  · rw [← hr]; have h := c_vecUnit c0 c1 c2 c3 c4 c5 w; rw [k2] at h; exact h
  · rw [← hs]; have h := c_vecUnit x0 x1 x2 x3 x4 x5 w; rw [k1] at h; exact h

end Go.Proofs.Ytpdaigenffecmaa

namespace Go.Proofs.Ytpdaigenffecmaa
open Go Go.RowKit

/-! ### Values as the executor knows them: numbers by letter or as they are; blocks by names of its own -/
inductive AI where
  | lit (i : Int)
  | sym (n : Nat)
  deriving DecidableEq
inductive CV where
  | int (k : IntKind) (x : AI)
  | bool (b : Bool)
  | ptr (b off : Nat)
  | nilp
  | func (f : FuncId) (first caps : List (Nat × Nat))
  | slice (b off len cap : Nat)
  | niliface
  | nilf
  | nils
  | bsym (n : Nat)
  deriving DecidableEq
inductive TV where
  | one (c : CV)
  | agg (l : List CV)
  deriving DecidableEq
inductive AV where
  | v (t : TV)
  | tup (l : List TV)
  deriving DecidableEq

def γI (ρ : Nat → Int) : AI → Int
  | .lit i => i
  | .sym n => ρ n
def γP (s : Nat → Nat) (p : Nat × Nat) : Value := .pointer (some ⟨s p.1, p.2, none⟩)
def γC (ρ : Nat → Int) (s : Nat → Nat) : CV → Value
  | .int k x => .int k (γI ρ x)
  | .bool b => .bool b
  | .ptr b o => .pointer (some ⟨s b, o, none⟩)
  | .nilp => .pointer none
  | .func f a c => .func (.func f) (a.map (γP s)).toArray (c.map (γP s)).toArray
  | .slice b o l c => .slice (some ⟨s b, o, none⟩) l c
  | .niliface => .nilIface
  | .nilf => .nilFunc
  | .nils => .slice none 0 0
  | .bsym n => .bool (decide (ρ n ≠ 0))
def γT (ρ : Nat → Int) (s : Nat → Nat) : TV → Value
  | .one c => γC ρ s c
  | .agg l => .agg (l.map (γC ρ s)).toArray
def γ (ρ : Nat → Int) (s : Nat → Nat) : AV → Value
  | .v t => γT ρ s t
  | .tup l => .tuple (l.map (γT ρ s)).toArray

/-! ### The memory that is known -/
structure Blk where
  name : Nat
  wr : Bool
  cs : List CV
  deriving DecidableEq
abbrev Mem := List Blk
def Mem.get : Mem → Nat → Option Blk
  | [], _ => none
  | x :: m, b => if Nat.beq x.name b then some x else Mem.get m b
def Mem.put : Mem → Blk → Mem
  | [], y => [y]
  | x :: m, y => if Nat.beq x.name y.name then y :: m else if Nat.blt x.name y.name then y :: x :: m else x :: Mem.put m y

def TV.cells : TV → List CV
  | .one c => [c]
  | .agg l => l
/-! ### Values that name known blocks only -/
/-- Known, or a package's variable (its name: 1000000 and its number). -/
def Mem.has (m : Mem) (b : Nat) : Bool := if Nat.ble 1000000 b then true else (m.get b).isSome
def CV.wf (m : Mem) : CV → Bool
  | .ptr b _ => m.has b
  | .func _ a c => a.all (fun p => m.has p.1) && c.all (fun p => m.has p.1)
  | .slice b _ _ _ => m.has b
  | _ => true
def TV.wf (m : Mem) : TV → Bool
  | .one c => c.wf m
  | .agg l => l.all (CV.wf m)
def AV.wf (m : Mem) : AV → Bool
  | .v t => t.wf m
  | .tup l => l.all (TV.wf m)

/-! ### What the executor asks of the types -/
def aggB (P : Program) (t : TypeId) : Option Bool :=
  match P.underlying t with
  | some (.struct _) => some true
  | some (.array _ _) => some true
  | some _ => some false
  | none => none
def sizeB (P : Program) (t : TypeId) : Option Nat := (P.info? t).map (·.size)
def sizesB (P : Program) : List Field → Option (List (Nat × Nat))
  | [] => some []
  | f :: l => match sizeB P f.type, sizesB P l with
    | some n, some r => some ((f.offset, n) :: r)
    | _, _ => none

def reifyC : Value → Option CV
  | .int k n => some (.int k (.lit n))
  | .bool b => some (.bool b)
  | .pointer none => some .nilp
  | .nilIface => some .niliface
  | .nilFunc => some .nilf
  | .slice none 0 0 => some .nils
  | _ => none
def reifyL : List Value → Option (List CV)
  | [] => some []
  | v :: l => match reifyC v, reifyL l with
    | some c, some r => some (c :: r)
    | _, _ => none
def reifyT : Value → Option TV
  | .agg cs => (reifyL cs.toList).map .agg
  | v => (reifyC v).map .one

/-! ### Frames: a tree of ten levels, by the bits of a slot's number -/
def nilA : AV := .tup []
inductive Fr where
  | nil
  | leaf (v : AV)
  | bin (l r : Fr)
  deriving DecidableEq
def Fr.get : Nat → Fr → Nat → AV
  | 0, .leaf v, _ => v
  | 0, _, _ => nilA
  | k + 1, .bin l r, i => if Nat.beq (Nat.mod i 2) 0 then Fr.get k l (Nat.div i 2) else Fr.get k r (Nat.div i 2)
  | _ + 1, _, _ => nilA
def Fr.set : Nat → Fr → Nat → AV → Fr
  | 0, _, _, v => .leaf v
  | k + 1, .bin l r, i, v => if Nat.beq (Nat.mod i 2) 0 then .bin (Fr.set k l (Nat.div i 2) v) r else .bin l (Fr.set k r (Nat.div i 2) v)
  | k + 1, _, i, v => if Nat.beq (Nat.mod i 2) 0 then .bin (Fr.set k .nil (Nat.div i 2) v) .nil else .bin .nil (Fr.set k .nil (Nat.div i 2) v)
structure Frm where
  n : Nat
  t : Fr
  deriving DecidableEq
def Frm.get? (fr : Frm) (i : Nat) : Option AV := if Nat.blt i fr.n && Nat.blt i 1024 then some (fr.t.get 10 i) else none
def Fr.setAll : Fr → Nat → List AV → Fr
  | t, _, [] => t
  | t, i, v :: l => Fr.setAll (t.set 10 i v) (i + 1) l
def Frm.of (args : List AV) (n : Nat) : Frm := ⟨args.length + (n - args.length), Fr.setAll .nil 0 args⟩

def splice (cs : List CV) (off : Nat) (vs : List CV) : List CV := cs.take off ++ vs ++ cs.drop (off + vs.length)
def evalA (fr : Frm) : Operand → Option AV
  | .tmp t => fr.get? t
  | .const v => (reifyT v).map .v
  | .global g => some (.v (.one (.ptr (1000000 + g) 0)))
  | .func f => some (.v (.one (.func f [] [])))
def evalT (fr : Frm) (x : Operand) : Option TV :=
  match evalA fr x with
  | some (.v t) => some t
  | _ => none
def evalC (fr : Frm) (x : Operand) : Option CV :=
  match evalA fr x with
  | some (.v (.one c)) => some c
  | _ => none
def evalL (fr : Frm) : List Operand → Option (List AV)
  | [] => some []
  | x :: l => match evalA fr x, evalL fr l with
    | some v, some r => some (v :: r)
    | _, _ => none
def ptrsOf : List AV → Option (List (Nat × Nat))
  | [] => some []
  | .v (.one (.ptr b o)) :: l => (ptrsOf l).map ((b, o) :: ·)
  | _ => none

def partA (P : Program) (t : TypeId) (cs : List CV) (off : Nat) : Option TV :=
  match aggB P t with
  | some true => match sizeB P t with
    | some n => some (.agg ((cs.drop off).take n))
    | none => none
  | some false => (cs[off]?).map .one
  | none => none
def loadA (P : Program) (m : Mem) (t : TypeId) (b off : Nat) : Option TV :=
  match m.get b with
  | none => none
  | some x => match aggB P t with
    | some true => match sizeB P t with
      | some n => if Nat.ble (off + n) x.cs.length then some (.agg ((x.cs.drop off).take n)) else none
      | none => none
    | some false => (x.cs[off]?).map .one
    | none => none
def storeA (P : Program) (m : Mem) (t : TypeId) (b off : Nat) (v : TV) : Option Mem :=
  match m.get b with
  | none => none
  | some x => match sizeB P t with
    | some n => if x.wr && Nat.beq v.cells.length n && Nat.ble (off + n) x.cs.length then some (m.put ⟨b, true, splice x.cs off v.cells⟩) else none
    | none => none
def fillA (place : Nat → Option (Nat × Nat)) (cells : List CV) : List (Nat × TV) → Option (List CV)
  | [] => some cells
  | (i, v) :: rest => match place i with
    | none => none
    | some (off, size) => if Nat.beq v.cells.length size && Nat.ble (off + size) cells.length then fillA place (splice cells off v.cells) rest else none
def zeroA (P : Program) (t : TypeId) : Option TV :=
  match P.info? t with
  | some i => match i.zero with
    | some z => reifyT z
    | none => none
  | none => none
def evalParts (fr : Frm) : List (Nat × Operand) → Option (List (Nat × TV))
  | [] => some []
  | (i, x) :: l => match evalT fr x, evalParts fr l with
    | some v, some r => some ((i, v) :: r)
    | _, _ => none
def buildA (P : Program) (t : TypeId) (parts : List (Nat × TV)) : Option TV :=
  match zeroA P t, P.underlying t with
  | some z, some (.struct fs) => match sizesB P fs.toList with
    | some pl => (fillA (fun i => pl[i]?) z.cells parts).map .agg
    | none => none
  | some z, some (.array _ e) => match sizeB P e with
    | some n => (fillA (fun i => some (i * n, n)) z.cells parts).map .agg
    | none => none
  | _, _ => none
def indexA (P : Program) (t : TypeId) (cs : List CV) (i : Int) : Option TV :=
  match P.underlying t with
  | some (.array len e) => match sizeB P e with
    | some n => if 0 ≤ i ∧ i < len then partA P e cs (i.toNat * n) else none
    | none => none
  | _ => none
def fieldA (P : Program) (t : TypeId) (cs : List CV) (f : Nat) : Option TV :=
  match P.underlying t with
  | some (.struct fs) => match fs[f]? with
    | some x => partA P x.type cs x.offset
    | none => none
  | _ => none

/-! ### Operations -/
structure Tab where
  op : Op → List AV → Option AV
  con : FuncId → List AV → Nat → Option (AV × Option (List CV))
/-- A bound of a slicing: a number as it is, not below 0; or none. -/
def boundA (fr : Frm) : Option Operand → Option (Option Nat)
  | none => some none
  | some x => match evalC fr x with
    | some (.int _ (.lit i)) => if 0 ≤ i then some (some i.toNat) else none
    | _ => none
def pureA (P : Program) (T : Tab) (m : Mem) (fr : Frm) (o : Op) : Option AV :=
  match o with
  | .move x => evalA fr x
  | .assign x => evalA fr x
  | .pick c a b => match evalC fr c with
    | some (.bool true) => evalA fr a
    | some (.bool false) => evalA fr b
    | _ => none
  | .load t a => match evalC fr a with
    | some (.ptr b off) => (loadA P m t b off).map .v
    | _ => none
  | .nilCheck x => match evalC fr x with
    | some (.ptr b o) => some (.v (.one (.ptr b o)))
    | some (.func f a c) => some (.v (.one (.func f a c)))
    | some (.slice b o l c) => some (.v (.one (.slice b o l c)))
    | _ => none
  | .fieldAddr t x f => match evalC fr x, P.underlying t with
    | some (.ptr b o), some (.struct fs) => match fs[f]? with
      | some y => match sizeB P y.type with
        | some (_ + 1) => some (.v (.one (.ptr b (o + y.offset))))
        | _ => none
      | none => none
    | _, _ => none
  | .field t x f => match evalT fr x with
    | some (.agg cs) => (fieldA P t cs f).map .v
    | _ => none
  | .indexAddr t x ix => match evalC fr x, evalC fr ix, P.underlying t with
    | some (.ptr b o), some (.int _ (.lit i)), some (.array len e) => match sizeB P e with
      | some n => if 0 ≤ i ∧ i < len then some (.v (.one (.ptr b (o + i.toNat * n)))) else none
      | none => none
    | some (.slice b o len _), some (.int _ (.lit i)), some (.slice e) => match sizeB P e with
      | some n => if 0 ≤ i ∧ i < len then some (.v (.one (.ptr b (o + i.toNat * n)))) else none
      | none => none
    | _, _, _ => none
  | .index t x ix => match evalT fr x, evalC fr ix with
    | some (.agg cs), some (.int _ (.lit i)) => (indexA P t cs i).map .v
    | _, _ => none
  | .extract x i => match evalA fr x with
    | some (.tup l) => (l[i]?).map .v
    | _ => none
  | .build t parts => match evalParts fr parts.toList with
    | some ps => (buildA P t ps).map .v
    | none => none
  | .makeFunc (.func f) first caps => match evalL fr first.toList, evalL fr caps.toList with
    | some a, some c => match ptrsOf a, ptrsOf c with
      | some a, some c => some (.v (.one (.func f a c)))
      | _, _ => none
    | _, _ => none
  | .slice t x lo hi mx => match evalC fr x, P.underlying t, boundA fr lo, boundA fr hi, mx with
    | some (.slice b o len cap), some (.slice e), some l, some h, none => match sizeB P e with
      | some n =>
        let h := h.getD len
        let l := l.getD 0
        if l ≤ h ∧ h ≤ cap ∧ l < cap then some (.v (.one (.slice b (o + l * n) (h - l) (cap - l)))) else none
      | none => none
    | _, _, _, _, _ => none
  | .unOp .not _ x => match evalC fr x with
    | some (.bool b) => some (.v (.one (.bool (!b))))
    | _ => none
  | .alloc _ => none
  | .box _ _ => none
  | .buildSlice _ _ _ => none
  | .store _ _ _ => none
  | o => match evalL fr o.operands.toList with
    | some vs => T.op o vs
    | none => none

/-- What makes a block, or writes: the value, the memory. -/
def memA (P : Program) (m : Mem) (fr : Frm) (nm : Nat) (o : Op) : Option (AV × Mem) :=
  if m.has nm then none else
  match o with
  | .alloc t => match zeroA P t with
    | some z => if z.cells.all (CV.wf m) then some (.v (.one (.ptr nm 0)), m.put ⟨nm, true, z.cells⟩) else none
    | none => none
  | .box _ x => match evalT fr x with
    | some z => if z.cells.all (CV.wf m) then some (.v (.one (.ptr nm 0)), m.put ⟨nm, true, z.cells⟩) else none
    | none => none
  | .buildSlice t len parts => match P.underlying t, evalParts fr parts.toList with
    | some (.slice e), some ps => match sizeB P e, zeroA P e with
      | some n, some z =>
        if Nat.blt 0 (len * n) && Nat.ble (len * n) 4096 && Nat.beq z.cells.length n then
          match fillA (fun i => some (i * n, n)) ((List.range (len * n)).map fun i => z.cells.getD (i % n) .niliface) ps with
          | some cs => if cs.all (CV.wf m) then some (.v (.one (.slice nm 0 len len)), m.put ⟨nm, true, cs⟩) else none
          | none => none
        else none
      | _, _ => none
    | _, _ => none
  | .store t a x => match evalC fr a, evalT fr x with
    | some (.ptr b off), some v => if v.cells.all (CV.wf m) then (storeA P m t b off v).map fun m' => (nilA, m') else none
    | _, _ => none
  | _ => none

structure St where
  fr : Frm
  m : Mem
  n : Nat
  deriving DecidableEq
abbrev CallFn := FuncId → List AV → Mem → Nat → Option (AV × Mem × Nat)
def ptrsA (l : List (Nat × Nat)) : List AV := l.map fun p => .v (.one (.ptr p.1 p.2))
def targetA (fr : Frm) (c : Call) : Option (FuncId × List AV) :=
  match c.callee with
  | .value f => match evalC fr f, evalL fr c.args.toList with
    | some (.func g a cs), some vs => some (g, ptrsA a ++ vs ++ ptrsA cs)
    | _, _ => none
  | _ => none
def enterable (P : Program) (f : FuncId) : Bool :=
  match P.funcs[f]? with
  | some fn => fn.body.isSome && !(fn.name == "runtime.NumGoroutine")
  | none => false
def putA (st : St) (dst : Option Tmp) (v : AV) : Option St :=
  if v.wf st.m then
    match dst with
    | none => some st
    | some d => if Nat.blt d 1024 && Nat.ble st.fr.n 1024 then some { st with fr := ⟨st.fr.n, st.fr.t.set 10 d v⟩ } else none
  else none
/-- One operation that is wanted; nm: the name for a block that it makes. -/
def stepA (P : Program) (T : Tab) (call : CallFn) (nm : Nat) (st : St) (o : Oper) : Option St :=
  match pureA P T st.m st.fr o.op with
  | some v => putA st o.dst v
  | none => match o.op with
    | .call c => match targetA st.fr c with
      | some (f, args) => if enterable P f then
          match call f args st.m st.n with
          | some (v, m, n) => putA { st with m, n } o.dst v
          | none => none
        else none
      | none => none
    | op => match memA P st.m st.fr nm op with
      | some (v, m) => putA { st with m } o.dst v
      | none => none

def yieldedA (ops : Array Oper) (fr : Frm) (j : Nat) : Option Bool :=
  match ((ops[j]?).bind (·.dst)).bind (fr.get? ·) with
  | some (.v (.one (.bool b))) => some b
  | _ => none
def wantedA (ops : Array Oper) (fr : Frm) (o : Oper) : Bool := Region.wanted o (yieldedA ops fr)
/-- What guards it is no letter. -/
def sureA (ops : Array Oper) (fr : Frm) (o : Oper) : Bool :=
  match o.guard with
  | none => true
  | some (j, _) => match ((ops[j]?).bind (·.dst)).bind (fr.get? ·) with
    | some (.v (.one (.bsym _))) => false
    | _ => true

/-- A region in the order of its text. -/
def listA (P : Program) (T : Tab) (call : CallFn) (ops : Array Oper) : List Oper → St → Option St
  | [], st => some st
  | o :: l, st =>
    if !sureA ops st.fr o then none else
    if wantedA ops st.fr o then
      match stepA P T call st.n { st with n := st.n + 1 } o with
      | some st => listA P T call ops l st
      | none => none
    else match putA st o.dst nilA with
      | some st => listA P T call ops l st
      | none => none

/-! ### A region that draws its order -/
def definer (l : List Oper) (t : Tmp) : Option Op :=
  match l with
  | [] => none
  | o :: l => match o.dst with
    | some d => if Nat.beq d t then some o.op else definer l t
    | none => definer l t
def rootOf (ops : List Oper) (fr : Frm) : Nat → Operand → Option Nat
  | 0, _ => none
  | k + 1, .tmp t => match definer ops t with
    | some (.fieldAddr _ x _) => rootOf ops fr k x
    | some (.indexAddr _ x _) => rootOf ops fr k x
    | some (.nilCheck x) => rootOf ops fr k x
    | some (.move x) => rootOf ops fr k x
    | some _ => none
    | none => match fr.get? t with
      | some (.v (.one (.ptr b _))) => some b
      | some (.v (.one (.slice b _ _ _))) => some b
      | _ => none
  | _ + 1, .global g => some (1000000 + g)
  | _ + 1, _ => none
def rootsOf (ops : List Oper) (fr : Frm) (loads : Bool) : List Oper → List Nat
  | [] => []
  | o :: l => match o.op, loads with
    | .load _ a, true => match rootOf ops fr 8 a with
      | some b => b :: rootsOf ops fr loads l
      | none => rootsOf ops fr loads l
    | .store _ a _, false => match rootOf ops fr 8 a with
      | some b => b :: rootsOf ops fr loads l
      | none => rootsOf ops fr loads l
    | _, _ => rootsOf ops fr loads l
def heldA (ops : Array Oper) (st : St) : Mem :=
  let ls := rootsOf ops.toList st.fr true ops.toList
  let ss := rootsOf ops.toList st.fr false ops.toList
  st.m.filter fun x => ls.any (Nat.beq x.name ·) && !(ss.any (Nat.beq x.name ·))
def subM (a m : Mem) : Bool := a.all fun x => match m.get x.name with
  | some y => decide (y = x)
  | none => false
def bitA (L i : Nat) : Bool := Nat.beq (Nat.land (Nat.shiftRight L i) 1) 1
def edgesA : List Edge → List Nat
  | [] => []
  | e :: l => if Region.binds .any e then e.on :: edgesA l else edgesA l
def edgesOf (ops : List Oper) : List (List Nat) := ops.map fun o => edgesA o.after.toList
def allBits (L : Nat) : List Nat → Bool
  | [] => true
  | i :: l => if bitA L i then allBits L l else false
/-- Those that may come up. -/
def readyA (L : Nat) : Nat → List (List Nat) → List Nat
  | _, [] => []
  | i, e :: l => if bitA L i then readyA L (i + 1) l else if allBits L e then i :: readyA L (i + 1) l else readyA L (i + 1) l
/-- What stands in the way of an operation's being taken first: none that is not listed. -/
def freeA (ops : Array Oper) (oi : Oper) (i : Nat) (L : Nat) : Nat → List Oper → Bool
  | _, [] => true
  | j, o :: l => (Nat.beq j i || bitA L j || o.after.any (fun e => Region.binds .any e && e.on == i) || oi.apart ops o) && freeA ops oi i L (j + 1) l
/-- The first of those that may come up that may be taken first: its number and value. -/
def takeA (P : Program) (T : Tab) (ops : Array Oper) (mS : Mem) (L : Nat) (fr : Frm) : List Nat → Option (Nat × Oper × AV)
  | [] => none
  | i :: l => match ops[i]? with
    | none => takeA P T ops mS L fr l
    | some o =>
      if !sureA ops fr o then takeA P T ops mS L fr l else
      if wantedA ops fr o then
        match pureA P T mS fr o.op with
        | some v => if freeA ops o i L 0 ops.toList then some (i, o, v) else takeA P T ops mS L fr l
        | none => takeA P T ops mS L fr l
      else if freeA ops o i L 0 ops.toList then some (i, o, nilA) else takeA P T ops mS L fr l
def allSame (f : Nat → Option St) : List Nat → Option St
  | [] => none
  | i :: l => match l with
    | [] => f i
    | _ :: _ => match f i, allSame f l with
      | some a, some b => if a = b then some a else none
      | _, _ => none
def anyA (P : Program) (T : Tab) (call : CallFn) (ops : Array Oper) (es : List (List Nat)) (mS : Mem) (b0 : Nat) : Nat → Nat → St → Option St
  | 0, _, _ => none
  | k + 1, L, st =>
    let rs := readyA L 0 es
    match rs with
    | [] => some st
    | _ :: _ => match takeA P T ops mS L st.fr rs with
      | some (i, o, v) => match putA st o.dst v with
        | some st => anyA P T call ops es mS b0 k (Nat.lor L (Nat.shiftLeft 1 i)) st
        | none => none
      | none => allSame (fun i => match ops[i]? with
        | none => none
        | some o =>
          if !sureA ops st.fr o then none else
          if wantedA ops st.fr o then
            match stepA P T call (b0 + i) st o with
            | some st => if subM mS st.m then anyA P T call ops es mS b0 k (Nat.lor L (Nat.shiftLeft 1 i)) st else none
            | none => none
          else match putA st o.dst nilA with
            | some st => anyA P T call ops es mS b0 k (Nat.lor L (Nat.shiftLeft 1 i)) st
            | none => none) rs

/-! ### Code -/
inductive XX where
  | nor
  | exit (id : Nat)
  | ret
def XX.toExit : XX → Exit
  | .nor => .normal
  | .exit i => .exit i
  | .ret => .ret
def loopA (f : St → Option (XX × St)) : Nat → St → Option (XX × St)
  | 0, _ => none
  | n + 1, st => match f st with
    | some (.nor, st) => loopA f n st
    | r => r
def execA (P : Program) (T : Tab) (call : CallFn) : Code → St → Option (XX × St)
  | .skip, st => some (.nor, st)
  | .label _, st => some (.nor, st)
  | .region _ ops false, st => (listA P T call ops ops.toList st).map fun st => (.nor, st)
  | .region _ ops true, st =>
    if Region.noSelect ops && P.follows .mixedOrders then
      let mS := heldA ops st
      if subM mS st.m then (anyA P T call ops (edgesOf ops.toList) mS st.n (ops.size + 1) 0 { st with n := st.n + ops.size }).map fun st => (.nor, st) else none
    else none
  | .seq a b, st => match execA P T call a st with
    | some (.nor, st) => execA P T call b st
    | r => r
  | .cond c a b, st => match evalC st.fr c with
    | some (.bool true) => execA P T call a st
    | some (.bool false) => execA P T call b st
    | _ => none
  | .block id c, st => match execA P T call c st with
    | some (.exit i, st) => if i = id then some (.nor, st) else some (.exit i, st)
    | r => r
  | .loop c, st => loopA (execA P T call c) 1000 st
  | .exit id, st => some (.exit id, st)
  | .scope c, st => execA P T call c st
  | .ret, st => some (.ret, st)
  | _, _ => none

def resultsA (P : Program) (st : St) : List ResultVar → Option (List TV)
  | [] => some []
  | .tmp t :: l => match st.fr.get? t, resultsA P st l with
    | some (.v x), some r => some (x :: r)
    | _, _ => none
  | .cell a t :: l => match st.fr.get? a, resultsA P st l with
    | some (.v (.one (.ptr b o))), some r => (loadA P st.m t b o).map (· :: r)
    | _, _ => none
def packA : List TV → AV
  | [x] => .v x
  | l => .tup l
/-- A call: by its contract, else by its body; d: how deep bodies are entered. -/
def callA (P : Program) (T : Tab) : Nat → CallFn
  | 0, _, _, _, _ => none
  | d + 1, f, args, m, n =>
    match T.con f args n with
    | some (v, none) => some (v, m, n)
    | some (v, some cs) => if m.has n then none else if cs.all (CV.wf m) then some (v, m.put ⟨n, false, cs⟩, n + 1) else none
    | none => match P.funcs[f]? with
      | some fn => match fn.body with
        | some c =>
          if Nat.ble (args.length + (fn.ntmps - args.length)) 1024 then
          match execA P T (callA P T d) c ⟨Frm.of args fn.ntmps, m, n⟩ with
          | some (.nor, st) => (resultsA P st fn.results.toList).map fun r => (packA r, st.m, st.n)
          | some (.ret, st) => (resultsA P st fn.results.toList).map fun r => (packA r, st.m, st.n)
          | _ => none
          else none
        | none => none
      | none => none
/-- A function from nothing: what it answers. -/
def runA (P : Program) (T : Tab) (d : Nat) (f : FuncId) (args : List AV) : Option AV :=
  (callA P T d f args [] 0).map (·.1)
/-- A function over what is known of the memory. -/
def runM (P : Program) (T : Tab) (d : Nat) (m : Mem) (f : FuncId) (args : List AV) : Option AV :=
  (callA P T d f args m 0).map (·.1)

end Go.Proofs.Ytpdaigenffecmaa

namespace Go.Proofs.Ytpdaigenffecmaa
open Go Go.RowKit

section
variable {P : Program} {ρ : Nat → Int} {s s' : Nat → Nat} {m m' : Mem} {w w' : World}

/-! ### Names -/
def Ext (m : Mem) (s s' : Nat → Nat) : Prop := ∀ b, m.has b = true → s' b = s b
theorem Ext.refl : Ext m s s := fun _ _ => rfl
def Grows (m m' : Mem) : Prop := ∀ b, m.has b = true → m'.has b = true
theorem Grows.refl : Grows m m := fun _ h => h
theorem Grows.trans {m'' : Mem} (h : Grows m m') (k : Grows m' m'') : Grows m m'' := fun b hb => k b (h b hb)
theorem Ext.trans {s'' : Nat → Nat} (h : Ext m s s') (g : Grows m m') (k : Ext m' s' s'') : Ext m s s'' := fun b hb => (k b (g b hb)).trans (h b hb)

theorem γP_ext (h : Ext m s s') {p : Nat × Nat} (hp : m.has p.1 = true) : γP s' p = γP s p := by simp [γP, h p.1 hp]
theorem γPs_ext (h : Ext m s s') {l : List (Nat × Nat)} (hl : l.all (fun p => m.has p.1) = true) : l.map (γP s') = l.map (γP s) :=
  List.map_congr_left fun p hp => γP_ext h (List.all_eq_true.1 hl p hp)
theorem γC_ext (h : Ext m s s') {c : CV} (hc : c.wf m = true) : γC ρ s' c = γC ρ s c := by
  cases c with
  | ptr b o => simp [γC, h b hc]
  | slice b o l k => simp [γC, h b hc]
  | func f a c =>
    simp only [CV.wf, Bool.and_eq_true] at hc
    simp only [γC, γPs_ext h hc.1, γPs_ext h hc.2]
  | _ => rfl
theorem γCs_ext (h : Ext m s s') {l : List CV} (hl : l.all (CV.wf m) = true) : l.map (γC ρ s') = l.map (γC ρ s) :=
  List.map_congr_left fun c hc => γC_ext h (List.all_eq_true.1 hl c hc)
theorem γT_ext (h : Ext m s s') {t : TV} (ht : t.wf m = true) : γT ρ s' t = γT ρ s t := by
  cases t with
  | one c => exact γC_ext h ht
  | agg l => simp only [γT, γCs_ext h ht]
theorem γ_ext (h : Ext m s s') {v : AV} (hv : v.wf m = true) : γ ρ s' v = γ ρ s v := by
  cases v with
  | v t => exact γT_ext h hv
  | tup l =>
    have : l.map (γT ρ s') = l.map (γT ρ s) := List.map_congr_left fun c hc => γT_ext h (List.all_eq_true.1 hv c hc)
    simp only [γ, this]
theorem γs_ext (h : Ext m s s') {l : List AV} (hl : ∀ v ∈ l, v.wf m = true) : l.map (γ ρ s') = l.map (γ ρ s) :=
  List.map_congr_left fun v hv => γ_ext h (hl v hv)

theorem CV.wf_grows (g : Grows m m') {c : CV} (h : c.wf m = true) : c.wf m' = true := by
  cases c with
  | ptr b o => exact g b h
  | slice b o l k => exact g b h
  | func f a c =>
    simp only [CV.wf, Bool.and_eq_true, List.all_eq_true] at h ⊢
    exact ⟨fun p hp => g _ (h.1 p hp), fun p hp => g _ (h.2 p hp)⟩
  | _ => rfl
theorem CVs_wf_grows (g : Grows m m') {l : List CV} (h : l.all (CV.wf m) = true) : l.all (CV.wf m') = true := by
  rw [List.all_eq_true] at *
  exact fun c hc => CV.wf_grows g (h c hc)
theorem TV.wf_grows (g : Grows m m') {t : TV} (h : t.wf m = true) : t.wf m' = true := by
  cases t with
  | one c => exact CV.wf_grows g h
  | agg l => exact CVs_wf_grows g h
theorem AV.wf_grows (g : Grows m m') {v : AV} (h : v.wf m = true) : v.wf m' = true := by
  cases v with
  | v t => exact TV.wf_grows g h
  | tup l =>
    simp only [AV.wf, List.all_eq_true] at *
    exact fun c hc => TV.wf_grows g (h c hc)

/-! ### The memory's words -/
theorem Mem.get_name {b : Nat} {x : Blk} : ∀ {m : Mem}, m.get b = some x → x.name = b
  | [], h => by simp [Mem.get] at h
  | y :: m, h => by
    simp only [Mem.get] at h
    split at h
    · rename_i e; cases h; exact Nat.eq_of_beq_eq_true e
    · exact Mem.get_name h
theorem Mem.get_put (y : Blk) (b : Nat) : ∀ m : Mem, (m.put y).get b = if y.name = b then some y else m.get b
  | [] => by
    simp only [Mem.put, Mem.get]
    by_cases h : y.name = b
    · rw [if_pos h, if_pos (by simp [h])]
    · rw [if_neg h, if_neg (by simp [h])]
  | x :: m => by
    have ih := Mem.get_put y b m
    have hx : ∀ a c : Nat, (Nat.beq a c = true) = (a = c) := fun a c => by simp
    simp only [Mem.put]
    by_cases h1 : x.name = y.name
    · rw [if_pos (by simp [h1])]
      simp only [Mem.get, hx, h1]
      split <;> simp_all
    · rw [if_neg (by simp [h1])]
      by_cases h2 : x.name < y.name
      · rw [if_pos (by simpa [Nat.blt_eq] using h2)]
        simp only [Mem.get, hx]
      · rw [if_neg (by simpa [Nat.blt_eq] using h2)]
        simp only [Mem.get, hx, ih]
        by_cases h3 : x.name = b
        · rw [if_pos h3, if_neg (by omega), if_pos h3]
        · rw [if_neg h3, if_neg h3]
theorem grows_put (m : Mem) (y : Blk) : Grows m (m.put y) := fun b h => by
  unfold Mem.has at *
  rw [Mem.get_put]
  by_cases hb : Nat.ble 1000000 b = true
  · rw [if_pos hb]
  · rw [if_neg hb] at h ⊢
    split
    · rfl
    · exact h

/-- The known cells lie in the world. -/
def Cells (ρ : Nat → Int) (s : Nat → Nat) (m : Mem) (w : World) : Prop :=
  ∀ b x, m.get b = some x → ∀ j c, x.cs[j]? = some c → w.cell? ⟨s b, j, none⟩ = some (γC ρ s c)

/-! ### Frames -/
def act (ρ : Nat → Int) (s : Nat → Nat) (fr : Frm) : Act := ⟨((List.range fr.n).map fun i => γ ρ s (fr.t.get 10 i)).toArray, []⟩

theorem reifyC_ok {v : Value} {c : CV} (h : reifyC v = some c) : γC ρ s c = v := by
  unfold reifyC at h
  split at h <;> first | (cases h; rfl) | cases h
theorem reifyL_ok : ∀ {l : List Value} {cs : List CV}, reifyL l = some cs → cs.map (γC ρ s) = l
  | [], cs, h => by simp [reifyL] at h; subst h; rfl
  | v :: l, cs, h => by
    simp only [reifyL] at h
    split at h
    · rename_i c r h1 h2
      cases h
      simp [reifyC_ok h1, reifyL_ok h2]
    · cases h
theorem reifyT_ok {v : Value} {t : TV} (h : reifyT v = some t) : γT ρ s t = v := by
  unfold reifyT at h
  split at h
  · rename_i cs
    cases hl : reifyL cs.toList with
    | none => simp [hl] at h
    | some l =>
      simp [hl] at h; subst h
      simp [γT, reifyL_ok hl]
  · cases hl : reifyC v with
    | none => simp [hl] at h
    | some l => simp [hl] at h; subst h; exact reifyC_ok hl

variable {fr : Frm}
theorem beq_true' {a b : Nat} : (Nat.beq a b = true) = (a = b) := by simp
theorem Fr.get_nil : ∀ k i, Fr.get k .nil i = nilA
  | 0, _ => rfl
  | _ + 1, _ => rfl
theorem Fr.get_set : ∀ (k : Nat) (t : Fr) (i j : Nat) (v : AV), i < 2 ^ k → j < 2 ^ k → (t.set k i v).get k j = if i = j then v else t.get k j
  | 0, t, i, j, v, hi, hj => by
    simp at hi hj; subst hi; subst hj
    cases t <;> rfl
  | k + 1, t, i, j, v, hi, hj => by
    have h1 : i / 2 < 2 ^ k := by rw [Nat.pow_succ] at hi; omega
    have h2 : j / 2 < 2 ^ k := by rw [Nat.pow_succ] at hj; omega
    have ih := fun t => Fr.get_set k t (i / 2) (j / 2) v h1 h2
    have e0 : ∀ (k : Nat) (l r : Fr) (i : Nat), Fr.get (k + 1) (.bin l r) i = if i % 2 = 0 then l.get k (i / 2) else r.get k (i / 2) := by
      intro k l r i
      show (if Nat.beq (i % 2) 0 then _ else _) = _
      simp only [beq_true']; rfl
    have e1 : ∀ (t : Fr), (∀ l r, t ≠ .bin l r) → Fr.get (k + 1) t j = nilA := by
      intro t ht; cases t with
      | nil => rfl
      | leaf v => rfl
      | bin l r => exact (ht l r rfl).elim
    have hs : ∀ t : Fr, t.set (k + 1) i v = match t with
        | .bin l r => if i % 2 = 0 then .bin (l.set k (i / 2) v) r else .bin l (r.set k (i / 2) v)
        | _ => if i % 2 = 0 then .bin (Fr.set k .nil (i / 2) v) .nil else .bin .nil (Fr.set k .nil (i / 2) v) := by
      intro t
      cases t with
      | bin l r => show (if Nat.beq (i % 2) 0 then _ else _) = _; simp only [beq_true']; rfl
      | nil => show (if Nat.beq (i % 2) 0 then _ else _) = _; simp only [beq_true']; rfl
      | leaf u => show (if Nat.beq (i % 2) 0 then _ else _) = _; simp only [beq_true']; rfl
    rw [hs]
    cases t with
    | bin l r =>
      simp only []
      by_cases hi2 : i % 2 = 0 <;> by_cases hj2 : j % 2 = 0
      · rw [if_pos hi2, e0, e0, if_pos hj2, if_pos hj2, ih]; congr 1; apply propext; constructor <;> omega
      · rw [if_pos hi2, e0, e0, if_neg hj2, if_neg hj2, if_neg (by omega)]
      · rw [if_neg hi2, e0, e0, if_pos hj2, if_pos hj2, if_neg (by omega)]
      · rw [if_neg hi2, e0, e0, if_neg hj2, if_neg hj2, ih]; congr 1; apply propext; constructor <;> omega
    | nil =>
      simp only []
      rw [e1 .nil (by simp)]
      by_cases hi2 : i % 2 = 0 <;> by_cases hj2 : j % 2 = 0
      · rw [if_pos hi2, e0, if_pos hj2, ih, Fr.get_nil]; congr 1; apply propext; constructor <;> omega
      · rw [if_pos hi2, e0, if_neg hj2, if_neg (by omega), Fr.get_nil]
      · rw [if_neg hi2, e0, if_pos hj2, if_neg (by omega), Fr.get_nil]
      · rw [if_neg hi2, e0, if_neg hj2, ih, Fr.get_nil]; congr 1; apply propext; constructor <;> omega
    | leaf u =>
      simp only []
      rw [e1 (.leaf u) (by simp)]
      by_cases hi2 : i % 2 = 0 <;> by_cases hj2 : j % 2 = 0
      · rw [if_pos hi2, e0, if_pos hj2, ih, Fr.get_nil]; congr 1; apply propext; constructor <;> omega
      · rw [if_pos hi2, e0, if_neg hj2, if_neg (by omega), Fr.get_nil]
      · rw [if_neg hi2, e0, if_pos hj2, if_neg (by omega), Fr.get_nil]
      · rw [if_neg hi2, e0, if_neg hj2, ih, Fr.get_nil]; congr 1; apply propext; constructor <;> omega
theorem get?_some {i : Nat} {v : AV} (h : fr.get? i = some v) : i < fr.n ∧ i < 1024 ∧ v = fr.t.get 10 i := by
  unfold Frm.get? at h
  split at h
  · rename_i hc
    simp only [Bool.and_eq_true, Nat.blt_eq] at hc
    cases h
    exact ⟨hc.1, hc.2, rfl⟩
  · cases h
theorem tmps_at {i : Nat} {v : AV} (h : fr.get? i = some v) : (act ρ s fr).tmps[i]? = some (γ ρ s v) := by
  obtain ⟨h1, h2, rfl⟩ := get?_some h
  simp [act, h1]
/-- The names of the package's variables. -/
def Gl (s : Nat → Nat) : Prop := ∀ g, s (1000000 + g) = g
theorem evalA_ok (hg : Gl s) {x : Operand} {v : AV} (h : evalA fr x = some v) : (act ρ s fr).eval x = γ ρ s v := by
  cases x with
  | tmp t =>
    simp only [evalA] at h
    simp [Act.eval, Array.getD_eq_getD_getElem?, tmps_at h]
  | const u =>
    simp only [evalA] at h
    cases hr : reifyT u with
    | none => simp [hr] at h
    | some t => simp [hr] at h; subst h; exact (reifyT_ok hr).symm
  | global g =>
    simp only [evalA] at h
    cases h
    show Value.pointer (some ⟨g, 0, none⟩) = .pointer (some ⟨s (1000000 + g), 0, none⟩)
    rw [hg g]
  | func f => simp only [evalA] at h; cases h; rfl
theorem evalT_ok (hg : Gl s) {x : Operand} {t : TV} (h : evalT fr x = some t) : (act ρ s fr).eval x = γT ρ s t := by
  unfold evalT at h
  split at h
  · rename_i e; cases h; exact evalA_ok hg e
  · cases h
theorem evalC_ok (hg : Gl s) {x : Operand} {c : CV} (h : evalC fr x = some c) : (act ρ s fr).eval x = γC ρ s c := by
  unfold evalC at h
  split at h
  · rename_i e; cases h; exact evalA_ok hg e
  · cases h
theorem evalL_ok (hg : Gl s) : ∀ {l : List Operand} {vs : List AV}, evalL fr l = some vs → l.map (act ρ s fr).eval = vs.map (γ ρ s)
  | [], vs, h => by simp [evalL] at h; subst h; rfl
  | x :: l, vs, h => by
    simp only [evalL] at h
    split at h
    · rename_i v r h1 h2
      cases h
      simp [evalA_ok hg h1, evalL_ok hg h2]
    · cases h
theorem evalParts_ok (hg : Gl s) : ∀ {l : List (Nat × Operand)} {ps : List (Nat × TV)}, evalParts fr l = some ps →
    l.map (fun p => (p.1, (act ρ s fr).eval p.2)) = ps.map (fun p => (p.1, γT ρ s p.2))
  | [], ps, h => by simp [evalParts] at h; subst h; rfl
  | (i, x) :: l, ps, h => by
    simp only [evalParts] at h
    split at h
    · rename_i v r h1 h2
      cases h
      simp [evalT_ok hg h1, evalParts_ok hg h2]
    · cases h
theorem ptrsOf_ok : ∀ {l : List AV} {ps : List (Nat × Nat)}, ptrsOf l = some ps → l.map (γ ρ s) = ps.map (γP s)
  | [], ps, h => by simp [ptrsOf] at h; subst h; rfl
  | .v (.one (.ptr b o)) :: l, ps, h => by
    simp only [ptrsOf] at h
    cases hl : ptrsOf l with
    | none => simp [hl] at h
    | some r => simp [hl] at h; subst h; simp [ptrsOf_ok hl, γ, γT, γC, γP]
  | .v (.one (.int _ _)) :: l, ps, h => by simp [ptrsOf] at h
  | .v (.one (.bool _)) :: l, ps, h => by simp [ptrsOf] at h
  | .v (.one .nilp) :: l, ps, h => by simp [ptrsOf] at h
  | .v (.one (.func _ _ _)) :: l, ps, h => by simp [ptrsOf] at h
  | .v (.one (.slice _ _ _ _)) :: l, ps, h => by simp [ptrsOf] at h
  | .v (.one .niliface) :: l, ps, h => by simp [ptrsOf] at h
  | .v (.one .nilf) :: l, ps, h => by simp [ptrsOf] at h
  | .v (.one .nils) :: l, ps, h => by simp [ptrsOf] at h
  | .v (.agg _) :: l, ps, h => by simp [ptrsOf] at h
  | .tup _ :: l, ps, h => by simp [ptrsOf] at h
theorem act_put {d : Tmp} {v : AV} (hd : d < 1024) (hn : fr.n ≤ 1024) : (act ρ s fr).put (some d) (γ ρ s v) = act ρ s ⟨fr.n, fr.t.set 10 d v⟩ := by
  simp only [Act.put, act, Act.mk.injEq, and_true]
  apply Array.ext_getElem?
  intro i
  simp only [List.setIfInBounds_toArray, List.getElem?_toArray, List.getElem?_set, List.length_map, List.length_range, List.getElem?_map, List.getElem?_range]
  by_cases hi : i < fr.n
  · have hi' : i < 1024 := by omega
    rw [List.getElem?_range hi]
    simp only [Option.map_some, Fr.get_set 10 _ d i v hd hi']
    by_cases e : d = i
    · subst e; simp [hi]
    · simp [e]
  · have : (List.range fr.n)[i]? = none := by simp; omega
    rw [this]
    by_cases e : d = i
    · subst e; simp [hi]
    · simp [e]

end
end Go.Proofs.Ytpdaigenffecmaa
