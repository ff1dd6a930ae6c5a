/-
  Package vec: each at one operation.
-/
import Derived.Test.YtpdaigenffecmaaM14
import Derived.Test.YtpdaigenffecmaaM19
set_option linter.all false
namespace Go.Proofs.Ytpdaigenffecmaa
open Go.RowKit Go.Shelf

set_option maxHeartbeats 2000000 in
theorem c_each_sqr (q p : Nat) (x0 x1 x2 x3 x4 x5 y0 y1 y2 y3 y4 y5 e0 : Int) (w : World) (hp : p < w.heap.size) (hq : q < w.heap.size) (hqp : ¬ q = p) (hqc : w.cell? ⟨q, 0, none⟩ = some (.pointer (some ⟨p, 0, none⟩))) (hc : w.cell? ⟨p, 0, none⟩ = some (.int .i64 e0)) (hf : w.frozen? ⟨p, 0, none⟩ = false) :
    Calls Try.prog 64 #[.agg #[.int .i64 x0, .int .i64 x1, .int .i64 x2, .int .i64 x3, .int .i64 x4, .int .i64 x5], .agg #[.int .i64 y0, .int .i64 y1, .int .i64 y2, .int .i64 y3, .int .i64 y4, .int .i64 y5], .func (.func 121) #[] #[.pointer (some ⟨q, 0, none⟩)]] w
      (Took p (.agg #[.int .i64 (spPow (x0, x1) 2).1, .int .i64 (spPow (x0, x1) 2).2.1, .int .i64 (spPow (x2, x3) 2).1, .int .i64 (spPow (x2, x3) 2).2.1, .int .i64 (spPow (x4, x5) 2).1, .int .i64 (spPow (x4, x5) 2).2.1]) (errTo e0 (spPow (x0, x1) 2).2.2 (spPow (x2, x3) 2).2.2 (spPow (x4, x5) 2).2.2 3) w) := by
  obtain ⟨ra, hra⟩ : ∃ r, r = spPow (x0, x1) 2 := ⟨_, rfl⟩
  obtain ⟨rb, hrb⟩ : ∃ r, r = spPow (x2, x3) 2 := ⟨_, rfl⟩
  obtain ⟨rc, hrc⟩ : ∃ r, r = spPow (x4, x5) 2 := ⟨_, rfl⟩
  rw [← hra, ← hrb, ← hrc]
  have HRA := Lib.hid hra; clear hra
  have HRB := Lib.hid hrb; clear hrb
  have HRC := Lib.hid hrc; clear hrc
  have n0 : ¬ w.heap.size = p := by omega
  have n1 : ¬ w.heap.size + 1 = p := by omega
  have n2 : ¬ w.heap.size + 1 + 1 = p := by omega
  have n3 : ¬ w.heap.size + 1 + 1 + 1 = p := by omega
  have m0 : p < w.heap.size + 1 := by omega
  have m1 : p < w.heap.size + 1 + 1 := by omega
  have m2 : p < w.heap.size + 1 + 1 + 1 := by omega
  have m3 : p < w.heap.size + 1 + 1 + 1 + 1 := by omega
  go_enter Try.func64, Try.ntmps64
  go_wp2
  go_loopw [9] (fun iv wr => ∃ k : Nat, k ≤ 3 ∧ iv = .int .i64 (k : Int) ∧ Hid (Tab6 wr w.heap.size (six x0 x1 x2 x3 x4 x5)) ∧ Hid (Tab6 wr (w.heap.size + 1) (six y0 y1 y2 y3 y4 y5)) ∧ Hid (Tab6 wr (w.heap.size + 1 + 1) (fun _ => 0)) ∧ Hid (Soft6 wr (w.heap.size + 1 + 1)) ∧
    Hid (Tab6 wr (w.heap.size + 1 + 1 + 1) (to6 (six ra.1 ra.2.1 rb.1 rb.2.1 rc.1 rc.2.1) k)) ∧ Hid (Soft6 wr (w.heap.size + 1 + 1 + 1)) ∧ wr.cell? ⟨p, 0, none⟩ = some (.int .i64 (errTo e0 ra.2.2 rb.2.2 rc.2.2 k)) ∧ wr.frozen? ⟨p, 0, none⟩ = false ∧ Hid (OnlyB p w wr) ∧ w.heap.size + 1 + 1 + 1 < wr.heap.size) (fun iv _ => 3 - (intOf iv).toNat)
  case atStart =>
    refine ⟨0, by omega, rfl, ?_, ?_, ?_, ?_, ?_, ?_, ?_, ?_, ?_, ?_⟩
    · intro j hj; rcases (by omega : j = 0 ∨ j = 1 ∨ j = 2 ∨ j = 3 ∨ j = 4 ∨ j = 5) with rfl | rfl | rfl | rfl | rfl | rfl <;> simp [go_sem, six]
    · intro j hj; rcases (by omega : j = 0 ∨ j = 1 ∨ j = 2 ∨ j = 3 ∨ j = 4 ∨ j = 5) with rfl | rfl | rfl | rfl | rfl | rfl <;> simp [go_sem, six]
    · intro j hj; rcases (by omega : j = 0 ∨ j = 1 ∨ j = 2 ∨ j = 3 ∨ j = 4 ∨ j = 5) with rfl | rfl | rfl | rfl | rfl | rfl <;> simp [go_sem]
    · intro j; simp [go_sem]
    · intro j hj; rcases (by omega : j = 0 ∨ j = 1 ∨ j = 2 ∨ j = 3 ∨ j = 4 ∨ j = 5) with rfl | rfl | rfl | rfl | rfl | rfl <;> simp [go_sem, to6]
    · intro j; simp [go_sem]
    · simp [go_sem, *, errTo]
    · simp [go_sem, *]
    · unfold Hid; (repeat' (first | (with_reducible exact OnlyB.refl _ _) | assumption | (with_reducible refine OnlyB.set ?_ _ _ ?_) | (with_reducible refine OnlyB.alloc ?_ _) | (with_reducible refine OnlyB.drew ?_) | (with_reducible refine OnlyB.of_below ?_ (by assumption) ?_) | (with_reducible refine OnlyB.trans ?_ (by assumption)) | omega | (simp; done) | (simp; omega)))
    · simp [go_sem]
  case round =>
    obtain ⟨k, hk, rfl, tx, ty, t0, s0, tr, sr, hc', hf', ho, hsz⟩ := hrel
    rcases (by omega : k = 0 ∨ k = 1 ∨ k = 2 ∨ k = 3) with rfl | rfl | rfl | rfl
    · clear hk
      have a0 : wr.cell? ⟨w.heap.size, 0, none⟩ = some (.int .i64 x0) := by have := tx.out 0 (by omega); simpa [six] using this
      have a1 : wr.cell? ⟨w.heap.size, 1, none⟩ = some (.int .i64 x1) := by have := tx.out 1 (by omega); simpa [six] using this
      have b0 : wr.cell? ⟨w.heap.size + 1, 0, none⟩ = some (.int .i64 y0) := by have := ty.out 0 (by omega); simpa [six] using this
      have b1 : wr.cell? ⟨w.heap.size + 1, 1, none⟩ = some (.int .i64 y1) := by have := ty.out 1 (by omega); simpa [six] using this
      have o0 : wr.cell? ⟨w.heap.size + 1 + 1 + 1, 0, none⟩ = some (.int .i64 0) := by have := tr.out 0 (by omega); simpa [to6] using this
      have o1 : wr.cell? ⟨w.heap.size + 1 + 1 + 1, 1, none⟩ = some (.int .i64 0) := by have := tr.out 1 (by omega); simpa [to6] using this
      have z0 : wr.frozen? ⟨w.heap.size + 1 + 1 + 1, 0, none⟩ = false := sr.out _
      have z1 : wr.frozen? ⟨w.heap.size + 1 + 1 + 1, 1, none⟩ = false := sr.out _
      have hpw : p < wr.heap.size := by omega
      have hqw : q < wr.heap.size := by omega
      have hqW : wr.cell? ⟨q, 0, none⟩ = some (.pointer (some ⟨p, 0, none⟩)) := (ho.out.cell hq hqp).trans hqc
      have y0w : w.heap.size < wr.heap.size := by omega
      have y1w : w.heap.size + 1 < wr.heap.size := by omega
      have EK : errTo e0 ra.2.2 rb.2.2 rc.2.2 1 = fst2 (errTo e0 ra.2.2 rb.2.2 rc.2.2 0) ra.2.2 := by simp [errTo]
      have EK := Lib.hid EK
      obtain ⟨ek, hek⟩ : ∃ ek, ek = errTo e0 ra.2.2 rb.2.2 rc.2.2 0 := ⟨_, rfl⟩
      rw [← hek] at hc'
      have HEK := Lib.hid hek; clear hek
      have d1 : ¬ w.heap.size + 1 = w.heap.size := by omega
      have d2 : ¬ w.heap.size + 1 + 1 = w.heap.size := by omega
      have d3 : ¬ w.heap.size + 1 + 1 + 1 = w.heap.size := by omega
      have d1' : ¬ w.heap.size = w.heap.size + 1 := by omega
      have d2' : ¬ w.heap.size = w.heap.size + 1 + 1 := by omega
      have d3' : ¬ w.heap.size = w.heap.size + 1 + 1 + 1 := by omega
      go_wp2_with (fail)
      go_region_held3 (fun w' => w'.cell? ⟨w.heap.size, 0, none⟩ = some (.int .i64 x0) ∧ w'.cell? ⟨w.heap.size, 1, none⟩ = some (.int .i64 x1) ∧ w'.cell? ⟨w.heap.size + 1, 0, none⟩ = some (.int .i64 y0) ∧ w'.cell? ⟨w.heap.size + 1, 1, none⟩ = some (.int .i64 y1)) (go_keep) (first | (go_at_call 121; refine (c_norm1 q p x0 x1 y0 y1 ek wr.drew hpw hqw hqp hqW hc' hf').mono ?_; rw [← HRA.out]; rintro e w2 ⟨rfl, ho2, hc2, hf2⟩; (have ho2 : OnlyB p wr w2 := ⟨ho2.os, ho2.tape, ho2.output, ho2.size, ho2.block⟩); (have hs2 : wr.heap.size ≤ w2.heap.size := ho2.size); (have a0' : w2.cell? ⟨w.heap.size, 0, none⟩ = some (.int .i64 x0) := (ho2.cell (by omega) (by omega)).trans a0); (have a1' : w2.cell? ⟨w.heap.size, 1, none⟩ = some (.int .i64 x1) := (ho2.cell (by omega) (by omega)).trans a1); (have b0' : w2.cell? ⟨w.heap.size + 1, 0, none⟩ = some (.int .i64 y0) := (ho2.cell (by omega) (by omega)).trans b0); (have b1' : w2.cell? ⟨w.heap.size + 1, 1, none⟩ = some (.int .i64 y1) := (ho2.cell (by omega) (by omega)).trans b1); (have o0' : w2.cell? ⟨w.heap.size + 1 + 1 + 1, 0, none⟩ = some (.int .i64 0) := (ho2.cell (by omega) (by omega)).trans o0); (have o1' : w2.cell? ⟨w.heap.size + 1 + 1 + 1, 1, none⟩ = some (.int .i64 0) := (ho2.cell (by omega) (by omega)).trans o1); (have z0' : w2.frozen? ⟨w.heap.size + 1 + 1 + 1, 0, none⟩ = false := (ho2.frozen (by omega) (by omega)).trans z0); (have z1' : w2.frozen? ⟨w.heap.size + 1 + 1 + 1, 1, none⟩ = false := (ho2.frozen (by omega) (by omega)).trans z1)))
      go_wp2
      go_roundw
      case rel =>
        have hq2 : OnlyB p w w2 := ho.out.trans ho2
        refine ⟨1, by omega, rfl, ?_, ?_, ?_, ?_, ?_, ?_, ?_, ?_, ?_, ?_⟩
        · exact (((tx.out.only ho2 (by omega) (by omega)).other _ _ (by simp only; omega)).other _ _ (by simp only; omega))
        · exact (((ty.out.only ho2 (by omega) (by omega)).other _ _ (by simp only; omega)).other _ _ (by simp only; omega))
        · exact (((t0.out.only ho2 (by omega) (by omega)).other _ _ (by simp only; omega)).other _ _ (by simp only; omega))
        · exact (((s0.out.only ho2 (by omega) (by omega)).set _ _).set _ _)
        · exact ((((tr.out.only ho2 (by omega) (by omega)).set 0 ra.1 (by omega)).set 1 ra.2.1 (by omega)).congr (by intro j hj; rcases (by omega : j = 0 ∨ j = 1 ∨ j = 2 ∨ j = 3 ∨ j = 4 ∨ j = 5) with rfl | rfl | rfl | rfl | rfl | rfl <;> simp [to6, six]))
        · exact (((sr.out.only ho2 (by omega) (by omega)).set _ _).set _ _)
        · rw [World.cell?_setCell_far _ _ _ _ (by simp only; omega), World.cell?_setCell_far _ _ _ _ (by simp only; omega), EK.out, ← HEK.out]; exact hc2
        · rw [World.frozen?_setCell, World.frozen?_setCell]; exact hf2
        · unfold Hid; (repeat' (first | (with_reducible exact OnlyB.refl _ _) | assumption | (with_reducible refine OnlyB.set ?_ _ _ ?_) | (with_reducible refine OnlyB.alloc ?_ _) | (with_reducible refine OnlyB.drew ?_) | (with_reducible refine OnlyB.of_below ?_ (by assumption) ?_) | (with_reducible refine OnlyB.trans ?_ (by assumption)) | omega | (simp; done) | (simp; omega)))
        · simp; omega
      case measure => simp [intOf]
    · clear hk
      have a0 : wr.cell? ⟨w.heap.size, 2, none⟩ = some (.int .i64 x2) := by have := tx.out 2 (by omega); simpa [six] using this
      have a1 : wr.cell? ⟨w.heap.size, 3, none⟩ = some (.int .i64 x3) := by have := tx.out 3 (by omega); simpa [six] using this
      have b0 : wr.cell? ⟨w.heap.size + 1, 2, none⟩ = some (.int .i64 y2) := by have := ty.out 2 (by omega); simpa [six] using this
      have b1 : wr.cell? ⟨w.heap.size + 1, 3, none⟩ = some (.int .i64 y3) := by have := ty.out 3 (by omega); simpa [six] using this
      have o0 : wr.cell? ⟨w.heap.size + 1 + 1 + 1, 2, none⟩ = some (.int .i64 0) := by have := tr.out 2 (by omega); simpa [to6] using this
      have o1 : wr.cell? ⟨w.heap.size + 1 + 1 + 1, 3, none⟩ = some (.int .i64 0) := by have := tr.out 3 (by omega); simpa [to6] using this
      have z0 : wr.frozen? ⟨w.heap.size + 1 + 1 + 1, 2, none⟩ = false := sr.out _
      have z1 : wr.frozen? ⟨w.heap.size + 1 + 1 + 1, 3, none⟩ = false := sr.out _
      have hpw : p < wr.heap.size := by omega
      have hqw : q < wr.heap.size := by omega
      have hqW : wr.cell? ⟨q, 0, none⟩ = some (.pointer (some ⟨p, 0, none⟩)) := (ho.out.cell hq hqp).trans hqc
      have y0w : w.heap.size < wr.heap.size := by omega
      have y1w : w.heap.size + 1 < wr.heap.size := by omega
      have EK : errTo e0 ra.2.2 rb.2.2 rc.2.2 2 = fst2 (errTo e0 ra.2.2 rb.2.2 rc.2.2 1) rb.2.2 := by simp [errTo]
      have EK := Lib.hid EK
      obtain ⟨ek, hek⟩ : ∃ ek, ek = errTo e0 ra.2.2 rb.2.2 rc.2.2 1 := ⟨_, rfl⟩
      rw [← hek] at hc'
      have HEK := Lib.hid hek; clear hek
      have d1 : ¬ w.heap.size + 1 = w.heap.size := by omega
      have d2 : ¬ w.heap.size + 1 + 1 = w.heap.size := by omega
      have d3 : ¬ w.heap.size + 1 + 1 + 1 = w.heap.size := by omega
      have d1' : ¬ w.heap.size = w.heap.size + 1 := by omega
      have d2' : ¬ w.heap.size = w.heap.size + 1 + 1 := by omega
      have d3' : ¬ w.heap.size = w.heap.size + 1 + 1 + 1 := by omega
      go_wp2_with (fail)
      go_region_held3 (fun w' => w'.cell? ⟨w.heap.size, 2, none⟩ = some (.int .i64 x2) ∧ w'.cell? ⟨w.heap.size, 3, none⟩ = some (.int .i64 x3) ∧ w'.cell? ⟨w.heap.size + 1, 2, none⟩ = some (.int .i64 y2) ∧ w'.cell? ⟨w.heap.size + 1, 3, none⟩ = some (.int .i64 y3)) (go_keep) (first | (go_at_call 121; refine (c_norm1 q p x2 x3 y2 y3 ek wr.drew hpw hqw hqp hqW hc' hf').mono ?_; rw [← HRB.out]; rintro e w2 ⟨rfl, ho2, hc2, hf2⟩; (have ho2 : OnlyB p wr w2 := ⟨ho2.os, ho2.tape, ho2.output, ho2.size, ho2.block⟩); (have hs2 : wr.heap.size ≤ w2.heap.size := ho2.size); (have a0' : w2.cell? ⟨w.heap.size, 2, none⟩ = some (.int .i64 x2) := (ho2.cell (by omega) (by omega)).trans a0); (have a1' : w2.cell? ⟨w.heap.size, 3, none⟩ = some (.int .i64 x3) := (ho2.cell (by omega) (by omega)).trans a1); (have b0' : w2.cell? ⟨w.heap.size + 1, 2, none⟩ = some (.int .i64 y2) := (ho2.cell (by omega) (by omega)).trans b0); (have b1' : w2.cell? ⟨w.heap.size + 1, 3, none⟩ = some (.int .i64 y3) := (ho2.cell (by omega) (by omega)).trans b1); (have o0' : w2.cell? ⟨w.heap.size + 1 + 1 + 1, 2, none⟩ = some (.int .i64 0) := (ho2.cell (by omega) (by omega)).trans o0); (have o1' : w2.cell? ⟨w.heap.size + 1 + 1 + 1, 3, none⟩ = some (.int .i64 0) := (ho2.cell (by omega) (by omega)).trans o1); (have z0' : w2.frozen? ⟨w.heap.size + 1 + 1 + 1, 2, none⟩ = false := (ho2.frozen (by omega) (by omega)).trans z0); (have z1' : w2.frozen? ⟨w.heap.size + 1 + 1 + 1, 3, none⟩ = false := (ho2.frozen (by omega) (by omega)).trans z1)))
      go_wp2
      go_roundw
      case rel =>
        have hq2 : OnlyB p w w2 := ho.out.trans ho2
        refine ⟨2, by omega, rfl, ?_, ?_, ?_, ?_, ?_, ?_, ?_, ?_, ?_, ?_⟩
        · exact (((tx.out.only ho2 (by omega) (by omega)).other _ _ (by simp only; omega)).other _ _ (by simp only; omega))
        · exact (((ty.out.only ho2 (by omega) (by omega)).other _ _ (by simp only; omega)).other _ _ (by simp only; omega))
        · exact (((t0.out.only ho2 (by omega) (by omega)).other _ _ (by simp only; omega)).other _ _ (by simp only; omega))
        · exact (((s0.out.only ho2 (by omega) (by omega)).set _ _).set _ _)
        · exact ((((tr.out.only ho2 (by omega) (by omega)).set 2 rb.1 (by omega)).set 3 rb.2.1 (by omega)).congr (by intro j hj; rcases (by omega : j = 0 ∨ j = 1 ∨ j = 2 ∨ j = 3 ∨ j = 4 ∨ j = 5) with rfl | rfl | rfl | rfl | rfl | rfl <;> simp [to6, six]))
        · exact (((sr.out.only ho2 (by omega) (by omega)).set _ _).set _ _)
        · rw [World.cell?_setCell_far _ _ _ _ (by simp only; omega), World.cell?_setCell_far _ _ _ _ (by simp only; omega), EK.out, ← HEK.out]; exact hc2
        · rw [World.frozen?_setCell, World.frozen?_setCell]; exact hf2
        · unfold Hid; (repeat' (first | (with_reducible exact OnlyB.refl _ _) | assumption | (with_reducible refine OnlyB.set ?_ _ _ ?_) | (with_reducible refine OnlyB.alloc ?_ _) | (with_reducible refine OnlyB.drew ?_) | (with_reducible refine OnlyB.of_below ?_ (by assumption) ?_) | (with_reducible refine OnlyB.trans ?_ (by assumption)) | omega | (simp; done) | (simp; omega)))
        · simp; omega
      case measure => simp [intOf]
    · clear hk
      have a0 : wr.cell? ⟨w.heap.size, 4, none⟩ = some (.int .i64 x4) := by have := tx.out 4 (by omega); simpa [six] using this
      have a1 : wr.cell? ⟨w.heap.size, 5, none⟩ = some (.int .i64 x5) := by have := tx.out 5 (by omega); simpa [six] using this
      have b0 : wr.cell? ⟨w.heap.size + 1, 4, none⟩ = some (.int .i64 y4) := by have := ty.out 4 (by omega); simpa [six] using this
      have b1 : wr.cell? ⟨w.heap.size + 1, 5, none⟩ = some (.int .i64 y5) := by have := ty.out 5 (by omega); simpa [six] using this
      have o0 : wr.cell? ⟨w.heap.size + 1 + 1 + 1, 4, none⟩ = some (.int .i64 0) := by have := tr.out 4 (by omega); simpa [to6] using this
      have o1 : wr.cell? ⟨w.heap.size + 1 + 1 + 1, 5, none⟩ = some (.int .i64 0) := by have := tr.out 5 (by omega); simpa [to6] using this
      have z0 : wr.frozen? ⟨w.heap.size + 1 + 1 + 1, 4, none⟩ = false := sr.out _
      have z1 : wr.frozen? ⟨w.heap.size + 1 + 1 + 1, 5, none⟩ = false := sr.out _
      have hpw : p < wr.heap.size := by omega
      have hqw : q < wr.heap.size := by omega
      have hqW : wr.cell? ⟨q, 0, none⟩ = some (.pointer (some ⟨p, 0, none⟩)) := (ho.out.cell hq hqp).trans hqc
      have y0w : w.heap.size < wr.heap.size := by omega
      have y1w : w.heap.size + 1 < wr.heap.size := by omega
      have EK : errTo e0 ra.2.2 rb.2.2 rc.2.2 3 = fst2 (errTo e0 ra.2.2 rb.2.2 rc.2.2 2) rc.2.2 := by simp [errTo]
      have EK := Lib.hid EK
      obtain ⟨ek, hek⟩ : ∃ ek, ek = errTo e0 ra.2.2 rb.2.2 rc.2.2 2 := ⟨_, rfl⟩
      rw [← hek] at hc'
      have HEK := Lib.hid hek; clear hek
      have d1 : ¬ w.heap.size + 1 = w.heap.size := by omega
      have d2 : ¬ w.heap.size + 1 + 1 = w.heap.size := by omega
      have d3 : ¬ w.heap.size + 1 + 1 + 1 = w.heap.size := by omega
      have d1' : ¬ w.heap.size = w.heap.size + 1 := by omega
      have d2' : ¬ w.heap.size = w.heap.size + 1 + 1 := by omega
      have d3' : ¬ w.heap.size = w.heap.size + 1 + 1 + 1 := by omega
      go_wp2_with (fail)
      go_region_held3 (fun w' => w'.cell? ⟨w.heap.size, 4, none⟩ = some (.int .i64 x4) ∧ w'.cell? ⟨w.heap.size, 5, none⟩ = some (.int .i64 x5) ∧ w'.cell? ⟨w.heap.size + 1, 4, none⟩ = some (.int .i64 y4) ∧ w'.cell? ⟨w.heap.size + 1, 5, none⟩ = some (.int .i64 y5)) (go_keep) (first | (go_at_call 121; refine (c_norm1 q p x4 x5 y4 y5 ek wr.drew hpw hqw hqp hqW hc' hf').mono ?_; rw [← HRC.out]; rintro e w2 ⟨rfl, ho2, hc2, hf2⟩; (have ho2 : OnlyB p wr w2 := ⟨ho2.os, ho2.tape, ho2.output, ho2.size, ho2.block⟩); (have hs2 : wr.heap.size ≤ w2.heap.size := ho2.size); (have a0' : w2.cell? ⟨w.heap.size, 4, none⟩ = some (.int .i64 x4) := (ho2.cell (by omega) (by omega)).trans a0); (have a1' : w2.cell? ⟨w.heap.size, 5, none⟩ = some (.int .i64 x5) := (ho2.cell (by omega) (by omega)).trans a1); (have b0' : w2.cell? ⟨w.heap.size + 1, 4, none⟩ = some (.int .i64 y4) := (ho2.cell (by omega) (by omega)).trans b0); (have b1' : w2.cell? ⟨w.heap.size + 1, 5, none⟩ = some (.int .i64 y5) := (ho2.cell (by omega) (by omega)).trans b1); (have o0' : w2.cell? ⟨w.heap.size + 1 + 1 + 1, 4, none⟩ = some (.int .i64 0) := (ho2.cell (by omega) (by omega)).trans o0); (have o1' : w2.cell? ⟨w.heap.size + 1 + 1 + 1, 5, none⟩ = some (.int .i64 0) := (ho2.cell (by omega) (by omega)).trans o1); (have z0' : w2.frozen? ⟨w.heap.size + 1 + 1 + 1, 4, none⟩ = false := (ho2.frozen (by omega) (by omega)).trans z0); (have z1' : w2.frozen? ⟨w.heap.size + 1 + 1 + 1, 5, none⟩ = false := (ho2.frozen (by omega) (by omega)).trans z1)))
      go_wp2
      go_roundw
      case rel =>
        have hq2 : OnlyB p w w2 := ho.out.trans ho2
        refine ⟨3, by omega, rfl, ?_, ?_, ?_, ?_, ?_, ?_, ?_, ?_, ?_, ?_⟩
        · exact (((tx.out.only ho2 (by omega) (by omega)).other _ _ (by simp only; omega)).other _ _ (by simp only; omega))
        · exact (((ty.out.only ho2 (by omega) (by omega)).other _ _ (by simp only; omega)).other _ _ (by simp only; omega))
        · exact (((t0.out.only ho2 (by omega) (by omega)).other _ _ (by simp only; omega)).other _ _ (by simp only; omega))
        · exact (((s0.out.only ho2 (by omega) (by omega)).set _ _).set _ _)
        · exact ((((tr.out.only ho2 (by omega) (by omega)).set 4 rc.1 (by omega)).set 5 rc.2.1 (by omega)).congr (by intro j hj; rcases (by omega : j = 0 ∨ j = 1 ∨ j = 2 ∨ j = 3 ∨ j = 4 ∨ j = 5) with rfl | rfl | rfl | rfl | rfl | rfl <;> simp [to6, six]))
        · exact (((sr.out.only ho2 (by omega) (by omega)).set _ _).set _ _)
        · rw [World.cell?_setCell_far _ _ _ _ (by simp only; omega), World.cell?_setCell_far _ _ _ _ (by simp only; omega), EK.out, ← HEK.out]; exact hc2
        · rw [World.frozen?_setCell, World.frozen?_setCell]; exact hf2
        · unfold Hid; (repeat' (first | (with_reducible exact OnlyB.refl _ _) | assumption | (with_reducible refine OnlyB.set ?_ _ _ ?_) | (with_reducible refine OnlyB.alloc ?_ _) | (with_reducible refine OnlyB.drew ?_) | (with_reducible refine OnlyB.of_below ?_ (by assumption) ?_) | (with_reducible refine OnlyB.trans ?_ (by assumption)) | omega | (simp; done) | (simp; omega)))
        · simp; omega
      case measure => simp [intOf]
    · have hpw : p < wr.heap.size := by omega
      have o0 : wr.cell? ⟨w.heap.size + 1 + 1 + 1, 0, none⟩ = some (.int .i64 (ra.1)) := by have := tr.out 0 (by omega); simpa [to6, six] using this
      have q0 : wr.cell? ⟨w.heap.size + 1 + 1, 0, none⟩ = some (.int .i64 0) := t0.out 0 (by omega)
      have s0' : wr.frozen? ⟨w.heap.size + 1 + 1, 0, none⟩ = false := s0.out 0
      have o1 : wr.cell? ⟨w.heap.size + 1 + 1 + 1, 1, none⟩ = some (.int .i64 (ra.2.1)) := by have := tr.out 1 (by omega); simpa [to6, six] using this
      have q1 : wr.cell? ⟨w.heap.size + 1 + 1, 1, none⟩ = some (.int .i64 0) := t0.out 1 (by omega)
      have s1' : wr.frozen? ⟨w.heap.size + 1 + 1, 1, none⟩ = false := s0.out 1
      have o2 : wr.cell? ⟨w.heap.size + 1 + 1 + 1, 2, none⟩ = some (.int .i64 (rb.1)) := by have := tr.out 2 (by omega); simpa [to6, six] using this
      have q2 : wr.cell? ⟨w.heap.size + 1 + 1, 2, none⟩ = some (.int .i64 0) := t0.out 2 (by omega)
      have s2' : wr.frozen? ⟨w.heap.size + 1 + 1, 2, none⟩ = false := s0.out 2
      have o3 : wr.cell? ⟨w.heap.size + 1 + 1 + 1, 3, none⟩ = some (.int .i64 (rb.2.1)) := by have := tr.out 3 (by omega); simpa [to6, six] using this
      have q3 : wr.cell? ⟨w.heap.size + 1 + 1, 3, none⟩ = some (.int .i64 0) := t0.out 3 (by omega)
      have s3' : wr.frozen? ⟨w.heap.size + 1 + 1, 3, none⟩ = false := s0.out 3
      have o4 : wr.cell? ⟨w.heap.size + 1 + 1 + 1, 4, none⟩ = some (.int .i64 (rc.1)) := by have := tr.out 4 (by omega); simpa [to6, six] using this
      have q4 : wr.cell? ⟨w.heap.size + 1 + 1, 4, none⟩ = some (.int .i64 0) := t0.out 4 (by omega)
      have s4' : wr.frozen? ⟨w.heap.size + 1 + 1, 4, none⟩ = false := s0.out 4
      have o5 : wr.cell? ⟨w.heap.size + 1 + 1 + 1, 5, none⟩ = some (.int .i64 (rc.2.1)) := by have := tr.out 5 (by omega); simpa [to6, six] using this
      have q5 : wr.cell? ⟨w.heap.size + 1 + 1, 5, none⟩ = some (.int .i64 0) := t0.out 5 (by omega)
      have s5' : wr.frozen? ⟨w.heap.size + 1 + 1, 5, none⟩ = false := s0.out 5
      have d1 : ¬ w.heap.size + 1 = w.heap.size := by omega
      have d2 : ¬ w.heap.size + 1 + 1 = w.heap.size := by omega
      obtain ⟨ek, hek⟩ : ∃ ek, ek = errTo e0 ra.2.2 rb.2.2 rc.2.2 3 := ⟨_, rfl⟩
      rw [← hek] at hc'
      have HEK := Lib.hid hek; clear hek
      go_wp2
      refine bodyPost_ret (v := .agg #[.int .i64 ra.1, .int .i64 ra.2.1, .int .i64 rb.1, .int .i64 rb.2.1, .int .i64 rc.1, .int .i64 rc.2.1]) (by simp [results, Try.results64, go_sem, *]) rfl ⟨rfl, ?_, ?_, ?_⟩
      · have HO := ho.out
        (repeat' (first | (with_reducible exact OnlyB.refl _ _) | assumption | (with_reducible refine OnlyB.set ?_ _ _ ?_) | (with_reducible refine OnlyB.alloc ?_ _) | (with_reducible refine OnlyB.drew ?_) | (with_reducible refine OnlyB.of_below ?_ (by assumption) ?_) | (with_reducible refine OnlyB.trans ?_ (by assumption)) | omega | (simp; done) | (simp; omega)))
      · rw [← HEK.out]; simp [go_sem, *]
      · simp [go_sem, *]

end Go.Proofs.Ytpdaigenffecmaa
