/-
  The statement VecNorms: its code answers true.
-/
import Derived.Deep.MidRow
import Derived.Test.YtpdaigenffecmaaGreatS04
import Derived.Test.YtpdaigenffecmaaGreatS13
import Derived.Test.YtpdaigenffecmaaGreatM01
set_option linter.all false
namespace Go.Proofs.YtpdaigenffecmaaGreat
open Go.RowKit Go.Shelf

set_option maxHeartbeats 4000000 in
theorem c_lawVecNorms (x0 x1 x2 x3 x4 x5 y0 y1 y2 y3 y4 y5 d0 d1 d2 d3 d4 d5 d6 d7 d8 e0 e1 e2 e3 e4 e5 e6 e7 e8 : Int) (hd1 : 0 ≤ d1 ∧ d1 ≤ 255) (hd2 : 0 ≤ d2 ∧ d2 ≤ 4294967295) (hd4 : 0 ≤ d4 ∧ d4 ≤ 255) (hd5 : 0 ≤ d5 ∧ d5 ≤ 4294967295) (hd7 : 0 ≤ d7 ∧ d7 ≤ 255) (hd8 : 0 ≤ d8 ∧ d8 ≤ 4294967295) (he1 : 0 ≤ e1 ∧ e1 ≤ 255) (he2 : 0 ≤ e2 ∧ e2 ≤ 4294967295) (he4 : 0 ≤ e4 ∧ e4 ≤ 255) (he5 : 0 ≤ e5 ∧ e5 ≤ 4294967295) (he7 : 0 ≤ e7 ∧ e7 ≤ 255) (he8 : 0 ≤ e8 ∧ e8 ≤ 4294967295) (w : World) :
    Calls Tryz.prog 5 #[.agg #[.int .i64 x0, .int .i64 x1, .int .i64 x2, .int .i64 x3, .int .i64 x4, .int .i64 x5, .int .i64 y0, .int .i64 y1, .int .i64 y2, .int .i64 y3, .int .i64 y4, .int .i64 y5, .int .i64 d0, .int .u8 d1, .int .u32 d2, .int .i64 d3, .int .u8 d4, .int .u32 d5, .int .i64 d6, .int .u8 d7, .int .u32 d8, .int .i64 e0, .int .u8 e1, .int .u32 e2, .int .i64 e3, .int .u8 e4, .int .u32 e5, .int .i64 e6, .int .u8 e7, .int .u32 e8]] w fun e w' => e = .returned (.bool true) ∧ Below w.heap.size w w' := by
  obtain ⟨W, hW⟩ : ∃ W, W = (w.alloc (Obj.cells #[Value.int IntKind.i64 x0, Value.int IntKind.i64 x1, Value.int IntKind.i64 x2, Value.int IntKind.i64 x3, Value.int IntKind.i64 x4, Value.int IntKind.i64 x5, Value.int IntKind.i64 y0, Value.int IntKind.i64 y1, Value.int IntKind.i64 y2, Value.int IntKind.i64 y3, Value.int IntKind.i64 y4, Value.int IntKind.i64 y5, Value.int IntKind.i64 d0, .int .u8 d1, .int .u32 d2, Value.int IntKind.i64 d3, .int .u8 d4, .int .u32 d5, Value.int IntKind.i64 d6, .int .u8 d7, .int .u32 d8, Value.int IntKind.i64 e0, .int .u8 e1, .int .u32 e2, Value.int IntKind.i64 e3, .int .u8 e4, .int .u32 e5, Value.int IntKind.i64 e6, .int .u8 e7, .int .u32 e8] 32)) := ⟨_, rfl⟩
  have hsW : w.heap.size < W.heap.size := by rw [hW]; simp
  have HB : Hid (Below w.heap.size w W) := by rw [hW]; unfold Hid; (repeat' (first | (with_reducible exact Below.refl _ _) | (with_reducible refine Below.setCell ?_ ?_ _) | (with_reducible refine Below.alloc ?_ ?_ _) | (with_reducible refine Below.drew ?_) | (with_reducible refine below_drewN ?_ _) | (with_reducible assumption) | (with_reducible refine Below.trans ?_ (Below.mono (by with_reducible assumption) ?_)) | omega | (simp; done) | (simp; omega) | (simp [World.setCell]; omega)))
  have hS : w.heap.size ≤ W.heap.size := by omega
  have c0 : W.cell? ⟨w.heap.size, 0, none⟩ = some (.int .i64 x0) := by rw [hW]; simp [go_sem]
  have c1 : W.cell? ⟨w.heap.size, 1, none⟩ = some (.int .i64 x1) := by rw [hW]; simp [go_sem]
  have c2 : W.cell? ⟨w.heap.size, 2, none⟩ = some (.int .i64 x2) := by rw [hW]; simp [go_sem]
  have c3 : W.cell? ⟨w.heap.size, 3, none⟩ = some (.int .i64 x3) := by rw [hW]; simp [go_sem]
  have c4 : W.cell? ⟨w.heap.size, 4, none⟩ = some (.int .i64 x4) := by rw [hW]; simp [go_sem]
  have c5 : W.cell? ⟨w.heap.size, 5, none⟩ = some (.int .i64 x5) := by rw [hW]; simp [go_sem]
  have c6 : W.cell? ⟨w.heap.size, 6, none⟩ = some (.int .i64 y0) := by rw [hW]; simp [go_sem]
  have c7 : W.cell? ⟨w.heap.size, 7, none⟩ = some (.int .i64 y1) := by rw [hW]; simp [go_sem]
  have c8 : W.cell? ⟨w.heap.size, 8, none⟩ = some (.int .i64 y2) := by rw [hW]; simp [go_sem]
  have c9 : W.cell? ⟨w.heap.size, 9, none⟩ = some (.int .i64 y3) := by rw [hW]; simp [go_sem]
  have c10 : W.cell? ⟨w.heap.size, 10, none⟩ = some (.int .i64 y4) := by rw [hW]; simp [go_sem]
  have c11 : W.cell? ⟨w.heap.size, 11, none⟩ = some (.int .i64 y5) := by rw [hW]; simp [go_sem]
  have c12 : W.cell? ⟨w.heap.size, 12, none⟩ = some (.int .i64 d0) := by rw [hW]; simp [go_sem]
  have c13 : W.cell? ⟨w.heap.size, 13, none⟩ = some (.int .u8 d1) := by rw [hW]; simp [go_sem]
  have c14 : W.cell? ⟨w.heap.size, 14, none⟩ = some (.int .u32 d2) := by rw [hW]; simp [go_sem]
  have c15 : W.cell? ⟨w.heap.size, 15, none⟩ = some (.int .i64 d3) := by rw [hW]; simp [go_sem]
  have c16 : W.cell? ⟨w.heap.size, 16, none⟩ = some (.int .u8 d4) := by rw [hW]; simp [go_sem]
  have c17 : W.cell? ⟨w.heap.size, 17, none⟩ = some (.int .u32 d5) := by rw [hW]; simp [go_sem]
  have c18 : W.cell? ⟨w.heap.size, 18, none⟩ = some (.int .i64 d6) := by rw [hW]; simp [go_sem]
  have c19 : W.cell? ⟨w.heap.size, 19, none⟩ = some (.int .u8 d7) := by rw [hW]; simp [go_sem]
  have c20 : W.cell? ⟨w.heap.size, 20, none⟩ = some (.int .u32 d8) := by rw [hW]; simp [go_sem]
  have c21 : W.cell? ⟨w.heap.size, 21, none⟩ = some (.int .i64 e0) := by rw [hW]; simp [go_sem]
  have c22 : W.cell? ⟨w.heap.size, 22, none⟩ = some (.int .u8 e1) := by rw [hW]; simp [go_sem]
  have c23 : W.cell? ⟨w.heap.size, 23, none⟩ = some (.int .u32 e2) := by rw [hW]; simp [go_sem]
  have c24 : W.cell? ⟨w.heap.size, 24, none⟩ = some (.int .i64 e3) := by rw [hW]; simp [go_sem]
  have c25 : W.cell? ⟨w.heap.size, 25, none⟩ = some (.int .u8 e4) := by rw [hW]; simp [go_sem]
  have c26 : W.cell? ⟨w.heap.size, 26, none⟩ = some (.int .u32 e5) := by rw [hW]; simp [go_sem]
  have c27 : W.cell? ⟨w.heap.size, 27, none⟩ = some (.int .i64 e6) := by rw [hW]; simp [go_sem]
  have c28 : W.cell? ⟨w.heap.size, 28, none⟩ = some (.int .u8 e7) := by rw [hW]; simp [go_sem]
  have c29 : W.cell? ⟨w.heap.size, 29, none⟩ = some (.int .u32 e8) := by rw [hW]; simp [go_sem]
  have b0 : w.heap.size < W.heap.size := by omega
  go_enter Tryz.func5, Tryz.ntmps5
  go_wp2_with (fail)
  rw [← hW]
  clear hW hsW
  go_at_call 9
  refine Calls.mono (c_works _) ?_
  rintro e w1 ⟨rfl, hb⟩
  have hs := hb.size
  try simp only [World.size_alloc, World.drew_heap] at hs
  have b0_ : w.heap.size < w1.heap.size := by omega
  replace c0 := kp hb (by omega) c0
  replace c1 := kp hb (by omega) c1
  replace c2 := kp hb (by omega) c2
  replace c3 := kp hb (by omega) c3
  replace c4 := kp hb (by omega) c4
  replace c5 := kp hb (by omega) c5
  replace c6 := kp hb (by omega) c6
  replace c7 := kp hb (by omega) c7
  replace c8 := kp hb (by omega) c8
  replace c9 := kp hb (by omega) c9
  replace c10 := kp hb (by omega) c10
  replace c11 := kp hb (by omega) c11
  replace c12 := kp hb (by omega) c12
  replace c13 := kp hb (by omega) c13
  replace c14 := kp hb (by omega) c14
  replace c15 := kp hb (by omega) c15
  replace c16 := kp hb (by omega) c16
  replace c17 := kp hb (by omega) c17
  replace c18 := kp hb (by omega) c18
  replace c19 := kp hb (by omega) c19
  replace c20 := kp hb (by omega) c20
  replace c21 := kp hb (by omega) c21
  replace c22 := kp hb (by omega) c22
  replace c23 := kp hb (by omega) c23
  replace c24 := kp hb (by omega) c24
  replace c25 := kp hb (by omega) c25
  replace c26 := kp hb (by omega) c26
  replace c27 := kp hb (by omega) c27
  replace c28 := kp hb (by omega) c28
  replace c29 := kp hb (by omega) c29
  replace HB : Hid (Below w.heap.size w w1) := by first | exact HB.out.trans (hb.mono (by first | omega | (simp [go_sem]; done) | (simp [go_sem]; omega))) | exact (HB.out.alloc (by first | omega | (simp [go_sem]; done) | (simp [go_sem]; omega)) _).trans (hb.mono (by first | omega | (simp [go_sem]; done) | (simp [go_sem]; omega))) | exact ((HB.out.alloc (by first | omega | (simp [go_sem]; done) | (simp [go_sem]; omega)) _).alloc (by first | omega | (simp [go_sem]; done) | (simp [go_sem]; omega)) _).trans (hb.mono (by first | omega | (simp [go_sem]; done) | (simp [go_sem]; omega))) | exact (((HB.out.alloc (by first | omega | (simp [go_sem]; done) | (simp [go_sem]; omega)) _).alloc (by first | omega | (simp [go_sem]; done) | (simp [go_sem]; omega)) _).alloc (by first | omega | (simp [go_sem]; done) | (simp [go_sem]; omega)) _).trans (hb.mono (by first | omega | (simp [go_sem]; done) | (simp [go_sem]; omega)))
  replace hS : w.heap.size ≤ w1.heap.size := by omega
  replace b0 := b0_
  clear b0_
  clear hb hs
  have HR : Hid (w1.rangeAt (w.heap.size) 0 [.int .i64 x0, .int .i64 x1, .int .i64 x2, .int .i64 x3, .int .i64 x4, .int .i64 x5, .int .i64 y0, .int .i64 y1, .int .i64 y2, .int .i64 y3, .int .i64 y4, .int .i64 y5, .int .i64 d0, .int .u8 d1, .int .u32 d2, .int .i64 d3, .int .u8 d4, .int .u32 d5, .int .i64 d6, .int .u8 d7, .int .u32 d8, .int .i64 e0, .int .u8 e1, .int .u32 e2, .int .i64 e3, .int .u8 e4, .int .u32 e5, .int .i64 e6, .int .u8 e7, .int .u32 e8]) := by
    intro j v hv
    rcases (by have := (List.getElem?_eq_some_iff.1 hv).1; simp at this; omega : j = 0 ∨ j = 1 ∨ j = 2 ∨ j = 3 ∨ j = 4 ∨ j = 5 ∨ j = 6 ∨ j = 7 ∨ j = 8 ∨ j = 9 ∨ j = 10 ∨ j = 11 ∨ j = 12 ∨ j = 13 ∨ j = 14 ∨ j = 15 ∨ j = 16 ∨ j = 17 ∨ j = 18 ∨ j = 19 ∨ j = 20 ∨ j = 21 ∨ j = 22 ∨ j = 23 ∨ j = 24 ∨ j = 25 ∨ j = 26 ∨ j = 27 ∨ j = 28 ∨ j = 29) with rfl | rfl | rfl | rfl | rfl | rfl | rfl | rfl | rfl | rfl | rfl | rfl | rfl | rfl | rfl | rfl | rfl | rfl | rfl | rfl | rfl | rfl | rfl | rfl | rfl | rfl | rfl | rfl | rfl | rfl <;> (simp at hv; subst hv; simp only [Nat.zero_add]; assumption)
  go_wp2_with (first | (refine wpList_load_mid rfl 32 _ rfl (w.heap.size) 0 rfl _ _ HR.out Tryz.underlying32 rfl (by kernel_rfl) ?_))
  go_at_call 10
  refine Calls.mono (c_pairs x0 x1 x2 x3 x4 x5 y0 y1 y2 y3 y4 y5 d0 d1 d2 d3 d4 d5 d6 d7 d8 e0 e1 e2 e3 e4 e5 e6 e7 e8 hd1 hd2 hd4 hd5 hd7 hd8 he1 he2 he4 he5 he7 he8 _) ?_
  rintro e w2 ⟨pb, f, hv, HP, hpb0, hpb, rfl, hb⟩
  have hs := hb.size
  try simp only [World.size_alloc, World.drew_heap] at hs
  have b0_ : w.heap.size < w2.heap.size := by omega
  replace c0 := kp hb (by omega) c0
  replace c1 := kp hb (by omega) c1
  replace c2 := kp hb (by omega) c2
  replace c3 := kp hb (by omega) c3
  replace c4 := kp hb (by omega) c4
  replace c5 := kp hb (by omega) c5
  replace c6 := kp hb (by omega) c6
  replace c7 := kp hb (by omega) c7
  replace c8 := kp hb (by omega) c8
  replace c9 := kp hb (by omega) c9
  replace c10 := kp hb (by omega) c10
  replace c11 := kp hb (by omega) c11
  replace c12 := kp hb (by omega) c12
  replace c13 := kp hb (by omega) c13
  replace c14 := kp hb (by omega) c14
  replace c15 := kp hb (by omega) c15
  replace c16 := kp hb (by omega) c16
  replace c17 := kp hb (by omega) c17
  replace c18 := kp hb (by omega) c18
  replace c19 := kp hb (by omega) c19
  replace c20 := kp hb (by omega) c20
  replace c21 := kp hb (by omega) c21
  replace c22 := kp hb (by omega) c22
  replace c23 := kp hb (by omega) c23
  replace c24 := kp hb (by omega) c24
  replace c25 := kp hb (by omega) c25
  replace c26 := kp hb (by omega) c26
  replace c27 := kp hb (by omega) c27
  replace c28 := kp hb (by omega) c28
  replace c29 := kp hb (by omega) c29
  replace HB : Hid (Below w.heap.size w w2) := by first | exact HB.out.trans (hb.mono (by first | omega | (simp [go_sem]; done) | (simp [go_sem]; omega))) | exact (HB.out.alloc (by first | omega | (simp [go_sem]; done) | (simp [go_sem]; omega)) _).trans (hb.mono (by first | omega | (simp [go_sem]; done) | (simp [go_sem]; omega))) | exact ((HB.out.alloc (by first | omega | (simp [go_sem]; done) | (simp [go_sem]; omega)) _).alloc (by first | omega | (simp [go_sem]; done) | (simp [go_sem]; omega)) _).trans (hb.mono (by first | omega | (simp [go_sem]; done) | (simp [go_sem]; omega))) | exact (((HB.out.alloc (by first | omega | (simp [go_sem]; done) | (simp [go_sem]; omega)) _).alloc (by first | omega | (simp [go_sem]; done) | (simp [go_sem]; omega)) _).alloc (by first | omega | (simp [go_sem]; done) | (simp [go_sem]; omega)) _).trans (hb.mono (by first | omega | (simp [go_sem]; done) | (simp [go_sem]; omega)))
  replace hS : w.heap.size ≤ w2.heap.size := by omega
  replace b0 := b0_
  clear b0_
  clear hb hs
  clear HR
  replace HP := Lib.hid HP
  clear hv hpb0
  clear c0 c1 c2 c3 c4 c5 c6 c7 c8 c9 c10 c11 c12 c13 c14 c15 c16 c17 c18 c19 c20 c21 c22 c23 c24 c25 c26 c27 c28 c29 b0
  go_wp2_with (fail)
  go_loopw [18] (fun iv wr => ∃ k : Nat, k ≤ 4 ∧ iv = .int .i64 (k : Int) ∧ Hid (∀ j, j < 48 → wr.cell? ⟨pb, j, none⟩ = some (.int .i64 (f j))) ∧ Hid (Below w.heap.size w wr) ∧ w.heap.size ≤ wr.heap.size ∧ pb < wr.heap.size) (fun iv _ => 4 - (intOf iv).toNat)
  case atStart => exact ⟨0, by omega, rfl, HP, HB, hS, hpb⟩
  case round =>
    clear HP HB hS hpb
    obtain ⟨k, hk, rfl, HP, HB, hS, hpb⟩ := hrel
    by_cases h4 : k = 4
    · subst h4
      go_wp2_with (fail)
      have HBX := HB.out
      refine bodyPost_ret (v := .bool true) (by simp [results, Tryz.results5, go_sem]) rfl ⟨rfl, by (repeat' (first | (with_reducible exact Below.refl _ _) | (with_reducible refine Below.setCell ?_ ?_ _) | (with_reducible refine Below.alloc ?_ ?_ _) | (with_reducible refine Below.drew ?_) | (with_reducible refine below_drewN ?_ _) | (with_reducible assumption) | (with_reducible refine Below.trans ?_ (Below.mono (by with_reducible assumption) ?_)) | omega | (simp; done) | (simp; omega) | (simp [World.setCell]; omega)))⟩
    · have hk4 : (k : Int) < 4 := by omega
      have hkt : decide ((k : Int) < 4) = true := by simp; omega
      have hk0 : (0 : Int) ≤ k := by omega
      have u0 : wr.cell? ⟨pb, k * 12, none⟩ = some (.int .i64 (f (12 * k + 0))) := by have := HP.out (12 * k + 0) (by omega); simpa [Nat.mul_comm] using this
      have u1 : wr.cell? ⟨pb, k * 12 + 1, none⟩ = some (.int .i64 (f (12 * k + 1))) := by have := HP.out (12 * k + 1) (by omega); simpa [Nat.mul_comm] using this
      have u2 : wr.cell? ⟨pb, k * 12 + 2, none⟩ = some (.int .i64 (f (12 * k + 2))) := by have := HP.out (12 * k + 2) (by omega); simpa [Nat.mul_comm] using this
      have u3 : wr.cell? ⟨pb, k * 12 + 3, none⟩ = some (.int .i64 (f (12 * k + 3))) := by have := HP.out (12 * k + 3) (by omega); simpa [Nat.mul_comm] using this
      have u4 : wr.cell? ⟨pb, k * 12 + 4, none⟩ = some (.int .i64 (f (12 * k + 4))) := by have := HP.out (12 * k + 4) (by omega); simpa [Nat.mul_comm] using this
      have u5 : wr.cell? ⟨pb, k * 12 + 5, none⟩ = some (.int .i64 (f (12 * k + 5))) := by have := HP.out (12 * k + 5) (by omega); simpa [Nat.mul_comm] using this
      have u6 : wr.cell? ⟨pb, k * 12 + 6, none⟩ = some (.int .i64 (f (12 * k + 6))) := by have := HP.out (12 * k + 6) (by omega); simpa [Nat.mul_comm] using this
      have u7 : wr.cell? ⟨pb, k * 12 + 7, none⟩ = some (.int .i64 (f (12 * k + 7))) := by have := HP.out (12 * k + 7) (by omega); simpa [Nat.mul_comm] using this
      have u8 : wr.cell? ⟨pb, k * 12 + 8, none⟩ = some (.int .i64 (f (12 * k + 8))) := by have := HP.out (12 * k + 8) (by omega); simpa [Nat.mul_comm] using this
      have u9 : wr.cell? ⟨pb, k * 12 + 9, none⟩ = some (.int .i64 (f (12 * k + 9))) := by have := HP.out (12 * k + 9) (by omega); simpa [Nat.mul_comm] using this
      have u10 : wr.cell? ⟨pb, k * 12 + 10, none⟩ = some (.int .i64 (f (12 * k + 10))) := by have := HP.out (12 * k + 10) (by omega); simpa [Nat.mul_comm] using this
      have u11 : wr.cell? ⟨pb, k * 12 + 11, none⟩ = some (.int .i64 (f (12 * k + 11))) := by have := HP.out (12 * k + 11) (by omega); simpa [Nat.mul_comm] using this
      obtain ⟨dn0, dn1, dm0, dm1, den, dem, ⟨de0, de1⟩, dee, CAd, CBd⟩ := pair_Norm (f (12 * k + 0)) (f (12 * k + 1)) (f (12 * k + 2)) (f (12 * k + 3)) (f (12 * k + 4)) (f (12 * k + 5))
      replace CAd := Lib.hid CAd
      replace CBd := Lib.hid CBd
      obtain ⟨cn0, cn1, cn2, cn3, cn4, cn5, cm0, cm1, cm2, cm3, cm4, cm5, cen, cem, cN, cee, CAc, CBc⟩ := pair_Unit (f (12 * k + 0)) (f (12 * k + 1)) (f (12 * k + 2)) (f (12 * k + 3)) (f (12 * k + 4)) (f (12 * k + 5))
      replace CAc := Lib.hid CAc
      replace CBc := Lib.hid CBc
      go_wp2_with (fail)
      go_at_call 26
      refine Calls.mono (CAd.out _) ?_
      rintro e wr1 ⟨rfl, hb⟩
      have hs := hb.size
      try simp only [World.size_alloc, World.drew_heap] at hs
      have bp : wr.heap.size < wr1.heap.size := by omega
      have p0 : wr1.cell? ⟨wr.heap.size, 0, none⟩ = some (.int .i64 (f (12 * k + 0))) := (kn hb 0).trans rfl
      have p1 : wr1.cell? ⟨wr.heap.size, 1, none⟩ = some (.int .i64 (f (12 * k + 1))) := (kn hb 1).trans rfl
      have p2 : wr1.cell? ⟨wr.heap.size, 2, none⟩ = some (.int .i64 (f (12 * k + 2))) := (kn hb 2).trans rfl
      have p3 : wr1.cell? ⟨wr.heap.size, 3, none⟩ = some (.int .i64 (f (12 * k + 3))) := (kn hb 3).trans rfl
      have p4 : wr1.cell? ⟨wr.heap.size, 4, none⟩ = some (.int .i64 (f (12 * k + 4))) := (kn hb 4).trans rfl
      have p5 : wr1.cell? ⟨wr.heap.size, 5, none⟩ = some (.int .i64 (f (12 * k + 5))) := (kn hb 5).trans rfl
      have p6 : wr1.cell? ⟨wr.heap.size, 6, none⟩ = some (.int .i64 (f (12 * k + 6))) := (kn hb 6).trans rfl
      have p7 : wr1.cell? ⟨wr.heap.size, 7, none⟩ = some (.int .i64 (f (12 * k + 7))) := (kn hb 7).trans rfl
      have p8 : wr1.cell? ⟨wr.heap.size, 8, none⟩ = some (.int .i64 (f (12 * k + 8))) := (kn hb 8).trans rfl
      have p9 : wr1.cell? ⟨wr.heap.size, 9, none⟩ = some (.int .i64 (f (12 * k + 9))) := (kn hb 9).trans rfl
      have p10 : wr1.cell? ⟨wr.heap.size, 10, none⟩ = some (.int .i64 (f (12 * k + 10))) := (kn hb 10).trans rfl
      have p11 : wr1.cell? ⟨wr.heap.size, 11, none⟩ = some (.int .i64 (f (12 * k + 11))) := (kn hb 11).trans rfl
      have hpb_ : pb < wr1.heap.size := by omega
      replace HP : Hid (∀ j, j < 48 → wr1.cell? ⟨pb, j, none⟩ = some (.int .i64 (f j))) := fun j hj => kp1 hb (by omega) (HP.out j hj)
      replace HB : Hid (Below w.heap.size w wr1) := by first | exact HB.out.trans (hb.mono (by first | omega | (simp [go_sem]; done) | (simp [go_sem]; omega))) | exact (HB.out.alloc (by first | omega | (simp [go_sem]; done) | (simp [go_sem]; omega)) _).trans (hb.mono (by first | omega | (simp [go_sem]; done) | (simp [go_sem]; omega))) | exact ((HB.out.alloc (by first | omega | (simp [go_sem]; done) | (simp [go_sem]; omega)) _).alloc (by first | omega | (simp [go_sem]; done) | (simp [go_sem]; omega)) _).trans (hb.mono (by first | omega | (simp [go_sem]; done) | (simp [go_sem]; omega))) | exact (((HB.out.alloc (by first | omega | (simp [go_sem]; done) | (simp [go_sem]; omega)) _).alloc (by first | omega | (simp [go_sem]; done) | (simp [go_sem]; omega)) _).alloc (by first | omega | (simp [go_sem]; done) | (simp [go_sem]; omega)) _).trans (hb.mono (by first | omega | (simp [go_sem]; done) | (simp [go_sem]; omega)))
      replace hS : w.heap.size ≤ wr1.heap.size := by omega
      replace hpb := hpb_
      clear hpb_
      clear hb hs
      clear u0 u1 u2 u3 u4 u5 u6 u7 u8 u9 u10 u11
      go_wp2_with (fail)
      go_at_call 27
      refine Calls.mono (CBd.out _) ?_
      rintro e wr2 ⟨rfl, hb⟩
      have hs := hb.size
      try simp only [World.size_alloc, World.drew_heap] at hs
      have bp_ : wr.heap.size < wr2.heap.size := by omega
      have bdn : wr1.heap.size < wr2.heap.size := by omega
      replace p0 := kp1 hb (by omega) p0
      replace p1 := kp1 hb (by omega) p1
      replace p2 := kp1 hb (by omega) p2
      replace p3 := kp1 hb (by omega) p3
      replace p4 := kp1 hb (by omega) p4
      replace p5 := kp1 hb (by omega) p5
      replace p6 := kp1 hb (by omega) p6
      replace p7 := kp1 hb (by omega) p7
      replace p8 := kp1 hb (by omega) p8
      replace p9 := kp1 hb (by omega) p9
      replace p10 := kp1 hb (by omega) p10
      replace p11 := kp1 hb (by omega) p11
      have dn_0 : wr2.cell? ⟨wr1.heap.size, 0, none⟩ = some (.int .i64 dn0) := (kn hb 0).trans rfl
      have dn_1 : wr2.cell? ⟨wr1.heap.size, 1, none⟩ = some (.int .i64 dn1) := (kn hb 1).trans rfl
      have hpb_ : pb < wr2.heap.size := by omega
      replace HP : Hid (∀ j, j < 48 → wr2.cell? ⟨pb, j, none⟩ = some (.int .i64 (f j))) := fun j hj => kp1 hb (by omega) (HP.out j hj)
      replace HB : Hid (Below w.heap.size w wr2) := by first | exact HB.out.trans (hb.mono (by first | omega | (simp [go_sem]; done) | (simp [go_sem]; omega))) | exact (HB.out.alloc (by first | omega | (simp [go_sem]; done) | (simp [go_sem]; omega)) _).trans (hb.mono (by first | omega | (simp [go_sem]; done) | (simp [go_sem]; omega))) | exact ((HB.out.alloc (by first | omega | (simp [go_sem]; done) | (simp [go_sem]; omega)) _).alloc (by first | omega | (simp [go_sem]; done) | (simp [go_sem]; omega)) _).trans (hb.mono (by first | omega | (simp [go_sem]; done) | (simp [go_sem]; omega))) | exact (((HB.out.alloc (by first | omega | (simp [go_sem]; done) | (simp [go_sem]; omega)) _).alloc (by first | omega | (simp [go_sem]; done) | (simp [go_sem]; omega)) _).alloc (by first | omega | (simp [go_sem]; done) | (simp [go_sem]; omega)) _).trans (hb.mono (by first | omega | (simp [go_sem]; done) | (simp [go_sem]; omega)))
      replace hS : w.heap.size ≤ wr2.heap.size := by omega
      replace bp := bp_
      clear bp_
      replace hpb := hpb_
      clear hpb_
      clear hb hs
      go_wp2_with (fail)
      go_at_call 28
      refine Calls.mono (CAc.out _) ?_
      rintro e wr3 ⟨rfl, hb⟩
      have hs := hb.size
      try simp only [World.size_alloc, World.drew_heap] at hs
      have bp_ : wr.heap.size < wr3.heap.size := by omega
      have bdn_ : wr1.heap.size < wr3.heap.size := by omega
      have bdm : wr2.heap.size < wr3.heap.size := by omega
      replace p0 := kp1 hb (by omega) p0
      replace p1 := kp1 hb (by omega) p1
      replace p2 := kp1 hb (by omega) p2
      replace p3 := kp1 hb (by omega) p3
      replace p4 := kp1 hb (by omega) p4
      replace p5 := kp1 hb (by omega) p5
      replace p6 := kp1 hb (by omega) p6
      replace p7 := kp1 hb (by omega) p7
      replace p8 := kp1 hb (by omega) p8
      replace p9 := kp1 hb (by omega) p9
      replace p10 := kp1 hb (by omega) p10
      replace p11 := kp1 hb (by omega) p11
      replace dn_0 := kp1 hb (by omega) dn_0
      replace dn_1 := kp1 hb (by omega) dn_1
      have dm_0 : wr3.cell? ⟨wr2.heap.size, 0, none⟩ = some (.int .i64 dm0) := (kn hb 0).trans rfl
      have dm_1 : wr3.cell? ⟨wr2.heap.size, 1, none⟩ = some (.int .i64 dm1) := (kn hb 1).trans rfl
      have hpb_ : pb < wr3.heap.size := by omega
      replace HP : Hid (∀ j, j < 48 → wr3.cell? ⟨pb, j, none⟩ = some (.int .i64 (f j))) := fun j hj => kp1 hb (by omega) (HP.out j hj)
      replace HB : Hid (Below w.heap.size w wr3) := by first | exact HB.out.trans (hb.mono (by first | omega | (simp [go_sem]; done) | (simp [go_sem]; omega))) | exact (HB.out.alloc (by first | omega | (simp [go_sem]; done) | (simp [go_sem]; omega)) _).trans (hb.mono (by first | omega | (simp [go_sem]; done) | (simp [go_sem]; omega))) | exact ((HB.out.alloc (by first | omega | (simp [go_sem]; done) | (simp [go_sem]; omega)) _).alloc (by first | omega | (simp [go_sem]; done) | (simp [go_sem]; omega)) _).trans (hb.mono (by first | omega | (simp [go_sem]; done) | (simp [go_sem]; omega))) | exact (((HB.out.alloc (by first | omega | (simp [go_sem]; done) | (simp [go_sem]; omega)) _).alloc (by first | omega | (simp [go_sem]; done) | (simp [go_sem]; omega)) _).alloc (by first | omega | (simp [go_sem]; done) | (simp [go_sem]; omega)) _).trans (hb.mono (by first | omega | (simp [go_sem]; done) | (simp [go_sem]; omega)))
      replace hS : w.heap.size ≤ wr3.heap.size := by omega
      replace bp := bp_
      clear bp_
      replace bdn := bdn_
      clear bdn_
      replace hpb := hpb_
      clear hpb_
      clear hb hs
      go_wp2_with (fail)
      go_at_call 29
      refine Calls.mono (CBc.out _) ?_
      rintro e wr4 ⟨rfl, hb⟩
      have hs := hb.size
      try simp only [World.size_alloc, World.drew_heap] at hs
      have bp_ : wr.heap.size < wr4.heap.size := by omega
      have bdn_ : wr1.heap.size < wr4.heap.size := by omega
      have bdm_ : wr2.heap.size < wr4.heap.size := by omega
      have bcn : wr3.heap.size < wr4.heap.size := by omega
      replace p0 := kp1 hb (by omega) p0
      replace p1 := kp1 hb (by omega) p1
      replace p2 := kp1 hb (by omega) p2
      replace p3 := kp1 hb (by omega) p3
      replace p4 := kp1 hb (by omega) p4
      replace p5 := kp1 hb (by omega) p5
      replace p6 := kp1 hb (by omega) p6
      replace p7 := kp1 hb (by omega) p7
      replace p8 := kp1 hb (by omega) p8
      replace p9 := kp1 hb (by omega) p9
      replace p10 := kp1 hb (by omega) p10
      replace p11 := kp1 hb (by omega) p11
      replace dn_0 := kp1 hb (by omega) dn_0
      replace dn_1 := kp1 hb (by omega) dn_1
      replace dm_0 := kp1 hb (by omega) dm_0
      replace dm_1 := kp1 hb (by omega) dm_1
      have cn_0 : wr4.cell? ⟨wr3.heap.size, 0, none⟩ = some (.int .i64 cn0) := (kn hb 0).trans rfl
      have cn_1 : wr4.cell? ⟨wr3.heap.size, 1, none⟩ = some (.int .i64 cn1) := (kn hb 1).trans rfl
      have cn_2 : wr4.cell? ⟨wr3.heap.size, 2, none⟩ = some (.int .i64 cn2) := (kn hb 2).trans rfl
      have cn_3 : wr4.cell? ⟨wr3.heap.size, 3, none⟩ = some (.int .i64 cn3) := (kn hb 3).trans rfl
      have cn_4 : wr4.cell? ⟨wr3.heap.size, 4, none⟩ = some (.int .i64 cn4) := (kn hb 4).trans rfl
      have cn_5 : wr4.cell? ⟨wr3.heap.size, 5, none⟩ = some (.int .i64 cn5) := (kn hb 5).trans rfl
      have hpb_ : pb < wr4.heap.size := by omega
      replace HP : Hid (∀ j, j < 48 → wr4.cell? ⟨pb, j, none⟩ = some (.int .i64 (f j))) := fun j hj => kp1 hb (by omega) (HP.out j hj)
      replace HB : Hid (Below w.heap.size w wr4) := by first | exact HB.out.trans (hb.mono (by first | omega | (simp [go_sem]; done) | (simp [go_sem]; omega))) | exact (HB.out.alloc (by first | omega | (simp [go_sem]; done) | (simp [go_sem]; omega)) _).trans (hb.mono (by first | omega | (simp [go_sem]; done) | (simp [go_sem]; omega))) | exact ((HB.out.alloc (by first | omega | (simp [go_sem]; done) | (simp [go_sem]; omega)) _).alloc (by first | omega | (simp [go_sem]; done) | (simp [go_sem]; omega)) _).trans (hb.mono (by first | omega | (simp [go_sem]; done) | (simp [go_sem]; omega))) | exact (((HB.out.alloc (by first | omega | (simp [go_sem]; done) | (simp [go_sem]; omega)) _).alloc (by first | omega | (simp [go_sem]; done) | (simp [go_sem]; omega)) _).alloc (by first | omega | (simp [go_sem]; done) | (simp [go_sem]; omega)) _).trans (hb.mono (by first | omega | (simp [go_sem]; done) | (simp [go_sem]; omega)))
      replace hS : w.heap.size ≤ wr4.heap.size := by omega
      replace bp := bp_
      clear bp_
      replace bdn := bdn_
      clear bdn_
      replace bdm := bdm_
      clear bdm_
      replace hpb := hpb_
      clear hpb_
      clear hb hs
      go_wp2_with (fail)
      have HBX := HB.out
      go_roundw
      case rel =>
        exact ⟨k + 1, by omega, by simp, fun j hj => (World.cell?_alloc_past _ _ _ (by first | omega | (simp [go_sem]; done) | (simp [go_sem]; omega))).trans ((HP.out j hj)), by unfold Hid; (repeat' (first | (with_reducible exact Below.refl _ _) | (with_reducible refine Below.setCell ?_ ?_ _) | (with_reducible refine Below.alloc ?_ ?_ _) | (with_reducible refine Below.drew ?_) | (with_reducible refine below_drewN ?_ _) | (with_reducible assumption) | (with_reducible refine Below.trans ?_ (Below.mono (by with_reducible assumption) ?_)) | omega | (simp; done) | (simp; omega) | (simp [World.setCell]; omega))), by simp; omega, by simp; omega⟩
      case measure => simp [intOf]; omega

end Go.Proofs.YtpdaigenffecmaaGreat
