/-
  The walks of package span, the second part: products, quotients, roots, absolute values, and intervals of numbers. Plain laws: rows of digits to the base 2^64, their products, their high parts.
-/
import Derived.Test.YtpdaigenffecmaaM08
set_option linter.all false
namespace Go.Proofs.Ytpdaigenffecmaa
open Go.RowKit Go.Shelf

set_option maxHeartbeats 400000 in
theorem c_spanMul (al ah bl bh : Int) (w : World) :
    Calls Try.prog 46 #[.agg #[.int .i64 al, .int .i64 ah], .agg #[.int .i64 bl, .int .i64 bh]] w fun e w' => e = .returned (.tuple #[.agg #[.int .i64 (spMul (al, ah) (bl, bh)).1, .int .i64 (spMul (al, ah) (bl, bh)).2.1], .int .i64 (spMul (al, ah) (bl, bh)).2.2]) ∧ Below w.heap.size w w' := by
  rcases spAll_or (al, ah) (bl, bh) with h | h
  · have h' : (spAll (al, ah) (bl, bh) != 0) = false := by simp [h]
    have hs : Hid (spMul (al, ah) (bl, bh) = spFour fxMul (al, ah) (bl, bh)) := by unfold Hid spMul; rw [if_pos h]
    have H := Lib.hid h; clear h
    go_enter Try.func46, Try.ntmps46
    go_wp2_with (first | (go_at_call 109; refine (c_spanAll al ah bl bh _ _ ?_ ?_ ?_ ?_).mono ?_; go_simp; go_simp; go_simp; go_simp; rintro e w1 ⟨rfl, hb1⟩; (obtain ⟨hc1, hf1⟩ := bcell hb1; have hs1 := hb1.size; (try simp only [World.size_alloc, World.drew_heap, World.heap_drewN, World.size_setCell] at hs1); try (have z1_0 : w.heap.size < w1.heap.size := (by omega)); try (have z1_1 : w.heap.size + 1 < w1.heap.size := (by omega)); try (have z1_2 : w.heap.size + 1 + 1 < w1.heap.size := (by omega)); try (have z1_3 : w.heap.size + 1 + 1 + 1 < w1.heap.size := (by omega)); try (have z1_4 : w.heap.size + 1 + 1 + 1 + 1 < w1.heap.size := (by omega)); try (have z1_5 : w.heap.size + 1 + 1 + 1 + 1 + 1 < w1.heap.size := (by omega)))) | (go_at_call 110; refine (c_between _ _ fxMul al ah bl bh _ (enters_of Try.func111 (by kernel_rfl) rfl) (enters_of Try.func112 (by kernel_rfl) rfl) c_MulDown c_MulUp).mono ?_; rintro e w2 ⟨rfl, hb2⟩; (obtain ⟨hc2, hf2⟩ := bcell hb2; have hs2 := hb2.size; (try simp only [World.size_alloc, World.drew_heap, World.heap_drewN, World.size_setCell] at hs2); try (have z2_0 : w.heap.size < w2.heap.size := (by omega)); try (have z2_1 : w.heap.size + 1 < w2.heap.size := (by omega)); try (have z2_2 : w.heap.size + 1 + 1 < w2.heap.size := (by omega)); try (have z2_3 : w.heap.size + 1 + 1 + 1 < w2.heap.size := (by omega)); try (have z2_4 : w.heap.size + 1 + 1 + 1 + 1 < w2.heap.size := (by omega)); try (have z2_5 : w.heap.size + 1 + 1 + 1 + 1 + 1 < w2.heap.size := (by omega)))))
    refine bodyPost_ret (v := .tuple #[.agg #[.int .i64 (spFour fxMul (al, ah) (bl, bh)).1, .int .i64 (spFour fxMul (al, ah) (bl, bh)).2.1], .int .i64 (spFour fxMul (al, ah) (bl, bh)).2.2]) (by simp [results, Try.results46, go_sem, *]) rfl ⟨by rw [hs.out], by (repeat' (first | (with_reducible exact Below.refl _ _) | assumption | (with_reducible refine Below.setCell ?_ ?_ _) | (with_reducible refine Below.alloc ?_ ?_ _) | (with_reducible refine Below.drew ?_) | (with_reducible refine below_drewN ?_ _) | (with_reducible refine Below.trans ?_ (Below.mono (by assumption) ?_)) | omega | (simp; done) | (simp; omega) | (simp [World.setCell]; omega)))⟩
  · have hs : Hid (spMul (al, ah) (bl, bh) = (0, 0, 20)) := by unfold Hid spMul; rw [if_neg (by omega)]
    have h' : (spAll (al, ah) (bl, bh) != 0) = true := by simp [h]
    go_enter Try.func46, Try.ntmps46
    go_wp2_with (first | (go_at_call 109; refine (c_spanAll al ah bl bh _ _ ?_ ?_ ?_ ?_).mono ?_; go_simp; go_simp; go_simp; go_simp; rintro e w1 ⟨rfl, hb1⟩; (obtain ⟨hc1, hf1⟩ := bcell hb1; have hs1 := hb1.size; (try simp only [World.size_alloc, World.drew_heap, World.heap_drewN, World.size_setCell] at hs1); try (have z1_0 : w.heap.size < w1.heap.size := (by omega)); try (have z1_1 : w.heap.size + 1 < w1.heap.size := (by omega)); try (have z1_2 : w.heap.size + 1 + 1 < w1.heap.size := (by omega)); try (have z1_3 : w.heap.size + 1 + 1 + 1 < w1.heap.size := (by omega)); try (have z1_4 : w.heap.size + 1 + 1 + 1 + 1 < w1.heap.size := (by omega)); try (have z1_5 : w.heap.size + 1 + 1 + 1 + 1 + 1 < w1.heap.size := (by omega)))))
    refine bodyPost_ret (v := .tuple #[.agg #[.int .i64 0, .int .i64 0], .int .i64 20]) (by simp [results, Try.results46, go_sem, *]) rfl ⟨by rw [hs.out], by (repeat' (first | (with_reducible exact Below.refl _ _) | assumption | (with_reducible refine Below.setCell ?_ ?_ _) | (with_reducible refine Below.alloc ?_ ?_ _) | (with_reducible refine Below.drew ?_) | (with_reducible refine below_drewN ?_ _) | (with_reducible refine Below.trans ?_ (Below.mono (by assumption) ?_)) | omega | (simp; done) | (simp; omega) | (simp [World.setCell]; omega)))⟩

set_option maxHeartbeats 400000 in
theorem c_spanDiv (al ah bl bh : Int) (w : World) :
    Calls Try.prog 105 #[.agg #[.int .i64 al, .int .i64 ah], .agg #[.int .i64 bl, .int .i64 bh]] w fun e w' => e = .returned (.tuple #[.agg #[.int .i64 (spDiv (al, ah) (bl, bh)).1, .int .i64 (spDiv (al, ah) (bl, bh)).2.1], .int .i64 (spDiv (al, ah) (bl, bh)).2.2]) ∧ Below w.heap.size w w' := by
  rcases spAll_or (al, ah) (bl, bh) with h | h
  · have h' : (spAll (al, ah) (bl, bh) != 0) = false := by simp [h]
    rcases Decidable.em (bl ≤ 0 ∧ 0 ≤ bh) with hz | hz
    · have hs : Hid (spDiv (al, ah) (bl, bh) = (0, 0, 7)) := by unfold Hid spDiv; rw [if_pos h, if_pos hz]
      obtain ⟨hz1, hz2⟩ := hz
      have H := Lib.hid h; clear h
      go_enter Try.func105, Try.ntmps105
      go_wp2_with (first | (go_at_call 109; refine (c_spanAll al ah bl bh _ _ ?_ ?_ ?_ ?_).mono ?_; go_simp; go_simp; go_simp; go_simp; rintro e w1 ⟨rfl, hb1⟩; (obtain ⟨hc1, hf1⟩ := bcell hb1; have hs1 := hb1.size; (try simp only [World.size_alloc, World.drew_heap, World.heap_drewN, World.size_setCell] at hs1); try (have z1_0 : w.heap.size < w1.heap.size := (by omega)); try (have z1_1 : w.heap.size + 1 < w1.heap.size := (by omega)); try (have z1_2 : w.heap.size + 1 + 1 < w1.heap.size := (by omega)); try (have z1_3 : w.heap.size + 1 + 1 + 1 < w1.heap.size := (by omega)); try (have z1_4 : w.heap.size + 1 + 1 + 1 + 1 < w1.heap.size := (by omega)); try (have z1_5 : w.heap.size + 1 + 1 + 1 + 1 + 1 < w1.heap.size := (by omega)))))
      refine bodyPost_ret (v := .tuple #[.agg #[.int .i64 0, .int .i64 0], .int .i64 7]) (by simp [results, Try.results105, go_sem, *]) rfl ⟨by rw [hs.out], by (repeat' (first | (with_reducible exact Below.refl _ _) | assumption | (with_reducible refine Below.setCell ?_ ?_ _) | (with_reducible refine Below.alloc ?_ ?_ _) | (with_reducible refine Below.drew ?_) | (with_reducible refine below_drewN ?_ _) | (with_reducible refine Below.trans ?_ (Below.mono (by assumption) ?_)) | omega | (simp; done) | (simp; omega) | (simp [World.setCell]; omega)))⟩
    · rcases Int.lt_or_le 0 bl with hz1 | hz1
      · have hn : ¬ bl ≤ 0 := by omega
        have hd : decide (bl ≤ 0) = false := by simp; omega
        clear hz
        have hs : Hid (spDiv (al, ah) (bl, bh) = spFour fxDiv (al, ah) (bl, bh)) := by unfold Hid spDiv; rw [if_pos h, if_neg (by simp only; omega)]
        have H := Lib.hid h; clear h
        go_enter Try.func105, Try.ntmps105
        go_wp2_with (first | (go_at_call 109; refine (c_spanAll al ah bl bh _ _ ?_ ?_ ?_ ?_).mono ?_; go_simp; go_simp; go_simp; go_simp; rintro e w1 ⟨rfl, hb1⟩; (obtain ⟨hc1, hf1⟩ := bcell hb1; have hs1 := hb1.size; (try simp only [World.size_alloc, World.drew_heap, World.heap_drewN, World.size_setCell] at hs1); try (have z1_0 : w.heap.size < w1.heap.size := (by omega)); try (have z1_1 : w.heap.size + 1 < w1.heap.size := (by omega)); try (have z1_2 : w.heap.size + 1 + 1 < w1.heap.size := (by omega)); try (have z1_3 : w.heap.size + 1 + 1 + 1 < w1.heap.size := (by omega)); try (have z1_4 : w.heap.size + 1 + 1 + 1 + 1 < w1.heap.size := (by omega)); try (have z1_5 : w.heap.size + 1 + 1 + 1 + 1 + 1 < w1.heap.size := (by omega)))) | (go_at_call 110; refine (c_between _ _ fxDiv al ah bl bh _ (enters_of Try.func131 (by kernel_rfl) rfl) (enters_of Try.func132 (by kernel_rfl) rfl) c_DivDown c_DivUp).mono ?_; rintro e w2 ⟨rfl, hb2⟩; (obtain ⟨hc2, hf2⟩ := bcell hb2; have hs2 := hb2.size; (try simp only [World.size_alloc, World.drew_heap, World.heap_drewN, World.size_setCell] at hs2); try (have z2_0 : w.heap.size < w2.heap.size := (by omega)); try (have z2_1 : w.heap.size + 1 < w2.heap.size := (by omega)); try (have z2_2 : w.heap.size + 1 + 1 < w2.heap.size := (by omega)); try (have z2_3 : w.heap.size + 1 + 1 + 1 < w2.heap.size := (by omega)); try (have z2_4 : w.heap.size + 1 + 1 + 1 + 1 < w2.heap.size := (by omega)); try (have z2_5 : w.heap.size + 1 + 1 + 1 + 1 + 1 < w2.heap.size := (by omega)))))
        refine bodyPost_ret (v := .tuple #[.agg #[.int .i64 (spFour fxDiv (al, ah) (bl, bh)).1, .int .i64 (spFour fxDiv (al, ah) (bl, bh)).2.1], .int .i64 (spFour fxDiv (al, ah) (bl, bh)).2.2]) (by simp [results, Try.results105, go_sem, *]) rfl ⟨by rw [hs.out], by (repeat' (first | (with_reducible exact Below.refl _ _) | assumption | (with_reducible refine Below.setCell ?_ ?_ _) | (with_reducible refine Below.alloc ?_ ?_ _) | (with_reducible refine Below.drew ?_) | (with_reducible refine below_drewN ?_ _) | (with_reducible refine Below.trans ?_ (Below.mono (by assumption) ?_)) | omega | (simp; done) | (simp; omega) | (simp [World.setCell]; omega)))⟩
      · have hn : ¬ 0 ≤ bh := by omega
        have hd : decide (0 ≤ bh) = false := by simp; omega
        clear hz
        have hs : Hid (spDiv (al, ah) (bl, bh) = spFour fxDiv (al, ah) (bl, bh)) := by unfold Hid spDiv; rw [if_pos h, if_neg (by simp only; omega)]
        have H := Lib.hid h; clear h
        go_enter Try.func105, Try.ntmps105
        go_wp2_with (first | (go_at_call 109; refine (c_spanAll al ah bl bh _ _ ?_ ?_ ?_ ?_).mono ?_; go_simp; go_simp; go_simp; go_simp; rintro e w1 ⟨rfl, hb1⟩; (obtain ⟨hc1, hf1⟩ := bcell hb1; have hs1 := hb1.size; (try simp only [World.size_alloc, World.drew_heap, World.heap_drewN, World.size_setCell] at hs1); try (have z1_0 : w.heap.size < w1.heap.size := (by omega)); try (have z1_1 : w.heap.size + 1 < w1.heap.size := (by omega)); try (have z1_2 : w.heap.size + 1 + 1 < w1.heap.size := (by omega)); try (have z1_3 : w.heap.size + 1 + 1 + 1 < w1.heap.size := (by omega)); try (have z1_4 : w.heap.size + 1 + 1 + 1 + 1 < w1.heap.size := (by omega)); try (have z1_5 : w.heap.size + 1 + 1 + 1 + 1 + 1 < w1.heap.size := (by omega)))) | (go_at_call 110; refine (c_between _ _ fxDiv al ah bl bh _ (enters_of Try.func131 (by kernel_rfl) rfl) (enters_of Try.func132 (by kernel_rfl) rfl) c_DivDown c_DivUp).mono ?_; rintro e w2 ⟨rfl, hb2⟩; (obtain ⟨hc2, hf2⟩ := bcell hb2; have hs2 := hb2.size; (try simp only [World.size_alloc, World.drew_heap, World.heap_drewN, World.size_setCell] at hs2); try (have z2_0 : w.heap.size < w2.heap.size := (by omega)); try (have z2_1 : w.heap.size + 1 < w2.heap.size := (by omega)); try (have z2_2 : w.heap.size + 1 + 1 < w2.heap.size := (by omega)); try (have z2_3 : w.heap.size + 1 + 1 + 1 < w2.heap.size := (by omega)); try (have z2_4 : w.heap.size + 1 + 1 + 1 + 1 < w2.heap.size := (by omega)); try (have z2_5 : w.heap.size + 1 + 1 + 1 + 1 + 1 < w2.heap.size := (by omega)))))
        refine bodyPost_ret (v := .tuple #[.agg #[.int .i64 (spFour fxDiv (al, ah) (bl, bh)).1, .int .i64 (spFour fxDiv (al, ah) (bl, bh)).2.1], .int .i64 (spFour fxDiv (al, ah) (bl, bh)).2.2]) (by simp [results, Try.results105, go_sem, *]) rfl ⟨by rw [hs.out], by (repeat' (first | (with_reducible exact Below.refl _ _) | assumption | (with_reducible refine Below.setCell ?_ ?_ _) | (with_reducible refine Below.alloc ?_ ?_ _) | (with_reducible refine Below.drew ?_) | (with_reducible refine below_drewN ?_ _) | (with_reducible refine Below.trans ?_ (Below.mono (by assumption) ?_)) | omega | (simp; done) | (simp; omega) | (simp [World.setCell]; omega)))⟩
  · have hs : Hid (spDiv (al, ah) (bl, bh) = (0, 0, 20)) := by unfold Hid spDiv; rw [if_neg (by omega)]
    have h' : (spAll (al, ah) (bl, bh) != 0) = true := by simp [h]
    go_enter Try.func105, Try.ntmps105
    go_wp2_with (first | (go_at_call 109; refine (c_spanAll al ah bl bh _ _ ?_ ?_ ?_ ?_).mono ?_; go_simp; go_simp; go_simp; go_simp; rintro e w1 ⟨rfl, hb1⟩; (obtain ⟨hc1, hf1⟩ := bcell hb1; have hs1 := hb1.size; (try simp only [World.size_alloc, World.drew_heap, World.heap_drewN, World.size_setCell] at hs1); try (have z1_0 : w.heap.size < w1.heap.size := (by omega)); try (have z1_1 : w.heap.size + 1 < w1.heap.size := (by omega)); try (have z1_2 : w.heap.size + 1 + 1 < w1.heap.size := (by omega)); try (have z1_3 : w.heap.size + 1 + 1 + 1 < w1.heap.size := (by omega)); try (have z1_4 : w.heap.size + 1 + 1 + 1 + 1 < w1.heap.size := (by omega)); try (have z1_5 : w.heap.size + 1 + 1 + 1 + 1 + 1 < w1.heap.size := (by omega)))))
    refine bodyPost_ret (v := .tuple #[.agg #[.int .i64 0, .int .i64 0], .int .i64 20]) (by simp [results, Try.results105, go_sem, *]) rfl ⟨by rw [hs.out], by (repeat' (first | (with_reducible exact Below.refl _ _) | assumption | (with_reducible refine Below.setCell ?_ ?_ _) | (with_reducible refine Below.alloc ?_ ?_ _) | (with_reducible refine Below.drew ?_) | (with_reducible refine below_drewN ?_ _) | (with_reducible refine Below.trans ?_ (Below.mono (by assumption) ?_)) | omega | (simp; done) | (simp; omega) | (simp [World.setCell]; omega)))⟩

set_option maxHeartbeats 400000 in
theorem c_spanSqrt (al ah : Int) (w : World) :
    Calls Try.prog 107 #[.agg #[.int .i64 al, .int .i64 ah]] w fun e w' => e = .returned (.tuple #[.agg #[.int .i64 (spSqrt (al, ah)).1, .int .i64 (spSqrt (al, ah)).2.1], .int .i64 (spSqrt (al, ah)).2.2]) ∧ Below w.heap.size w w' := by
  rcases spChk_or (al, ah) with h | h
  · have h' : (spChk (al, ah) != 0) = false := by simp [h]
    obtain ⟨ra1, ra2, ra3⟩ := spChk_ok h
    simp only at ra1 ra2 ra3
    have H := Lib.hid h
    rcases Int.lt_or_le al 0 with hz | hz
    · have hs : Hid (spSqrt (al, ah) = (0, 0, 2)) := by unfold Hid spSqrt; rw [if_pos h, if_pos hz]
      clear h
      go_enter Try.func107, Try.ntmps107
      go_wp2_with (first | (go_at_call 76; refine (c_spanCheck al ah _).mono ?_; rintro e w1 ⟨rfl, hb1⟩; (obtain ⟨hc1, hf1⟩ := bcell hb1; have hs1 := hb1.size; (try simp only [World.size_alloc, World.drew_heap, World.heap_drewN, World.size_setCell] at hs1); try (have z1_0 : w.heap.size < w1.heap.size := (by omega)); try (have z1_1 : w.heap.size + 1 < w1.heap.size := (by omega)); try (have z1_2 : w.heap.size + 1 + 1 < w1.heap.size := (by omega)); try (have z1_3 : w.heap.size + 1 + 1 + 1 < w1.heap.size := (by omega)); try (have z1_4 : w.heap.size + 1 + 1 + 1 + 1 < w1.heap.size := (by omega)); try (have z1_5 : w.heap.size + 1 + 1 + 1 + 1 + 1 < w1.heap.size := (by omega)))))
      refine bodyPost_ret (v := .tuple #[.agg #[.int .i64 0, .int .i64 0], .int .i64 2]) (by simp [results, Try.results107, go_sem, *]) rfl ⟨by rw [hs.out], by (repeat' (first | (with_reducible exact Below.refl _ _) | assumption | (with_reducible refine Below.setCell ?_ ?_ _) | (with_reducible refine Below.alloc ?_ ?_ _) | (with_reducible refine Below.drew ?_) | (with_reducible refine below_drewN ?_ _) | (with_reducible refine Below.trans ?_ (Below.mono (by assumption) ?_)) | omega | (simp; done) | (simp; omega) | (simp [World.setCell]; omega)))⟩
    · have hs : Hid (spSqrt (al, ah) = spTold (rt al false) (rt ah true)) := by unfold Hid spSqrt; rw [if_pos h, if_neg (by simp only; omega)]
      have hz' : ¬ al < 0 := by omega
      have r1 : (fxRoot al false).1 = rt al false := by unfold fxRoot rt; rw [if_pos (by omega)]
      have r2 : (fxRoot ah true).1 = rt ah true := by unfold fxRoot rt; rw [if_pos (by omega)]
      clear h
      go_enter Try.func107, Try.ntmps107
      go_wp2_with (first | (go_at_call 76; refine (c_spanCheck al ah _).mono ?_; rintro e w1 ⟨rfl, hb1⟩; (obtain ⟨hc1, hf1⟩ := bcell hb1; have hs1 := hb1.size; (try simp only [World.size_alloc, World.drew_heap, World.heap_drewN, World.size_setCell] at hs1); try (have z1_0 : w.heap.size < w1.heap.size := (by omega)); try (have z1_1 : w.heap.size + 1 < w1.heap.size := (by omega)); try (have z1_2 : w.heap.size + 1 + 1 < w1.heap.size := (by omega)); try (have z1_3 : w.heap.size + 1 + 1 + 1 < w1.heap.size := (by omega)); try (have z1_4 : w.heap.size + 1 + 1 + 1 + 1 < w1.heap.size := (by omega)); try (have z1_5 : w.heap.size + 1 + 1 + 1 + 1 + 1 < w1.heap.size := (by omega)))) | (go_at_call 133; refine (c_SqrtDown _ _).mono ?_; rintro e w2 ⟨rfl, hb2⟩; (obtain ⟨hc2, hf2⟩ := bcell hb2; have hs2 := hb2.size; (try simp only [World.size_alloc, World.drew_heap, World.heap_drewN, World.size_setCell] at hs2); try (have z2_0 : w.heap.size < w2.heap.size := (by omega)); try (have z2_1 : w.heap.size + 1 < w2.heap.size := (by omega)); try (have z2_2 : w.heap.size + 1 + 1 < w2.heap.size := (by omega)); try (have z2_3 : w.heap.size + 1 + 1 + 1 < w2.heap.size := (by omega)); try (have z2_4 : w.heap.size + 1 + 1 + 1 + 1 < w2.heap.size := (by omega)); try (have z2_5 : w.heap.size + 1 + 1 + 1 + 1 + 1 < w2.heap.size := (by omega)))) | (go_at_call 134; refine (c_SqrtUp _ _).mono ?_; rintro e w3 ⟨rfl, hb3⟩; (obtain ⟨hc3, hf3⟩ := bcell hb3; have hs3 := hb3.size; (try simp only [World.size_alloc, World.drew_heap, World.heap_drewN, World.size_setCell] at hs3); try (have z3_0 : w.heap.size < w3.heap.size := (by omega)); try (have z3_1 : w.heap.size + 1 < w3.heap.size := (by omega)); try (have z3_2 : w.heap.size + 1 + 1 < w3.heap.size := (by omega)); try (have z3_3 : w.heap.size + 1 + 1 + 1 < w3.heap.size := (by omega)); try (have z3_4 : w.heap.size + 1 + 1 + 1 + 1 < w3.heap.size := (by omega)); try (have z3_5 : w.heap.size + 1 + 1 + 1 + 1 + 1 < w3.heap.size := (by omega)))) | (go_at_call 113; refine (c_spanTold _ _ _).mono ?_; rintro e w4 ⟨rfl, hb4⟩; (obtain ⟨hc4, hf4⟩ := bcell hb4; have hs4 := hb4.size; (try simp only [World.size_alloc, World.drew_heap, World.heap_drewN, World.size_setCell] at hs4); try (have z4_0 : w.heap.size < w4.heap.size := (by omega)); try (have z4_1 : w.heap.size + 1 < w4.heap.size := (by omega)); try (have z4_2 : w.heap.size + 1 + 1 < w4.heap.size := (by omega)); try (have z4_3 : w.heap.size + 1 + 1 + 1 < w4.heap.size := (by omega)); try (have z4_4 : w.heap.size + 1 + 1 + 1 + 1 < w4.heap.size := (by omega)); try (have z4_5 : w.heap.size + 1 + 1 + 1 + 1 + 1 < w4.heap.size := (by omega)))))
      refine bodyPost_ret (v := .tuple #[.agg #[.int .i64 (spTold (rt al false) (rt ah true)).1, .int .i64 (spTold (rt al false) (rt ah true)).2.1], .int .i64 (spTold (rt al false) (rt ah true)).2.2]) (by simp [results, Try.results107, go_sem, *]) rfl ⟨by rw [hs.out], by (repeat' (first | (with_reducible exact Below.refl _ _) | assumption | (with_reducible refine Below.setCell ?_ ?_ _) | (with_reducible refine Below.alloc ?_ ?_ _) | (with_reducible refine Below.drew ?_) | (with_reducible refine below_drewN ?_ _) | (with_reducible refine Below.trans ?_ (Below.mono (by assumption) ?_)) | omega | (simp; done) | (simp; omega) | (simp [World.setCell]; omega)))⟩
  · have hs : Hid (spSqrt (al, ah) = (0, 0, 20)) := by unfold Hid spSqrt; rw [if_neg (by omega)]
    have h' : (spChk (al, ah) != 0) = true := by simp [h]
    go_enter Try.func107, Try.ntmps107
    go_wp2_with (first | (go_at_call 76; refine (c_spanCheck al ah _).mono ?_; rintro e w1 ⟨rfl, hb1⟩; (obtain ⟨hc1, hf1⟩ := bcell hb1; have hs1 := hb1.size; (try simp only [World.size_alloc, World.drew_heap, World.heap_drewN, World.size_setCell] at hs1); try (have z1_0 : w.heap.size < w1.heap.size := (by omega)); try (have z1_1 : w.heap.size + 1 < w1.heap.size := (by omega)); try (have z1_2 : w.heap.size + 1 + 1 < w1.heap.size := (by omega)); try (have z1_3 : w.heap.size + 1 + 1 + 1 < w1.heap.size := (by omega)); try (have z1_4 : w.heap.size + 1 + 1 + 1 + 1 < w1.heap.size := (by omega)); try (have z1_5 : w.heap.size + 1 + 1 + 1 + 1 + 1 < w1.heap.size := (by omega)))))
    refine bodyPost_ret (v := .tuple #[.agg #[.int .i64 0, .int .i64 0], .int .i64 20]) (by simp [results, Try.results107, go_sem, *]) rfl ⟨by rw [hs.out], by (repeat' (first | (with_reducible exact Below.refl _ _) | assumption | (with_reducible refine Below.setCell ?_ ?_ _) | (with_reducible refine Below.alloc ?_ ?_ _) | (with_reducible refine Below.drew ?_) | (with_reducible refine below_drewN ?_ _) | (with_reducible refine Below.trans ?_ (Below.mono (by assumption) ?_)) | omega | (simp; done) | (simp; omega) | (simp [World.setCell]; omega)))⟩

set_option maxHeartbeats 400000 in
theorem c_spanAbs (al ah : Int) (w : World) :
    Calls Try.prog 129 #[.agg #[.int .i64 al, .int .i64 ah]] w fun e w' => e = .returned (.tuple #[.agg #[.int .i64 (spAbs (al, ah)).1, .int .i64 (spAbs (al, ah)).2.1], .int .i64 (spAbs (al, ah)).2.2]) ∧ Below w.heap.size w w' := by
  rcases spChk_or (al, ah) with h | h
  · have h' : (spChk (al, ah) != 0) = false := by simp [h]
    obtain ⟨ra1, ra2, ra3⟩ := spChk_ok h
    simp only at ra1 ra2 ra3
    have hs : Hid (spAbs (al, ah) = spTold (max (max al (-ah)) 0) (max ah (-al))) := by unfold Hid spAbs; rw [if_pos h]
    have H := Lib.hid h; clear h
    go_enter Try.func129, Try.ntmps129
    go_wp2_with (first | (go_at_call 76; refine (c_spanCheck al ah _).mono ?_; rintro e w1 ⟨rfl, hb1⟩; (obtain ⟨hc1, hf1⟩ := bcell hb1; have hs1 := hb1.size; (try simp only [World.size_alloc, World.drew_heap, World.heap_drewN, World.size_setCell] at hs1); try (have z1_0 : w.heap.size < w1.heap.size := (by omega)); try (have z1_1 : w.heap.size + 1 < w1.heap.size := (by omega)); try (have z1_2 : w.heap.size + 1 + 1 < w1.heap.size := (by omega)); try (have z1_3 : w.heap.size + 1 + 1 + 1 < w1.heap.size := (by omega)); try (have z1_4 : w.heap.size + 1 + 1 + 1 + 1 < w1.heap.size := (by omega)); try (have z1_5 : w.heap.size + 1 + 1 + 1 + 1 + 1 < w1.heap.size := (by omega)))) | (go_at_call 113; refine (c_spanTold _ _ _).mono ?_; rintro e w2 ⟨rfl, hb2⟩; (obtain ⟨hc2, hf2⟩ := bcell hb2; have hs2 := hb2.size; (try simp only [World.size_alloc, World.drew_heap, World.heap_drewN, World.size_setCell] at hs2); try (have z2_0 : w.heap.size < w2.heap.size := (by omega)); try (have z2_1 : w.heap.size + 1 < w2.heap.size := (by omega)); try (have z2_2 : w.heap.size + 1 + 1 < w2.heap.size := (by omega)); try (have z2_3 : w.heap.size + 1 + 1 + 1 < w2.heap.size := (by omega)); try (have z2_4 : w.heap.size + 1 + 1 + 1 + 1 < w2.heap.size := (by omega)); try (have z2_5 : w.heap.size + 1 + 1 + 1 + 1 + 1 < w2.heap.size := (by omega)))))
    all_goals first
      | (have hm : max (max al (-ah)) 0 = 0 := by (split at h <;> omega)
         rw [hm] at hs
         refine bodyPost_ret (v := .tuple #[.agg #[.int .i64 (spTold 0 (max ah (-al))).1, .int .i64 (spTold 0 (max ah (-al))).2.1], .int .i64 (spTold 0 (max ah (-al))).2.2]) (by simp [results, Try.results129, go_sem, *]) rfl ⟨by rw [hs.out], by (repeat' (first | (with_reducible exact Below.refl _ _) | assumption | (with_reducible refine Below.setCell ?_ ?_ _) | (with_reducible refine Below.alloc ?_ ?_ _) | (with_reducible refine Below.drew ?_) | (with_reducible refine below_drewN ?_ _) | (with_reducible refine Below.trans ?_ (Below.mono (by assumption) ?_)) | omega | (simp; done) | (simp; omega) | (simp [World.setCell]; omega)))⟩)
      | (rename_i hx; have hm : max (max al (-ah)) 0 = -ah := by (split at hx <;> omega)
         rw [hm] at hs
         refine bodyPost_ret (v := .tuple #[.agg #[.int .i64 (spTold (-ah) (max ah (-al))).1, .int .i64 (spTold (-ah) (max ah (-al))).2.1], .int .i64 (spTold (-ah) (max ah (-al))).2.2]) (by simp [results, Try.results129, go_sem, *]) rfl ⟨by rw [hs.out], by (repeat' (first | (with_reducible exact Below.refl _ _) | assumption | (with_reducible refine Below.setCell ?_ ?_ _) | (with_reducible refine Below.alloc ?_ ?_ _) | (with_reducible refine Below.drew ?_) | (with_reducible refine below_drewN ?_ _) | (with_reducible refine Below.trans ?_ (Below.mono (by assumption) ?_)) | omega | (simp; done) | (simp; omega) | (simp [World.setCell]; omega)))⟩)
      | (rename_i hx; have hm : max (max al (-ah)) 0 = al := by (split at hx <;> omega)
         rw [hm] at hs
         refine bodyPost_ret (v := .tuple #[.agg #[.int .i64 (spTold al (max ah (-al))).1, .int .i64 (spTold al (max ah (-al))).2.1], .int .i64 (spTold al (max ah (-al))).2.2]) (by simp [results, Try.results129, go_sem, *]) rfl ⟨by rw [hs.out], by (repeat' (first | (with_reducible exact Below.refl _ _) | assumption | (with_reducible refine Below.setCell ?_ ?_ _) | (with_reducible refine Below.alloc ?_ ?_ _) | (with_reducible refine Below.drew ?_) | (with_reducible refine below_drewN ?_ _) | (with_reducible refine Below.trans ?_ (Below.mono (by assumption) ?_)) | omega | (simp; done) | (simp; omega) | (simp [World.setCell]; omega)))⟩)
  · have hs : Hid (spAbs (al, ah) = (0, 0, 20)) := by unfold Hid spAbs; rw [if_neg (by omega)]
    have h' : (spChk (al, ah) != 0) = true := by simp [h]
    go_enter Try.func129, Try.ntmps129
    go_wp2_with (first | (go_at_call 76; refine (c_spanCheck al ah _).mono ?_; rintro e w1 ⟨rfl, hb1⟩; (obtain ⟨hc1, hf1⟩ := bcell hb1; have hs1 := hb1.size; (try simp only [World.size_alloc, World.drew_heap, World.heap_drewN, World.size_setCell] at hs1); try (have z1_0 : w.heap.size < w1.heap.size := (by omega)); try (have z1_1 : w.heap.size + 1 < w1.heap.size := (by omega)); try (have z1_2 : w.heap.size + 1 + 1 < w1.heap.size := (by omega)); try (have z1_3 : w.heap.size + 1 + 1 + 1 < w1.heap.size := (by omega)); try (have z1_4 : w.heap.size + 1 + 1 + 1 + 1 < w1.heap.size := (by omega)); try (have z1_5 : w.heap.size + 1 + 1 + 1 + 1 + 1 < w1.heap.size := (by omega)))))
    refine bodyPost_ret (v := .tuple #[.agg #[.int .i64 0, .int .i64 0], .int .i64 20]) (by simp [results, Try.results129, go_sem, *]) rfl ⟨by rw [hs.out], by (repeat' (first | (with_reducible exact Below.refl _ _) | assumption | (with_reducible refine Below.setCell ?_ ?_ _) | (with_reducible refine Below.alloc ?_ ?_ _) | (with_reducible refine Below.drew ?_) | (with_reducible refine below_drewN ?_ _) | (with_reducible refine Below.trans ?_ (Below.mono (by assumption) ?_)) | omega | (simp; done) | (simp; omega) | (simp [World.setCell]; omega)))⟩

set_option maxHeartbeats 400000 in
theorem c_spanOf (lo hi : Int) (w : World) :
    Calls Try.prog 140 #[.int .i64 lo, .int .i64 hi] w fun e w' => e = .returned (.tuple #[.agg #[.int .i64 (spOf lo hi).1, .int .i64 (spOf lo hi).2.1], .int .i64 (spOf lo hi).2.2]) ∧ Below w.heap.size w w' := by
  rcases spChk_or (lo, hi) with h | h
  · have h' : (spChk (lo, hi) != 0) = false := by simp [h]
    have hs : Hid (spOf lo hi = (lo, hi, 0)) := by unfold Hid spOf; rw [if_pos h]
    clear h
    go_enter Try.func140, Try.ntmps140
    go_wp2_with (first | (go_at_call 76; refine (c_spanCheck lo hi _).mono ?_; rintro e w1 ⟨rfl, hb1⟩; (obtain ⟨hc1, hf1⟩ := bcell hb1; have hs1 := hb1.size; (try simp only [World.size_alloc, World.drew_heap, World.heap_drewN, World.size_setCell] at hs1); try (have z1_0 : w.heap.size < w1.heap.size := (by omega)); try (have z1_1 : w.heap.size + 1 < w1.heap.size := (by omega)); try (have z1_2 : w.heap.size + 1 + 1 < w1.heap.size := (by omega)); try (have z1_3 : w.heap.size + 1 + 1 + 1 < w1.heap.size := (by omega)); try (have z1_4 : w.heap.size + 1 + 1 + 1 + 1 < w1.heap.size := (by omega)); try (have z1_5 : w.heap.size + 1 + 1 + 1 + 1 + 1 < w1.heap.size := (by omega)))))
    have q0 : w1.cell? ⟨w.heap.size, 0, none⟩ = some (.int .i64 0) := by simp [go_sem, *]
    have q1 : w1.cell? ⟨w.heap.size, 1, none⟩ = some (.int .i64 0) := by simp [go_sem, *]
    clear hc1
    refine bodyPost_ret (v := .tuple #[.agg #[.int .i64 lo, .int .i64 hi], .int .i64 0]) (by simp [results, Try.results140, go_sem, *]) rfl ⟨by rw [hs.out], by (repeat' (first | (with_reducible exact Below.refl _ _) | assumption | (with_reducible refine Below.setCell ?_ ?_ _) | (with_reducible refine Below.alloc ?_ ?_ _) | (with_reducible refine Below.drew ?_) | (with_reducible refine below_drewN ?_ _) | (with_reducible refine Below.trans ?_ (Below.mono (by assumption) ?_)) | omega | (simp; done) | (simp; omega) | (simp [World.setCell]; omega)))⟩
  · have h' : (spChk (lo, hi) != 0) = true := by simp [h]
    have hs : Hid (spOf lo hi = (0, 0, 20)) := by unfold Hid spOf; rw [if_neg (by omega)]
    go_enter Try.func140, Try.ntmps140
    go_wp2_with (first | (go_at_call 76; refine (c_spanCheck lo hi _).mono ?_; rintro e w1 ⟨rfl, hb1⟩; (obtain ⟨hc1, hf1⟩ := bcell hb1; have hs1 := hb1.size; (try simp only [World.size_alloc, World.drew_heap, World.heap_drewN, World.size_setCell] at hs1); try (have z1_0 : w.heap.size < w1.heap.size := (by omega)); try (have z1_1 : w.heap.size + 1 < w1.heap.size := (by omega)); try (have z1_2 : w.heap.size + 1 + 1 < w1.heap.size := (by omega)); try (have z1_3 : w.heap.size + 1 + 1 + 1 < w1.heap.size := (by omega)); try (have z1_4 : w.heap.size + 1 + 1 + 1 + 1 < w1.heap.size := (by omega)); try (have z1_5 : w.heap.size + 1 + 1 + 1 + 1 + 1 < w1.heap.size := (by omega)))))
    have q0 : w1.cell? ⟨w.heap.size, 0, none⟩ = some (.int .i64 0) := by simp [go_sem, *]
    have q1 : w1.cell? ⟨w.heap.size, 1, none⟩ = some (.int .i64 0) := by simp [go_sem, *]
    clear hc1
    refine bodyPost_ret (v := .tuple #[.agg #[.int .i64 0, .int .i64 0], .int .i64 20]) (by simp [results, Try.results140, go_sem, *]) rfl ⟨by rw [hs.out], by (repeat' (first | (with_reducible exact Below.refl _ _) | assumption | (with_reducible refine Below.setCell ?_ ?_ _) | (with_reducible refine Below.alloc ?_ ?_ _) | (with_reducible refine Below.drew ?_) | (with_reducible refine below_drewN ?_ _) | (with_reducible refine Below.trans ?_ (Below.mono (by assumption) ?_)) | omega | (simp; done) | (simp; omega) | (simp [World.setCell]; omega)))⟩

set_option maxHeartbeats 400000 in
theorem c_spanPoint (v : Int) (w : World) :
    Calls Try.prog 128 #[.int .i64 v] w fun e w' => e = .returned (.tuple #[.agg #[.int .i64 (spOf v v).1, .int .i64 (spOf v v).2.1], .int .i64 (spOf v v).2.2]) ∧ Below w.heap.size w w' := by
  go_enter Try.func128, Try.ntmps128
  go_wp2_with (first | (go_at_call 140; refine (c_spanOf _ _ _).mono ?_; rintro e w1 ⟨rfl, hb1⟩; (obtain ⟨hc1, hf1⟩ := bcell hb1; have hs1 := hb1.size; (try simp only [World.size_alloc, World.drew_heap, World.heap_drewN, World.size_setCell] at hs1); try (have z1_0 : w.heap.size < w1.heap.size := (by omega)); try (have z1_1 : w.heap.size + 1 < w1.heap.size := (by omega)); try (have z1_2 : w.heap.size + 1 + 1 < w1.heap.size := (by omega)); try (have z1_3 : w.heap.size + 1 + 1 + 1 < w1.heap.size := (by omega)); try (have z1_4 : w.heap.size + 1 + 1 + 1 + 1 < w1.heap.size := (by omega)); try (have z1_5 : w.heap.size + 1 + 1 + 1 + 1 + 1 < w1.heap.size := (by omega)))))
  refine bodyPost_ret (v := .tuple #[.agg #[.int .i64 (spOf v v).1, .int .i64 (spOf v v).2.1], .int .i64 (spOf v v).2.2]) (by simp [results, Try.results128, go_sem, *]) rfl ⟨rfl, by (repeat' (first | (with_reducible exact Below.refl _ _) | assumption | (with_reducible refine Below.setCell ?_ ?_ _) | (with_reducible refine Below.alloc ?_ ?_ _) | (with_reducible refine Below.drew ?_) | (with_reducible refine below_drewN ?_ _) | (with_reducible refine Below.trans ?_ (Below.mono (by assumption) ?_)) | omega | (simp; done) | (simp; omega) | (simp [World.setCell]; omega)))⟩

end Go.Proofs.Ytpdaigenffecmaa

namespace Go.Proofs.Ytpdaigenffecmaa

abbrev B64 : Nat := 18446744073709551616

/-- The number that k digits tell. -/
def valTo (f : Nat → Nat) : Nat → Nat
  | 0 => 0
  | k + 1 => valTo f k + f k * B64 ^ k

/-- What is carried behind k digits. -/
def cr (f : Nat → Nat) (m : Nat) : Nat → Nat
  | 0 => 0
  | k + 1 => (f k * m + cr f m k) / B64

def dg (f : Nat → Nat) (m k : Nat) : Nat := (f k * m + cr f m k) % B64

/-- The digits of the product; n digits and the carry. -/
def stp (f : Nat → Nat) (m n : Nat) : Nat → Nat := fun j => if j < n then dg f m j else cr f m n

theorem cr_lt (f : Nat → Nat) (m : Nat) (hf : ∀ j, f j < B64) (hm : m < B64) : ∀ k, cr f m k < B64
  | 0 => by simp [cr]
  | k + 1 => by
    have h1 := cr_lt f m hf hm k
    have h2 := hf k
    unfold cr
    have : f k * m + cr f m k < B64 * B64 := by
      have : f k * m ≤ (B64 - 1) * (B64 - 1) := Nat.mul_le_mul (by omega) (by omega)
      simp only [B64] at *
      omega
    exact Nat.div_lt_of_lt_mul this

theorem dg_lt (f : Nat → Nat) (m k : Nat) : dg f m k < B64 := Nat.mod_lt _ (by decide)

theorem stp_lt (f : Nat → Nat) (m n : Nat) (hf : ∀ j, f j < B64) (hm : m < B64) (j : Nat) : stp f m n j < B64 := by
  unfold stp; split
  · exact dg_lt _ _ _
  · exact cr_lt f m hf hm n

theorem valTo_congr {f g : Nat → Nat} : ∀ {k : Nat}, (∀ j, j < k → f j = g j) → valTo f k = valTo g k
  | 0, _ => rfl
  | k + 1, h => by unfold valTo; rw [valTo_congr (k := k) (fun j hj => h j (by omega)), h k (by omega)]

theorem valTo_dg (f : Nat → Nat) (m : Nat) : ∀ k, valTo (dg f m) k + cr f m k * B64 ^ k = valTo f k * m
  | 0 => by simp [valTo, cr]
  | k + 1 => by
    have h := valTo_dg f m k
    unfold valTo cr
    have e : dg f m k + B64 * ((f k * m + cr f m k) / B64) = f k * m + cr f m k := by unfold dg; rw [Nat.add_comm]; exact Nat.div_add_mod _ _
    rw [Nat.pow_succ, Nat.add_mul]
    calc valTo (dg f m) k + dg f m k * B64 ^ k + (f k * m + cr f m k) / B64 * (B64 ^ k * B64)
        = valTo (dg f m) k + (dg f m k + B64 * ((f k * m + cr f m k) / B64)) * B64 ^ k := by
          rw [Nat.add_mul, Nat.add_assoc]; congr 1; congr 1; ac_rfl
      _ = valTo (dg f m) k + cr f m k * B64 ^ k + f k * m * B64 ^ k := by rw [e, Nat.add_mul]; omega
      _ = valTo f k * m + f k * B64 ^ k * m := by rw [h]; congr 1; ac_rfl

theorem valTo_stp (f : Nat → Nat) (m n : Nat) : valTo (stp f m n) (n + 1) = valTo f n * m := by
  show valTo (stp f m n) n + stp f m n n * B64 ^ n = _
  rw [valTo_congr (g := dg f m) (by intro j hj; simp [stp, hj]), show stp f m n n = cr f m n by simp [stp], valTo_dg]

/-- The digits of the n-th power. -/
def pwd (v : Nat) : Nat → Nat → Nat
  | 0 => fun _ => 1
  | k + 1 => stp (pwd v k) v (k + 1)

theorem pwd_lt (v : Nat) (hv : v < B64) : ∀ k j, pwd v k j < B64
  | 0, _ => by show 1 < B64; decide
  | k + 1, j => stp_lt _ _ _ (pwd_lt v hv k) hv j

theorem valTo_pwd (v : Nat) : ∀ k, valTo (pwd v k) (k + 1) = v ^ k
  | 0 => by simp [valTo, pwd]
  | k + 1 => by
    show valTo (stp (pwd v k) v (k + 1)) (k + 1 + 1) = _
    rw [valTo_stp, valTo_pwd v k, Nat.pow_succ]

theorem valTo_lt (f : Nat → Nat) (hf : ∀ j, f j < B64) : ∀ k, valTo f k < B64 ^ k
  | 0 => by simp [valTo]
  | k + 1 => by
    have h := valTo_lt f hf k
    have h2 : f k + 1 ≤ B64 := hf k
    unfold valTo
    calc valTo f k + f k * B64 ^ k < B64 ^ k + f k * B64 ^ k := by omega
      _ = (f k + 1) * B64 ^ k := by rw [Nat.add_mul]; omega
      _ ≤ B64 * B64 ^ k := Nat.mul_le_mul_right _ h2
      _ = B64 ^ (k + 1) := by rw [Nat.pow_succ, Nat.mul_comm]

/-- The digits from s on tell the rest. -/
theorem valTo_split (f : Nat → Nat) (s : Nat) : ∀ k, valTo f (s + k) = valTo f s + valTo (fun j => f (s + j)) k * B64 ^ s
  | 0 => by simp [valTo]
  | k + 1 => by
    rw [← Nat.add_assoc]
    show valTo f (s + k) + f (s + k) * B64 ^ (s + k) = valTo f s + (valTo (fun j => f (s + j)) k + f (s + k) * B64 ^ k) * B64 ^ s
    rw [valTo_split f s k, Nat.add_mul, Nat.pow_add]
    have : f (s + k) * (B64 ^ s * B64 ^ k) = f (s + k) * B64 ^ k * B64 ^ s := by ac_rfl
    omega

theorem valTo_zero (f : Nat → Nat) : ∀ k, valTo f k = 0 ↔ ∀ j, j < k → f j = 0
  | 0 => by simp [valTo]
  | k + 1 => by
    unfold valTo
    have h := valTo_zero f k
    have hp : 0 < B64 ^ k := Nat.pow_pos (by decide)
    constructor
    · intro e
      have e1 : valTo f k = 0 := by omega
      have e2 : f k * B64 ^ k = 0 := by omega
      have e3 : f k = 0 := by rcases Nat.mul_eq_zero.1 e2 with e | e <;> omega
      intro j hj
      by_cases hjk : j = k
      · subst hjk; exact e3
      · exact h.1 e1 j (by omega)
    · intro e
      rw [h.2 (fun j hj => e j (by omega)), e k (by omega)]; simp

theorem valTo_one_add (f : Nat → Nat) (k : Nat) : valTo f (k + 1) = f 0 + valTo (fun j => f (1 + j)) k * B64 := by
  have := valTo_split f 1 k
  rw [Nat.add_comm 1 k] at this
  rw [this]; simp [valTo]

end Go.Proofs.Ytpdaigenffecmaa
