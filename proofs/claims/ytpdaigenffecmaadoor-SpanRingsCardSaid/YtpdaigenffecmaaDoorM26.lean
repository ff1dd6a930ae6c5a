/-
  The walks of the reference's intervals, the first part.
-/
import Derived.Deep.RegionHeld3
import Derived.Test.YtpdaigenffecmaaDoorM16
import Derived.Test.YtpdaigenffecmaaDoorM21
import Derived.Test.YtpdaigenffecmaaDoorM25
set_option linter.all false
namespace Go.Proofs.YtpdaigenffecmaaDoor
open Go.RowKit Go.Shelf

set_option maxHeartbeats 400000 in
theorem c_sRight (al ah : Int) (w : World) :
    Calls Tryd.prog 65 #[.agg #[.int .i64 al, .int .i64 ah]] w fun e w' => e = .returned (.bool (decide (spChk (al, ah) = 0))) ∧ Below w.heap.size w w' := by
  obtain ⟨x, hx⟩ : ∃ x, x = decide (fxChk al = 0) := ⟨_, rfl⟩
  obtain ⟨y, hy⟩ : ∃ y, y = decide (fxChk ah = 0) := ⟨_, rfl⟩
  have hs : decide (spChk (al, ah) = 0) = (x && (y && decide (al ≤ ah))) := by
    rw [hx, hy, ← Bool.decide_and, ← Bool.decide_and]; exact decide_eq_decide.2 (spChk_parts al ah)
  have HS := Lib.hid hs; clear hs
  have HX := Lib.hid hx; clear hx
  have HY := Lib.hid hy; clear hy
  cases x <;> cases y
  all_goals (go_enter Tryd.func65, Tryd.ntmps65; go_wp2_with (go_at_call 88; refine (c_rRight _ _).mono ?_; (first | rw [← HX.out] | rw [← HY.out]); rintro e w1 ⟨rfl, rfl⟩))
  all_goals go_ret
  all_goals exact ⟨by rw [HS.out]; rfl, by (repeat' (first | (with_reducible exact Below.refl _ _) | assumption | (with_reducible refine Below.setCell ?_ ?_ _) | (with_reducible refine Below.alloc ?_ ?_ _) | (with_reducible refine Below.drew ?_) | (with_reducible refine below_drewN ?_ _) | (with_reducible refine Below.trans ?_ (Below.mono (by assumption) ?_)) | omega | (simp; done) | (simp; omega) | (simp [World.setCell]; omega)))⟩

set_option maxHeartbeats 400000 in
theorem c_sresult (lo hi : Int) (fits : Bool) (w : World) :
    Calls Tryd.prog 70 #[.int .i64 lo, .int .i64 hi, .bool fits] w fun e w' => e = .returned (.tuple #[.agg #[.int .i64 (spRes lo hi fits).1, .int .i64 (spRes lo hi fits).2.1], .int .i64 (spRes lo hi fits).2.2]) ∧ Below w.heap.size w w' := by
  cases fits
  · have hs : Hid (spRes lo hi false = (0, 0, 6)) := by unfold Hid spRes; rw [if_neg (by simp)]
    go_enter Tryd.func70, Tryd.ntmps70
    go_wp2
    refine bodyPost_ret (v := .tuple #[.agg #[.int .i64 (0), .int .i64 (0)], .int .i64 (6)]) (by simp [results, Tryd.results70, go_sem, *]) rfl ⟨by rw [hs.out], by (repeat' (first | (with_reducible exact Below.refl _ _) | assumption | (with_reducible refine Below.setCell ?_ ?_ _) | (with_reducible refine Below.alloc ?_ ?_ _) | (with_reducible refine Below.drew ?_) | (with_reducible refine below_drewN ?_ _) | (with_reducible refine Below.trans ?_ (Below.mono (by assumption) ?_)) | omega | (simp; done) | (simp; omega) | (simp [World.setCell]; omega)))⟩
  · by_cases h : spChk (lo, hi) = 0
    · have h' : decide (spChk (lo, hi) = 0) = true := by simp [h]
      have hs : Hid (spRes lo hi true = (lo, hi, 0)) := by unfold Hid spRes; rw [if_pos ⟨rfl, h⟩]
      have H := Lib.hid h; clear h
      have H' := Lib.hid h'; clear h'
      go_enter Tryd.func70, Tryd.ntmps70
      go_wp2_with (go_at_call 65; refine (c_sRight lo hi _).mono ?_; rw [H'.out]; rintro e w1 ⟨rfl, hb1⟩; (obtain ⟨hc1, hf1⟩ := bcell hb1; have hs1 := hb1.size; (try simp only [World.size_alloc, World.drew_heap, World.heap_drewN, World.size_setCell] at hs1); try (have z1_0 : w.heap.size < w1.heap.size := (by omega)); try (have z1_1 : w.heap.size + 1 < w1.heap.size := (by omega)); try (have z1_2 : w.heap.size + 1 + 1 < w1.heap.size := (by omega)); try (have z1_3 : w.heap.size + 1 + 1 + 1 < w1.heap.size := (by omega)); try (have z1_4 : w.heap.size + 1 + 1 + 1 + 1 < w1.heap.size := (by omega)); try (have z1_5 : w.heap.size + 1 + 1 + 1 + 1 + 1 < w1.heap.size := (by omega))); (have q0 : w1.cell? ⟨w.heap.size, 0, none⟩ = some (.int .i64 0) := by simp [go_sem, *]); (have q1 : w1.cell? ⟨w.heap.size, 1, none⟩ = some (.int .i64 0) := by simp [go_sem, *]); (have q2 : w1.cell? ⟨w.heap.size + 1, 0, none⟩ = some (.int .i64 lo) := by simp [go_sem, *]); (have q3 : w1.cell? ⟨w.heap.size + 1, 1, none⟩ = some (.int .i64 hi) := by simp [go_sem, *]); (have f0 : w1.frozen? ⟨w.heap.size, 0, none⟩ = false := by simp [go_sem, *]); (have f1 : w1.frozen? ⟨w.heap.size, 1, none⟩ = false := by simp [go_sem, *]); clear hc1 hf1)
      refine bodyPost_ret (v := .tuple #[.agg #[.int .i64 (lo), .int .i64 (hi)], .int .i64 (0)]) (by simp [results, Tryd.results70, go_sem, *]) rfl ⟨by rw [hs.out], by (repeat' (first | (with_reducible exact Below.refl _ _) | assumption | (with_reducible refine Below.setCell ?_ ?_ _) | (with_reducible refine Below.alloc ?_ ?_ _) | (with_reducible refine Below.drew ?_) | (with_reducible refine below_drewN ?_ _) | (with_reducible refine Below.trans ?_ (Below.mono (by assumption) ?_)) | omega | (simp; done) | (simp; omega) | (simp [World.setCell]; omega)))⟩
    · have h' : decide (spChk (lo, hi) = 0) = false := by simp [h]
      have hs : Hid (spRes lo hi true = (0, 0, 6)) := by unfold Hid spRes; rw [if_neg (by simp [h])]
      have H := Lib.hid h; clear h
      have H' := Lib.hid h'; clear h'
      go_enter Tryd.func70, Tryd.ntmps70
      go_wp2_with (go_at_call 65; refine (c_sRight lo hi _).mono ?_; rw [H'.out]; rintro e w1 ⟨rfl, hb1⟩; (obtain ⟨hc1, hf1⟩ := bcell hb1; have hs1 := hb1.size; (try simp only [World.size_alloc, World.drew_heap, World.heap_drewN, World.size_setCell] at hs1); try (have z1_0 : w.heap.size < w1.heap.size := (by omega)); try (have z1_1 : w.heap.size + 1 < w1.heap.size := (by omega)); try (have z1_2 : w.heap.size + 1 + 1 < w1.heap.size := (by omega)); try (have z1_3 : w.heap.size + 1 + 1 + 1 < w1.heap.size := (by omega)); try (have z1_4 : w.heap.size + 1 + 1 + 1 + 1 < w1.heap.size := (by omega)); try (have z1_5 : w.heap.size + 1 + 1 + 1 + 1 + 1 < w1.heap.size := (by omega))); (have q0 : w1.cell? ⟨w.heap.size, 0, none⟩ = some (.int .i64 0) := by simp [go_sem, *]); (have q1 : w1.cell? ⟨w.heap.size, 1, none⟩ = some (.int .i64 0) := by simp [go_sem, *]); (have f0 : w1.frozen? ⟨w.heap.size, 0, none⟩ = false := by simp [go_sem, *]); (have f1 : w1.frozen? ⟨w.heap.size, 1, none⟩ = false := by simp [go_sem, *]); clear hc1 hf1)
      refine bodyPost_ret (v := .tuple #[.agg #[.int .i64 (0), .int .i64 (0)], .int .i64 (6)]) (by simp [results, Tryd.results70, go_sem, *]) rfl ⟨by rw [hs.out], by (repeat' (first | (with_reducible exact Below.refl _ _) | assumption | (with_reducible refine Below.setCell ?_ ?_ _) | (with_reducible refine Below.alloc ?_ ?_ _) | (with_reducible refine Below.drew ?_) | (with_reducible refine below_drewN ?_ _) | (with_reducible refine Below.trans ?_ (Below.mono (by assumption) ?_)) | omega | (simp; done) | (simp; omega) | (simp [World.setCell]; omega)))⟩

set_option maxHeartbeats 400000 in
theorem c_sAdd (al ah bl bh : Int) (w : World) :
    Calls Tryd.prog 25 #[.agg #[.int .i64 al, .int .i64 ah], .agg #[.int .i64 bl, .int .i64 bh]] w fun e w' => e = .returned (.tuple #[.agg #[.int .i64 (spAdd (al, ah) (bl, bh)).1, .int .i64 (spAdd (al, ah) (bl, bh)).2.1], .int .i64 (spAdd (al, ah) (bl, bh)).2.2]) ∧ Below w.heap.size w w' := by
  by_cases ha : spChk (al, ah) = 0
  · by_cases hb : spChk (bl, bh) = 0
    · have hs : Hid (spAdd (al, ah) (bl, bh) = spRes (al + bl) (ah + bh) true) := spAdd_ok _ _ ha hb
      obtain ⟨ra1, ra2, ra3⟩ := spChk_ok ha
      obtain ⟨rb1, rb2, rb3⟩ := spChk_ok hb
      simp only at ra1 ra2 ra3 rb1 rb2 rb3
      have ea : Hid (decide (spChk (al, ah) = 0) = true) := decide_eq_true ha
      have eb : Hid (decide (spChk (bl, bh) = 0) = true) := decide_eq_true hb
      clear ha hb
      go_enter Tryd.func25, Tryd.ntmps25
      go_wp2_with (first | (go_at_call 65; refine (c_sRight _ _ _).mono ?_; (first | rw [ea.out] | rw [eb.out]); rintro e w1 ⟨rfl, hb1⟩; (obtain ⟨hc1, hf1⟩ := bcell hb1; have hs1 := hb1.size; (try simp only [World.size_alloc, World.drew_heap, World.heap_drewN, World.size_setCell] at hs1); try (have z1_0 : w.heap.size < w1.heap.size := (by omega)); try (have z1_1 : w.heap.size + 1 < w1.heap.size := (by omega)); try (have z1_2 : w.heap.size + 1 + 1 < w1.heap.size := (by omega)); try (have z1_3 : w.heap.size + 1 + 1 + 1 < w1.heap.size := (by omega)); try (have z1_4 : w.heap.size + 1 + 1 + 1 + 1 < w1.heap.size := (by omega)); try (have z1_5 : w.heap.size + 1 + 1 + 1 + 1 + 1 < w1.heap.size := (by omega)))) | (go_at_call 70; refine (c_sresult _ _ _ _).mono ?_; rintro e w3 ⟨rfl, hb3⟩; (obtain ⟨hc3, hf3⟩ := bcell hb3; have hs3 := hb3.size; (try simp only [World.size_alloc, World.drew_heap, World.heap_drewN, World.size_setCell] at hs3); try (have z3_0 : w.heap.size < w3.heap.size := (by omega)); try (have z3_1 : w.heap.size + 1 < w3.heap.size := (by omega)); try (have z3_2 : w.heap.size + 1 + 1 < w3.heap.size := (by omega)); try (have z3_3 : w.heap.size + 1 + 1 + 1 < w3.heap.size := (by omega)); try (have z3_4 : w.heap.size + 1 + 1 + 1 + 1 < w3.heap.size := (by omega)); try (have z3_5 : w.heap.size + 1 + 1 + 1 + 1 + 1 < w3.heap.size := (by omega)))))
      refine bodyPost_ret (v := .tuple #[.agg #[.int .i64 (spRes (al + bl) (ah + bh) true).1, .int .i64 (spRes (al + bl) (ah + bh) true).2.1], .int .i64 (spRes (al + bl) (ah + bh) true).2.2]) (by simp [results, Tryd.results25, go_sem, *]) rfl ⟨by rw [hs.out], by (repeat' (first | (with_reducible exact Below.refl _ _) | assumption | (with_reducible refine Below.setCell ?_ ?_ _) | (with_reducible refine Below.alloc ?_ ?_ _) | (with_reducible refine Below.drew ?_) | (with_reducible refine below_drewN ?_ _) | (with_reducible refine Below.trans ?_ (Below.mono (by assumption) ?_)) | omega | (simp; done) | (simp; omega) | (simp [World.setCell]; omega)))⟩
    · have hs : Hid (spAdd (al, ah) (bl, bh) = (0, 0, 20)) := spAdd_bad _ _ (.inr hb)
      have ea : Hid (decide (spChk (al, ah) = 0) = true) := decide_eq_true ha
      have eb : Hid (decide (spChk (bl, bh) = 0) = false) := decide_eq_false hb
      clear ha hb
      go_enter Tryd.func25, Tryd.ntmps25
      go_wp2_with (first | (go_at_call 65; refine (c_sRight _ _ _).mono ?_; (first | rw [ea.out] | rw [eb.out]); rintro e w1 ⟨rfl, hb1⟩; (obtain ⟨hc1, hf1⟩ := bcell hb1; have hs1 := hb1.size; (try simp only [World.size_alloc, World.drew_heap, World.heap_drewN, World.size_setCell] at hs1); try (have z1_0 : w.heap.size < w1.heap.size := (by omega)); try (have z1_1 : w.heap.size + 1 < w1.heap.size := (by omega)); try (have z1_2 : w.heap.size + 1 + 1 < w1.heap.size := (by omega)); try (have z1_3 : w.heap.size + 1 + 1 + 1 < w1.heap.size := (by omega)); try (have z1_4 : w.heap.size + 1 + 1 + 1 + 1 < w1.heap.size := (by omega)); try (have z1_5 : w.heap.size + 1 + 1 + 1 + 1 + 1 < w1.heap.size := (by omega)))))
      refine bodyPost_ret (v := .tuple #[.agg #[.int .i64 (0), .int .i64 (0)], .int .i64 (20)]) (by simp [results, Tryd.results25, go_sem, *]) rfl ⟨by rw [hs.out], by (repeat' (first | (with_reducible exact Below.refl _ _) | assumption | (with_reducible refine Below.setCell ?_ ?_ _) | (with_reducible refine Below.alloc ?_ ?_ _) | (with_reducible refine Below.drew ?_) | (with_reducible refine below_drewN ?_ _) | (with_reducible refine Below.trans ?_ (Below.mono (by assumption) ?_)) | omega | (simp; done) | (simp; omega) | (simp [World.setCell]; omega)))⟩
  · have hs : Hid (spAdd (al, ah) (bl, bh) = (0, 0, 20)) := spAdd_bad _ _ (.inl ha)
    have ea : Hid (decide (spChk (al, ah) = 0) = false) := decide_eq_false ha
    have eb : Hid (True) := trivial
    clear ha
    go_enter Tryd.func25, Tryd.ntmps25
    go_wp2_with (first | (go_at_call 65; refine (c_sRight _ _ _).mono ?_; rw [ea.out]; rintro e w1 ⟨rfl, hb1⟩; (obtain ⟨hc1, hf1⟩ := bcell hb1; have hs1 := hb1.size; (try simp only [World.size_alloc, World.drew_heap, World.heap_drewN, World.size_setCell] at hs1); try (have z1_0 : w.heap.size < w1.heap.size := (by omega)); try (have z1_1 : w.heap.size + 1 < w1.heap.size := (by omega)); try (have z1_2 : w.heap.size + 1 + 1 < w1.heap.size := (by omega)); try (have z1_3 : w.heap.size + 1 + 1 + 1 < w1.heap.size := (by omega)); try (have z1_4 : w.heap.size + 1 + 1 + 1 + 1 < w1.heap.size := (by omega)); try (have z1_5 : w.heap.size + 1 + 1 + 1 + 1 + 1 < w1.heap.size := (by omega)))))
    refine bodyPost_ret (v := .tuple #[.agg #[.int .i64 (0), .int .i64 (0)], .int .i64 (20)]) (by simp [results, Tryd.results25, go_sem, *]) rfl ⟨by rw [hs.out], by (repeat' (first | (with_reducible exact Below.refl _ _) | assumption | (with_reducible refine Below.setCell ?_ ?_ _) | (with_reducible refine Below.alloc ?_ ?_ _) | (with_reducible refine Below.drew ?_) | (with_reducible refine below_drewN ?_ _) | (with_reducible refine Below.trans ?_ (Below.mono (by assumption) ?_)) | omega | (simp; done) | (simp; omega) | (simp [World.setCell]; omega)))⟩

set_option maxHeartbeats 400000 in
theorem c_sSub (al ah bl bh : Int) (w : World) :
    Calls Tryd.prog 27 #[.agg #[.int .i64 al, .int .i64 ah], .agg #[.int .i64 bl, .int .i64 bh]] w fun e w' => e = .returned (.tuple #[.agg #[.int .i64 (spSub (al, ah) (bl, bh)).1, .int .i64 (spSub (al, ah) (bl, bh)).2.1], .int .i64 (spSub (al, ah) (bl, bh)).2.2]) ∧ Below w.heap.size w w' := by
  by_cases ha : spChk (al, ah) = 0
  · by_cases hb : spChk (bl, bh) = 0
    · have hs : Hid (spSub (al, ah) (bl, bh) = spRes (al - bh) (ah - bl) true) := spSub_ok _ _ ha hb
      obtain ⟨ra1, ra2, ra3⟩ := spChk_ok ha
      obtain ⟨rb1, rb2, rb3⟩ := spChk_ok hb
      simp only at ra1 ra2 ra3 rb1 rb2 rb3
      have ea : Hid (decide (spChk (al, ah) = 0) = true) := decide_eq_true ha
      have eb : Hid (decide (spChk (bl, bh) = 0) = true) := decide_eq_true hb
      clear ha hb
      go_enter Tryd.func27, Tryd.ntmps27
      go_wp2_with (first | (go_at_call 65; refine (c_sRight _ _ _).mono ?_; (first | rw [ea.out] | rw [eb.out]); rintro e w1 ⟨rfl, hb1⟩; (obtain ⟨hc1, hf1⟩ := bcell hb1; have hs1 := hb1.size; (try simp only [World.size_alloc, World.drew_heap, World.heap_drewN, World.size_setCell] at hs1); try (have z1_0 : w.heap.size < w1.heap.size := (by omega)); try (have z1_1 : w.heap.size + 1 < w1.heap.size := (by omega)); try (have z1_2 : w.heap.size + 1 + 1 < w1.heap.size := (by omega)); try (have z1_3 : w.heap.size + 1 + 1 + 1 < w1.heap.size := (by omega)); try (have z1_4 : w.heap.size + 1 + 1 + 1 + 1 < w1.heap.size := (by omega)); try (have z1_5 : w.heap.size + 1 + 1 + 1 + 1 + 1 < w1.heap.size := (by omega)))) | (go_at_call 70; refine (c_sresult _ _ _ _).mono ?_; rintro e w3 ⟨rfl, hb3⟩; (obtain ⟨hc3, hf3⟩ := bcell hb3; have hs3 := hb3.size; (try simp only [World.size_alloc, World.drew_heap, World.heap_drewN, World.size_setCell] at hs3); try (have z3_0 : w.heap.size < w3.heap.size := (by omega)); try (have z3_1 : w.heap.size + 1 < w3.heap.size := (by omega)); try (have z3_2 : w.heap.size + 1 + 1 < w3.heap.size := (by omega)); try (have z3_3 : w.heap.size + 1 + 1 + 1 < w3.heap.size := (by omega)); try (have z3_4 : w.heap.size + 1 + 1 + 1 + 1 < w3.heap.size := (by omega)); try (have z3_5 : w.heap.size + 1 + 1 + 1 + 1 + 1 < w3.heap.size := (by omega)))))
      refine bodyPost_ret (v := .tuple #[.agg #[.int .i64 (spRes (al - bh) (ah - bl) true).1, .int .i64 (spRes (al - bh) (ah - bl) true).2.1], .int .i64 (spRes (al - bh) (ah - bl) true).2.2]) (by simp [results, Tryd.results27, go_sem, *]) rfl ⟨by rw [hs.out], by (repeat' (first | (with_reducible exact Below.refl _ _) | assumption | (with_reducible refine Below.setCell ?_ ?_ _) | (with_reducible refine Below.alloc ?_ ?_ _) | (with_reducible refine Below.drew ?_) | (with_reducible refine below_drewN ?_ _) | (with_reducible refine Below.trans ?_ (Below.mono (by assumption) ?_)) | omega | (simp; done) | (simp; omega) | (simp [World.setCell]; omega)))⟩
    · have hs : Hid (spSub (al, ah) (bl, bh) = (0, 0, 20)) := spSub_bad _ _ (.inr hb)
      have ea : Hid (decide (spChk (al, ah) = 0) = true) := decide_eq_true ha
      have eb : Hid (decide (spChk (bl, bh) = 0) = false) := decide_eq_false hb
      clear ha hb
      go_enter Tryd.func27, Tryd.ntmps27
      go_wp2_with (first | (go_at_call 65; refine (c_sRight _ _ _).mono ?_; (first | rw [ea.out] | rw [eb.out]); rintro e w1 ⟨rfl, hb1⟩; (obtain ⟨hc1, hf1⟩ := bcell hb1; have hs1 := hb1.size; (try simp only [World.size_alloc, World.drew_heap, World.heap_drewN, World.size_setCell] at hs1); try (have z1_0 : w.heap.size < w1.heap.size := (by omega)); try (have z1_1 : w.heap.size + 1 < w1.heap.size := (by omega)); try (have z1_2 : w.heap.size + 1 + 1 < w1.heap.size := (by omega)); try (have z1_3 : w.heap.size + 1 + 1 + 1 < w1.heap.size := (by omega)); try (have z1_4 : w.heap.size + 1 + 1 + 1 + 1 < w1.heap.size := (by omega)); try (have z1_5 : w.heap.size + 1 + 1 + 1 + 1 + 1 < w1.heap.size := (by omega)))))
      refine bodyPost_ret (v := .tuple #[.agg #[.int .i64 (0), .int .i64 (0)], .int .i64 (20)]) (by simp [results, Tryd.results27, go_sem, *]) rfl ⟨by rw [hs.out], by (repeat' (first | (with_reducible exact Below.refl _ _) | assumption | (with_reducible refine Below.setCell ?_ ?_ _) | (with_reducible refine Below.alloc ?_ ?_ _) | (with_reducible refine Below.drew ?_) | (with_reducible refine below_drewN ?_ _) | (with_reducible refine Below.trans ?_ (Below.mono (by assumption) ?_)) | omega | (simp; done) | (simp; omega) | (simp [World.setCell]; omega)))⟩
  · have hs : Hid (spSub (al, ah) (bl, bh) = (0, 0, 20)) := spSub_bad _ _ (.inl ha)
    have ea : Hid (decide (spChk (al, ah) = 0) = false) := decide_eq_false ha
    have eb : Hid (True) := trivial
    clear ha
    go_enter Tryd.func27, Tryd.ntmps27
    go_wp2_with (first | (go_at_call 65; refine (c_sRight _ _ _).mono ?_; rw [ea.out]; rintro e w1 ⟨rfl, hb1⟩; (obtain ⟨hc1, hf1⟩ := bcell hb1; have hs1 := hb1.size; (try simp only [World.size_alloc, World.drew_heap, World.heap_drewN, World.size_setCell] at hs1); try (have z1_0 : w.heap.size < w1.heap.size := (by omega)); try (have z1_1 : w.heap.size + 1 < w1.heap.size := (by omega)); try (have z1_2 : w.heap.size + 1 + 1 < w1.heap.size := (by omega)); try (have z1_3 : w.heap.size + 1 + 1 + 1 < w1.heap.size := (by omega)); try (have z1_4 : w.heap.size + 1 + 1 + 1 + 1 < w1.heap.size := (by omega)); try (have z1_5 : w.heap.size + 1 + 1 + 1 + 1 + 1 < w1.heap.size := (by omega)))))
    refine bodyPost_ret (v := .tuple #[.agg #[.int .i64 (0), .int .i64 (0)], .int .i64 (20)]) (by simp [results, Tryd.results27, go_sem, *]) rfl ⟨by rw [hs.out], by (repeat' (first | (with_reducible exact Below.refl _ _) | assumption | (with_reducible refine Below.setCell ?_ ?_ _) | (with_reducible refine Below.alloc ?_ ?_ _) | (with_reducible refine Below.drew ?_) | (with_reducible refine below_drewN ?_ _) | (with_reducible refine Below.trans ?_ (Below.mono (by assumption) ?_)) | omega | (simp; done) | (simp; omega) | (simp [World.setCell]; omega)))⟩

set_option maxHeartbeats 400000 in
theorem c_sNeg (al ah : Int) (w : World) :
    Calls Tryd.prog 29 #[.agg #[.int .i64 al, .int .i64 ah]] w fun e w' => e = .returned (.tuple #[.agg #[.int .i64 (spNeg (al, ah)).1, .int .i64 (spNeg (al, ah)).2.1], .int .i64 (spNeg (al, ah)).2.2]) ∧ Below w.heap.size w w' := by
  by_cases ha : spChk (al, ah) = 0
  · have hs : Hid (spNeg (al, ah) = (-ah, -al, 0)) := spNeg_ok _ ha
    obtain ⟨ra1, ra2, ra3⟩ := spChk_ok ha
    simp only at ra1 ra2 ra3
    have ea : Hid (decide (spChk (al, ah) = 0) = true) := decide_eq_true ha
    clear ha
    go_enter Tryd.func29, Tryd.ntmps29
    go_wp2_with (first | (go_at_call 65; refine (c_sRight _ _ _).mono ?_; rw [ea.out]; rintro e w1 ⟨rfl, hb1⟩; (obtain ⟨hc1, hf1⟩ := bcell hb1; have hs1 := hb1.size; (try simp only [World.size_alloc, World.drew_heap, World.heap_drewN, World.size_setCell] at hs1); try (have z1_0 : w.heap.size < w1.heap.size := (by omega)); try (have z1_1 : w.heap.size + 1 < w1.heap.size := (by omega)); try (have z1_2 : w.heap.size + 1 + 1 < w1.heap.size := (by omega)); try (have z1_3 : w.heap.size + 1 + 1 + 1 < w1.heap.size := (by omega)); try (have z1_4 : w.heap.size + 1 + 1 + 1 + 1 < w1.heap.size := (by omega)); try (have z1_5 : w.heap.size + 1 + 1 + 1 + 1 + 1 < w1.heap.size := (by omega)))))
    refine bodyPost_ret (v := .tuple #[.agg #[.int .i64 (-ah), .int .i64 (-al)], .int .i64 (0)]) (by simp [results, Tryd.results29, go_sem, *]) rfl ⟨by rw [hs.out], by (repeat' (first | (with_reducible exact Below.refl _ _) | assumption | (with_reducible refine Below.setCell ?_ ?_ _) | (with_reducible refine Below.alloc ?_ ?_ _) | (with_reducible refine Below.drew ?_) | (with_reducible refine below_drewN ?_ _) | (with_reducible refine Below.trans ?_ (Below.mono (by assumption) ?_)) | omega | (simp; done) | (simp; omega) | (simp [World.setCell]; omega)))⟩
  · have hs : Hid (spNeg (al, ah) = (0, 0, 20)) := spNeg_bad _ ha
    have ea : Hid (decide (spChk (al, ah) = 0) = false) := decide_eq_false ha
    clear ha
    go_enter Tryd.func29, Tryd.ntmps29
    go_wp2_with (first | (go_at_call 65; refine (c_sRight _ _ _).mono ?_; rw [ea.out]; rintro e w1 ⟨rfl, hb1⟩; (obtain ⟨hc1, hf1⟩ := bcell hb1; have hs1 := hb1.size; (try simp only [World.size_alloc, World.drew_heap, World.heap_drewN, World.size_setCell] at hs1); try (have z1_0 : w.heap.size < w1.heap.size := (by omega)); try (have z1_1 : w.heap.size + 1 < w1.heap.size := (by omega)); try (have z1_2 : w.heap.size + 1 + 1 < w1.heap.size := (by omega)); try (have z1_3 : w.heap.size + 1 + 1 + 1 < w1.heap.size := (by omega)); try (have z1_4 : w.heap.size + 1 + 1 + 1 + 1 < w1.heap.size := (by omega)); try (have z1_5 : w.heap.size + 1 + 1 + 1 + 1 + 1 < w1.heap.size := (by omega)))))
    refine bodyPost_ret (v := .tuple #[.agg #[.int .i64 (0), .int .i64 (0)], .int .i64 (20)]) (by simp [results, Tryd.results29, go_sem, *]) rfl ⟨by rw [hs.out], by (repeat' (first | (with_reducible exact Below.refl _ _) | assumption | (with_reducible refine Below.setCell ?_ ?_ _) | (with_reducible refine Below.alloc ?_ ?_ _) | (with_reducible refine Below.drew ?_) | (with_reducible refine below_drewN ?_ _) | (with_reducible refine Below.trans ?_ (Below.mono (by assumption) ?_)) | omega | (simp; done) | (simp; omega) | (simp [World.setCell]; omega)))⟩

theorem c_sCheck (al ah : Int) (w : World) :
    Calls Tryd.prog 19 #[.agg #[.int .i64 al, .int .i64 ah]] w fun e w' => e = .returned (.int .i64 (spChk (al, ah))) ∧ Below w.heap.size w w' := by
  rcases spChk_or (al, ah) with ha | ha
  · have hs := Lib.hid ha
    have ea : Hid (decide (spChk (al, ah) = 0) = true) := decide_eq_true ha
    clear ha
    go_enter Tryd.func19, Tryd.ntmps19
    go_wp2_with (first | (go_at_call 65; refine (c_sRight _ _ _).mono ?_; rw [ea.out]; rintro e w1 ⟨rfl, hb1⟩; (obtain ⟨hc1, hf1⟩ := bcell hb1; have hs1 := hb1.size; (try simp only [World.size_alloc, World.drew_heap, World.heap_drewN, World.size_setCell] at hs1); try (have z1_0 : w.heap.size < w1.heap.size := (by omega)); try (have z1_1 : w.heap.size + 1 < w1.heap.size := (by omega)); try (have z1_2 : w.heap.size + 1 + 1 < w1.heap.size := (by omega)); try (have z1_3 : w.heap.size + 1 + 1 + 1 < w1.heap.size := (by omega)); try (have z1_4 : w.heap.size + 1 + 1 + 1 + 1 < w1.heap.size := (by omega)); try (have z1_5 : w.heap.size + 1 + 1 + 1 + 1 + 1 < w1.heap.size := (by omega)))))
    go_ret
    exact ⟨by rw [hs.out]; rfl, by (repeat' (first | (with_reducible exact Below.refl _ _) | assumption | (with_reducible refine Below.setCell ?_ ?_ _) | (with_reducible refine Below.alloc ?_ ?_ _) | (with_reducible refine Below.drew ?_) | (with_reducible refine below_drewN ?_ _) | (with_reducible refine Below.trans ?_ (Below.mono (by assumption) ?_)) | omega | (simp; done) | (simp; omega) | (simp [World.setCell]; omega)))⟩
  · have hs := Lib.hid ha
    have ea : Hid (decide (spChk (al, ah) = 0) = false) := decide_eq_false (by omega)
    clear ha
    go_enter Tryd.func19, Tryd.ntmps19
    go_wp2_with (first | (go_at_call 65; refine (c_sRight _ _ _).mono ?_; rw [ea.out]; rintro e w1 ⟨rfl, hb1⟩; (obtain ⟨hc1, hf1⟩ := bcell hb1; have hs1 := hb1.size; (try simp only [World.size_alloc, World.drew_heap, World.heap_drewN, World.size_setCell] at hs1); try (have z1_0 : w.heap.size < w1.heap.size := (by omega)); try (have z1_1 : w.heap.size + 1 < w1.heap.size := (by omega)); try (have z1_2 : w.heap.size + 1 + 1 < w1.heap.size := (by omega)); try (have z1_3 : w.heap.size + 1 + 1 + 1 < w1.heap.size := (by omega)); try (have z1_4 : w.heap.size + 1 + 1 + 1 + 1 < w1.heap.size := (by omega)); try (have z1_5 : w.heap.size + 1 + 1 + 1 + 1 + 1 < w1.heap.size := (by omega)))))
    go_ret
    exact ⟨by rw [hs.out]; rfl, by (repeat' (first | (with_reducible exact Below.refl _ _) | assumption | (with_reducible refine Below.setCell ?_ ?_ _) | (with_reducible refine Below.alloc ?_ ?_ _) | (with_reducible refine Below.drew ?_) | (with_reducible refine below_drewN ?_ _) | (with_reducible refine Below.trans ?_ (Below.mono (by assumption) ?_)) | omega | (simp; done) | (simp; omega) | (simp [World.setCell]; omega)))⟩

end Go.Proofs.YtpdaigenffecmaaDoor
