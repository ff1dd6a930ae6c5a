/-
  The walks of span.Pow and span.Sqr.
-/
import Derived.Test.YtpdaigenffecmaaDoorM15
import Derived.Test.YtpdaigenffecmaaDoorM19
set_option linter.all false
namespace Go.Proofs.YtpdaigenffecmaaDoor
open Go.RowKit Go.Shelf

set_option maxHeartbeats 1000000 in
theorem c_powBad (al ah : Int) (n : Int) (h : spChk (al, ah) = 20) (w : World) :
    Calls Tryd.prog 34 #[.agg #[.int .i64 al, .int .i64 ah], .int .i64 (n)] w fun e w' => e = .returned (.tuple #[.agg #[.int .i64 ((spPow (al, ah) (n)).1), .int .i64 ((spPow (al, ah) (n)).2.1)], .int .i64 ((spPow (al, ah) (n)).2.2)]) ∧ Below w.heap.size w w' := by
  have hs : Hid (spPow (al, ah) n = (0, 0, 20)) := spPow_bad _ _ h
  have h' : (spChk (al, ah) != 0) = true := by simp [h]
  go_enter Tryd.func34, Tryd.ntmps34
  go_wp2_with (first | (go_at_call 18; refine (c_spanCheck al ah _).mono ?_; rintro e w1 ⟨rfl, hb1⟩; (obtain ⟨hc1, hf1⟩ := bcell hb1; have hs1 := hb1.size; (try simp only [World.size_alloc, World.drew_heap, World.heap_drewN, World.size_setCell] at hs1); try (have z1_0 : w.heap.size < w1.heap.size := (by omega)); try (have z1_1 : w.heap.size + 1 < w1.heap.size := (by omega)); try (have z1_2 : w.heap.size + 1 + 1 < w1.heap.size := (by omega)); try (have z1_3 : w.heap.size + 1 + 1 + 1 < w1.heap.size := (by omega)); try (have z1_4 : w.heap.size + 1 + 1 + 1 + 1 < w1.heap.size := (by omega)); try (have z1_5 : w.heap.size + 1 + 1 + 1 + 1 + 1 < w1.heap.size := (by omega)))))
  refine bodyPost_ret (v := .tuple #[.agg #[.int .i64 (0), .int .i64 (0)], .int .i64 (20)]) (by simp [results, Tryd.results34, go_sem, *]) rfl ⟨by rw [hs.out], by (repeat' (first | (with_reducible exact Below.refl _ _) | assumption | (with_reducible refine Below.setCell ?_ ?_ _) | (with_reducible refine Below.alloc ?_ ?_ _) | (with_reducible refine Below.drew ?_) | (with_reducible refine below_drewN ?_ _) | (with_reducible refine Below.trans ?_ (Below.mono (by assumption) ?_)) | omega | (simp; done) | (simp; omega) | (simp [World.setCell]; omega)))⟩

set_option maxHeartbeats 1000000 in
theorem c_powNeg (al ah : Int) (n : Int) (h : spChk (al, ah) = 0) (hn : n < 0) (w : World) :
    Calls Tryd.prog 34 #[.agg #[.int .i64 al, .int .i64 ah], .int .i64 (n)] w fun e w' => e = .returned (.tuple #[.agg #[.int .i64 ((spPow (al, ah) (n)).1), .int .i64 ((spPow (al, ah) (n)).2.1)], .int .i64 ((spPow (al, ah) (n)).2.2)]) ∧ Below w.heap.size w w' := by
  have hs : Hid (spPow (al, ah) n = (0, 0, 2)) := spPow_arg _ _ h (by omega)
  have h' : (spChk (al, ah) != 0) = false := by simp [h]
  have t1 : decide (n < 0) = true := by simp; omega
  have H := Lib.hid h; clear h
  go_enter Tryd.func34, Tryd.ntmps34
  go_wp2_with (first | (go_at_call 18; refine (c_spanCheck al ah _).mono ?_; rintro e w1 ⟨rfl, hb1⟩; (obtain ⟨hc1, hf1⟩ := bcell hb1; have hs1 := hb1.size; (try simp only [World.size_alloc, World.drew_heap, World.heap_drewN, World.size_setCell] at hs1); try (have z1_0 : w.heap.size < w1.heap.size := (by omega)); try (have z1_1 : w.heap.size + 1 < w1.heap.size := (by omega)); try (have z1_2 : w.heap.size + 1 + 1 < w1.heap.size := (by omega)); try (have z1_3 : w.heap.size + 1 + 1 + 1 < w1.heap.size := (by omega)); try (have z1_4 : w.heap.size + 1 + 1 + 1 + 1 < w1.heap.size := (by omega)); try (have z1_5 : w.heap.size + 1 + 1 + 1 + 1 + 1 < w1.heap.size := (by omega)))))
  refine bodyPost_ret (v := .tuple #[.agg #[.int .i64 (0), .int .i64 (0)], .int .i64 (2)]) (by simp [results, Tryd.results34, go_sem, *]) rfl ⟨by rw [hs.out], by (repeat' (first | (with_reducible exact Below.refl _ _) | assumption | (with_reducible refine Below.setCell ?_ ?_ _) | (with_reducible refine Below.alloc ?_ ?_ _) | (with_reducible refine Below.drew ?_) | (with_reducible refine below_drewN ?_ _) | (with_reducible refine Below.trans ?_ (Below.mono (by assumption) ?_)) | omega | (simp; done) | (simp; omega) | (simp [World.setCell]; omega)))⟩

set_option maxHeartbeats 1000000 in
theorem c_powGreat (al ah : Int) (n : Int) (h : spChk (al, ah) = 0) (hn : 16 < n) (w : World) :
    Calls Tryd.prog 34 #[.agg #[.int .i64 al, .int .i64 ah], .int .i64 (n)] w fun e w' => e = .returned (.tuple #[.agg #[.int .i64 ((spPow (al, ah) (n)).1), .int .i64 ((spPow (al, ah) (n)).2.1)], .int .i64 ((spPow (al, ah) (n)).2.2)]) ∧ Below w.heap.size w w' := by
  have hs : Hid (spPow (al, ah) n = (0, 0, 2)) := spPow_arg _ _ h (by omega)
  have h' : (spChk (al, ah) != 0) = false := by simp [h]
  have t1 : decide (n < 0) = false := by simp; omega
  have t2 : decide (16 < n) = true := by simp; omega
  have H := Lib.hid h; clear h
  go_enter Tryd.func34, Tryd.ntmps34
  go_wp2_with (first | (go_at_call 18; refine (c_spanCheck al ah _).mono ?_; rintro e w1 ⟨rfl, hb1⟩; (obtain ⟨hc1, hf1⟩ := bcell hb1; have hs1 := hb1.size; (try simp only [World.size_alloc, World.drew_heap, World.heap_drewN, World.size_setCell] at hs1); try (have z1_0 : w.heap.size < w1.heap.size := (by omega)); try (have z1_1 : w.heap.size + 1 < w1.heap.size := (by omega)); try (have z1_2 : w.heap.size + 1 + 1 < w1.heap.size := (by omega)); try (have z1_3 : w.heap.size + 1 + 1 + 1 < w1.heap.size := (by omega)); try (have z1_4 : w.heap.size + 1 + 1 + 1 + 1 < w1.heap.size := (by omega)); try (have z1_5 : w.heap.size + 1 + 1 + 1 + 1 + 1 < w1.heap.size := (by omega)))))
  refine bodyPost_ret (v := .tuple #[.agg #[.int .i64 (0), .int .i64 (0)], .int .i64 (2)]) (by simp [results, Tryd.results34, go_sem, *]) rfl ⟨by rw [hs.out], by (repeat' (first | (with_reducible exact Below.refl _ _) | assumption | (with_reducible refine Below.setCell ?_ ?_ _) | (with_reducible refine Below.alloc ?_ ?_ _) | (with_reducible refine Below.drew ?_) | (with_reducible refine below_drewN ?_ _) | (with_reducible refine Below.trans ?_ (Below.mono (by assumption) ?_)) | omega | (simp; done) | (simp; omega) | (simp [World.setCell]; omega)))⟩

set_option maxHeartbeats 1000000 in
theorem c_powZero (al ah : Int) (h : spChk (al, ah) = 0) (w : World) :
    Calls Tryd.prog 34 #[.agg #[.int .i64 al, .int .i64 ah], .int .i64 (0)] w fun e w' => e = .returned (.tuple #[.agg #[.int .i64 ((spPow (al, ah) (0)).1), .int .i64 ((spPow (al, ah) (0)).2.1)], .int .i64 ((spPow (al, ah) (0)).2.2)]) ∧ Below w.heap.size w w' := by
  have hs : Hid (spPow (al, ah) 0 = (4294967296, 4294967296, 0)) := spPow_zero _ h
  have h' : (spChk (al, ah) != 0) = false := by simp [h]
  have hO : spOf 4294967296 4294967296 = (4294967296, 4294967296, 0) := by decide
  have H := Lib.hid h; clear h
  go_enter Tryd.func34, Tryd.ntmps34
  go_wp2_with (first | (go_at_call 18; refine (c_spanCheck al ah _).mono ?_; rintro e w1 ⟨rfl, hb1⟩; (obtain ⟨hc1, hf1⟩ := bcell hb1; have hs1 := hb1.size; (try simp only [World.size_alloc, World.drew_heap, World.heap_drewN, World.size_setCell] at hs1); try (have z1_0 : w.heap.size < w1.heap.size := (by omega)); try (have z1_1 : w.heap.size + 1 < w1.heap.size := (by omega)); try (have z1_2 : w.heap.size + 1 + 1 < w1.heap.size := (by omega)); try (have z1_3 : w.heap.size + 1 + 1 + 1 < w1.heap.size := (by omega)); try (have z1_4 : w.heap.size + 1 + 1 + 1 + 1 < w1.heap.size := (by omega)); try (have z1_5 : w.heap.size + 1 + 1 + 1 + 1 + 1 < w1.heap.size := (by omega)))) | (go_at_call 16; refine (c_spanPoint _ _).mono ?_; rw [hO]; rintro e w2 ⟨rfl, hb2⟩; (obtain ⟨hc2, hf2⟩ := bcell hb2; have hs2 := hb2.size; (try simp only [World.size_alloc, World.drew_heap, World.heap_drewN, World.size_setCell] at hs2); try (have z2_0 : w.heap.size < w2.heap.size := (by omega)); try (have z2_1 : w.heap.size + 1 < w2.heap.size := (by omega)); try (have z2_2 : w.heap.size + 1 + 1 < w2.heap.size := (by omega)); try (have z2_3 : w.heap.size + 1 + 1 + 1 < w2.heap.size := (by omega)); try (have z2_4 : w.heap.size + 1 + 1 + 1 + 1 < w2.heap.size := (by omega)); try (have z2_5 : w.heap.size + 1 + 1 + 1 + 1 + 1 < w2.heap.size := (by omega)))))
  refine bodyPost_ret (v := .tuple #[.agg #[.int .i64 (4294967296), .int .i64 (4294967296)], .int .i64 (0)]) (by simp [results, Tryd.results34, go_sem, *]) rfl ⟨by rw [hs.out], by (repeat' (first | (with_reducible exact Below.refl _ _) | assumption | (with_reducible refine Below.setCell ?_ ?_ _) | (with_reducible refine Below.alloc ?_ ?_ _) | (with_reducible refine Below.drew ?_) | (with_reducible refine below_drewN ?_ _) | (with_reducible refine Below.trans ?_ (Below.mono (by assumption) ?_)) | omega | (simp; done) | (simp; omega) | (simp [World.setCell]; omega)))⟩

set_option maxHeartbeats 1000000 in
theorem c_powOdd (al ah : Int) (n s : Nat) (hn : n = 2 * s + 1) (hn2 : n ≤ 16) (h : spChk (al, ah) = 0) (w : World) :
    Calls Tryd.prog 34 #[.agg #[.int .i64 al, .int .i64 ah], .int .i64 ((n : Int))] w fun e w' => e = .returned (.tuple #[.agg #[.int .i64 ((spPow (al, ah) ((n : Int))).1), .int .i64 ((spPow (al, ah) ((n : Int))).2.1)], .int .i64 ((spPow (al, ah) ((n : Int))).2.2)]) ∧ Below w.heap.size w w' := by
  have h' : (spChk (al, ah) != 0) = false := by simp [h]
  obtain ⟨ra1, ra2, ra3⟩ := spChk_ok h
  simp only at ra1 ra2 ra3
  have bX : al.natAbs ≤ 4503599627370496 := by omega
  have bY : ah.natAbs ≤ 4503599627370496 := by omega
  have hs : spPow (al, ah) (n : Int) = spPowOf (pwS al n) (pwS ah n) := by rw [spPow_odd _ _ h (by omega) (by omega)]
  have t1 : decide ((n : Int) < 0) = false := by (simp <;> omega)
  have t2 : decide (16 < (n : Int)) = false := by simp; omega
  have t3 : ((n : Int) == 0) = false := by (simp <;> omega)
  have t4 : (n : Int).tmod 2 = 1 := by rw [Int.tmod_eq_emod_of_nonneg (by omega)]; omega
  have t5 : (n : Int) % 2 = 1 := by omega
  have t6 : ¬ (n : Int) = 0 := by omega
  have t7 : ¬ n = 0 := by omega
  have BX := Lib.hid bX; clear bX
  have BY := Lib.hid bY; clear bY
  have HN := Lib.hid hn; clear hn
  have H := Lib.hid h; clear h
  clear ra1 ra2 ra3
  by_cases e1 : (pwS al n).2.2 = 0
  · have e1' : ((pwS al n).2.2 != 0) = false := by simp [e1]
    by_cases e2 : (pwS ah n).2.2 = 0
    · have e2' : ((pwS ah n).2.2 != 0) = false := by simp [e2]
      rw [spPowOf_ok _ _ e1 e2] at hs
      have hs := Lib.hid hs
      clear e1 e2
      go_enter Tryd.func34, Tryd.ntmps34
      go_wp2_with (first | (go_at_call 18; refine (c_spanCheck al ah _).mono ?_; rintro e w1 ⟨rfl, hb1⟩; (obtain ⟨hc1, hf1⟩ := bcell hb1; have hs1 := hb1.size; (try simp only [World.size_alloc, World.drew_heap, World.heap_drewN, World.size_setCell] at hs1); try (have z1_0 : w.heap.size < w1.heap.size := (by omega)); try (have z1_1 : w.heap.size + 1 < w1.heap.size := (by omega)); try (have z1_2 : w.heap.size + 1 + 1 < w1.heap.size := (by omega)); try (have z1_3 : w.heap.size + 1 + 1 + 1 < w1.heap.size := (by omega)); try (have z1_4 : w.heap.size + 1 + 1 + 1 + 1 < w1.heap.size := (by omega)); try (have z1_5 : w.heap.size + 1 + 1 + 1 + 1 + 1 < w1.heap.size := (by omega)))) | (go_at_call 76; refine (c_power1 _ n s _ rfl HN.out hn2 (by first | exact BX.out | exact BY.out) _).mono ?_; rintro e w3 ⟨rfl, hb3⟩; (obtain ⟨hc3, hf3⟩ := bcell hb3; have hs3 := hb3.size; (try simp only [World.size_alloc, World.drew_heap, World.heap_drewN, World.size_setCell] at hs3); try (have z3_0 : w.heap.size < w3.heap.size := (by omega)); try (have z3_1 : w.heap.size + 1 < w3.heap.size := (by omega)); try (have z3_2 : w.heap.size + 1 + 1 < w3.heap.size := (by omega)); try (have z3_3 : w.heap.size + 1 + 1 + 1 < w3.heap.size := (by omega)); try (have z3_4 : w.heap.size + 1 + 1 + 1 + 1 < w3.heap.size := (by omega)); try (have z3_5 : w.heap.size + 1 + 1 + 1 + 1 + 1 < w3.heap.size := (by omega)))) | (go_at_call 69; refine (c_spanTold _ _ _).mono ?_; rintro e w5 ⟨rfl, hb5⟩; (obtain ⟨hc5, hf5⟩ := bcell hb5; have hs5 := hb5.size; (try simp only [World.size_alloc, World.drew_heap, World.heap_drewN, World.size_setCell] at hs5); try (have z5_0 : w.heap.size < w5.heap.size := (by omega)); try (have z5_1 : w.heap.size + 1 < w5.heap.size := (by omega)); try (have z5_2 : w.heap.size + 1 + 1 < w5.heap.size := (by omega)); try (have z5_3 : w.heap.size + 1 + 1 + 1 < w5.heap.size := (by omega)); try (have z5_4 : w.heap.size + 1 + 1 + 1 + 1 < w5.heap.size := (by omega)); try (have z5_5 : w.heap.size + 1 + 1 + 1 + 1 + 1 < w5.heap.size := (by omega)))))
      refine bodyPost_ret (v := .tuple #[.agg #[.int .i64 ((spTold (pwS al n).1 (pwS ah n).2.1).1), .int .i64 ((spTold (pwS al n).1 (pwS ah n).2.1).2.1)], .int .i64 ((spTold (pwS al n).1 (pwS ah n).2.1).2.2)]) (by simp [results, Tryd.results34, go_sem, *]) rfl ⟨by rw [hs.out], by (repeat' (first | (with_reducible exact Below.refl _ _) | assumption | (with_reducible refine Below.setCell ?_ ?_ _) | (with_reducible refine Below.alloc ?_ ?_ _) | (with_reducible refine Below.drew ?_) | (with_reducible refine below_drewN ?_ _) | (with_reducible refine Below.trans ?_ (Below.mono (by assumption) ?_)) | omega | (simp; done) | (simp; omega) | (simp [World.setCell]; omega)))⟩
    · have e2' : ((pwS ah n).2.2 != 0) = true := by simp [e2]
      rw [spPowOf_bad _ _ (.inr e2)] at hs
      have hs := Lib.hid hs
      clear e1 e2
      go_enter Tryd.func34, Tryd.ntmps34
      go_wp2_with (first | (go_at_call 18; refine (c_spanCheck al ah _).mono ?_; rintro e w1 ⟨rfl, hb1⟩; (obtain ⟨hc1, hf1⟩ := bcell hb1; have hs1 := hb1.size; (try simp only [World.size_alloc, World.drew_heap, World.heap_drewN, World.size_setCell] at hs1); try (have z1_0 : w.heap.size < w1.heap.size := (by omega)); try (have z1_1 : w.heap.size + 1 < w1.heap.size := (by omega)); try (have z1_2 : w.heap.size + 1 + 1 < w1.heap.size := (by omega)); try (have z1_3 : w.heap.size + 1 + 1 + 1 < w1.heap.size := (by omega)); try (have z1_4 : w.heap.size + 1 + 1 + 1 + 1 < w1.heap.size := (by omega)); try (have z1_5 : w.heap.size + 1 + 1 + 1 + 1 + 1 < w1.heap.size := (by omega)))) | (go_at_call 76; refine (c_power1 _ n s _ rfl HN.out hn2 (by first | exact BX.out | exact BY.out) _).mono ?_; rintro e w3 ⟨rfl, hb3⟩; (obtain ⟨hc3, hf3⟩ := bcell hb3; have hs3 := hb3.size; (try simp only [World.size_alloc, World.drew_heap, World.heap_drewN, World.size_setCell] at hs3); try (have z3_0 : w.heap.size < w3.heap.size := (by omega)); try (have z3_1 : w.heap.size + 1 < w3.heap.size := (by omega)); try (have z3_2 : w.heap.size + 1 + 1 < w3.heap.size := (by omega)); try (have z3_3 : w.heap.size + 1 + 1 + 1 < w3.heap.size := (by omega)); try (have z3_4 : w.heap.size + 1 + 1 + 1 + 1 < w3.heap.size := (by omega)); try (have z3_5 : w.heap.size + 1 + 1 + 1 + 1 + 1 < w3.heap.size := (by omega)))))
      refine bodyPost_ret (v := .tuple #[.agg #[.int .i64 (0), .int .i64 (0)], .int .i64 (6)]) (by simp [results, Tryd.results34, go_sem, *]) rfl ⟨by rw [hs.out], by (repeat' (first | (with_reducible exact Below.refl _ _) | assumption | (with_reducible refine Below.setCell ?_ ?_ _) | (with_reducible refine Below.alloc ?_ ?_ _) | (with_reducible refine Below.drew ?_) | (with_reducible refine below_drewN ?_ _) | (with_reducible refine Below.trans ?_ (Below.mono (by assumption) ?_)) | omega | (simp; done) | (simp; omega) | (simp [World.setCell]; omega)))⟩
  · have e1' : ((pwS al n).2.2 != 0) = true := by simp [e1]
    rw [spPowOf_bad _ _ (.inl e1)] at hs
    have hs := Lib.hid hs
    clear e1
    go_enter Tryd.func34, Tryd.ntmps34
    go_wp2_with (first | (go_at_call 18; refine (c_spanCheck al ah _).mono ?_; rintro e w1 ⟨rfl, hb1⟩; (obtain ⟨hc1, hf1⟩ := bcell hb1; have hs1 := hb1.size; (try simp only [World.size_alloc, World.drew_heap, World.heap_drewN, World.size_setCell] at hs1); try (have z1_0 : w.heap.size < w1.heap.size := (by omega)); try (have z1_1 : w.heap.size + 1 < w1.heap.size := (by omega)); try (have z1_2 : w.heap.size + 1 + 1 < w1.heap.size := (by omega)); try (have z1_3 : w.heap.size + 1 + 1 + 1 < w1.heap.size := (by omega)); try (have z1_4 : w.heap.size + 1 + 1 + 1 + 1 < w1.heap.size := (by omega)); try (have z1_5 : w.heap.size + 1 + 1 + 1 + 1 + 1 < w1.heap.size := (by omega)))) | (go_at_call 76; refine (c_power1 _ n s _ rfl HN.out hn2 (by first | exact BX.out | exact BY.out) _).mono ?_; rintro e w3 ⟨rfl, hb3⟩; (obtain ⟨hc3, hf3⟩ := bcell hb3; have hs3 := hb3.size; (try simp only [World.size_alloc, World.drew_heap, World.heap_drewN, World.size_setCell] at hs3); try (have z3_0 : w.heap.size < w3.heap.size := (by omega)); try (have z3_1 : w.heap.size + 1 < w3.heap.size := (by omega)); try (have z3_2 : w.heap.size + 1 + 1 < w3.heap.size := (by omega)); try (have z3_3 : w.heap.size + 1 + 1 + 1 < w3.heap.size := (by omega)); try (have z3_4 : w.heap.size + 1 + 1 + 1 + 1 < w3.heap.size := (by omega)); try (have z3_5 : w.heap.size + 1 + 1 + 1 + 1 + 1 < w3.heap.size := (by omega)))))
    refine bodyPost_ret (v := .tuple #[.agg #[.int .i64 (0), .int .i64 (0)], .int .i64 (6)]) (by simp [results, Tryd.results34, go_sem, *]) rfl ⟨by rw [hs.out], by (repeat' (first | (with_reducible exact Below.refl _ _) | assumption | (with_reducible refine Below.setCell ?_ ?_ _) | (with_reducible refine Below.alloc ?_ ?_ _) | (with_reducible refine Below.drew ?_) | (with_reducible refine below_drewN ?_ _) | (with_reducible refine Below.trans ?_ (Below.mono (by assumption) ?_)) | omega | (simp; done) | (simp; omega) | (simp [World.setCell]; omega)))⟩

set_option maxHeartbeats 1000000 in
theorem c_powEven (al ah : Int) (n s : Nat) (hn : n = 2 * s + 2) (hn2 : n ≤ 16) (h : spChk (al, ah) = 0) (w : World) :
    Calls Tryd.prog 34 #[.agg #[.int .i64 al, .int .i64 ah], .int .i64 ((n : Int))] w fun e w' => e = .returned (.tuple #[.agg #[.int .i64 ((spPow (al, ah) ((n : Int))).1), .int .i64 ((spPow (al, ah) ((n : Int))).2.1)], .int .i64 ((spPow (al, ah) ((n : Int))).2.2)]) ∧ Below w.heap.size w w' := by
  have h' : (spChk (al, ah) != 0) = false := by simp [h]
  obtain ⟨ra1, ra2, ra3⟩ := spChk_ok h
  simp only at ra1 ra2 ra3
  obtain ⟨X, hX⟩ : ∃ X, X = abLo (al, ah) := ⟨_, rfl⟩
  obtain ⟨Y, hY⟩ : ∃ Y, Y = abHi (al, ah) := ⟨_, rfl⟩
  have eA : spAbs (al, ah) = (X, Y, 0) := by rw [spAbs_eq _ h, hX, hY]
  have bX : X.natAbs ≤ 4503599627370496 := by rw [hX]; unfold abLo; simp only; omega
  have bY : Y.natAbs ≤ 4503599627370496 := by rw [hY]; unfold abHi; simp only; omega
  have hs : spPow (al, ah) (n : Int) = spPowOf (pwS X n) (pwS Y n) := by rw [spPow_even _ _ h (by omega) (by omega) (by omega), ← hX, ← hY]
  have t1 : decide ((n : Int) < 0) = false := by (simp <;> omega)
  have t2 : decide (16 < (n : Int)) = false := by simp; omega
  have t3 : ((n : Int) == 0) = false := by (simp <;> omega)
  have t4 : (n : Int).tmod 2 = 0 := by rw [Int.tmod_eq_emod_of_nonneg (by omega)]; omega
  have t5 : (n : Int) % 2 = 0 := by omega
  have t6 : ¬ (n : Int) = 0 := by omega
  have t7 : ¬ n = 0 := by omega
  have BX := Lib.hid bX; clear bX
  have BY := Lib.hid bY; clear bY
  have HN := Lib.hid hn; clear hn
  have H := Lib.hid h; clear h
  clear ra1 ra2 ra3 hX hY
  by_cases e1 : (pwS X n).2.2 = 0
  · have e1' : ((pwS X n).2.2 != 0) = false := by simp [e1]
    by_cases e2 : (pwS Y n).2.2 = 0
    · have e2' : ((pwS Y n).2.2 != 0) = false := by simp [e2]
      rw [spPowOf_ok _ _ e1 e2] at hs
      have hs := Lib.hid hs
      clear e1 e2
      go_enter Tryd.func34, Tryd.ntmps34
      go_wp2_with (first | (go_at_call 18; refine (c_spanCheck al ah _).mono ?_; rintro e w1 ⟨rfl, hb1⟩; (obtain ⟨hc1, hf1⟩ := bcell hb1; have hs1 := hb1.size; (try simp only [World.size_alloc, World.drew_heap, World.heap_drewN, World.size_setCell] at hs1); try (have z1_0 : w.heap.size < w1.heap.size := (by omega)); try (have z1_1 : w.heap.size + 1 < w1.heap.size := (by omega)); try (have z1_2 : w.heap.size + 1 + 1 < w1.heap.size := (by omega)); try (have z1_3 : w.heap.size + 1 + 1 + 1 < w1.heap.size := (by omega)); try (have z1_4 : w.heap.size + 1 + 1 + 1 + 1 < w1.heap.size := (by omega)); try (have z1_5 : w.heap.size + 1 + 1 + 1 + 1 + 1 < w1.heap.size := (by omega)))) | (go_at_call 36; refine (c_spanAbs al ah _).mono ?_; rw [eA]; rintro e w2 ⟨rfl, hb2⟩; (obtain ⟨hc2, hf2⟩ := bcell hb2; have hs2 := hb2.size; (try simp only [World.size_alloc, World.drew_heap, World.heap_drewN, World.size_setCell] at hs2); try (have z2_0 : w.heap.size < w2.heap.size := (by omega)); try (have z2_1 : w.heap.size + 1 < w2.heap.size := (by omega)); try (have z2_2 : w.heap.size + 1 + 1 < w2.heap.size := (by omega)); try (have z2_3 : w.heap.size + 1 + 1 + 1 < w2.heap.size := (by omega)); try (have z2_4 : w.heap.size + 1 + 1 + 1 + 1 < w2.heap.size := (by omega)); try (have z2_5 : w.heap.size + 1 + 1 + 1 + 1 + 1 < w2.heap.size := (by omega))); (have q0 : w2.cell? ⟨w.heap.size, 0, none⟩ = some (.int .i64 al) := by simp [go_sem, *]); (have q1 : w2.cell? ⟨w.heap.size, 1, none⟩ = some (.int .i64 ah) := by simp [go_sem, *]); (have q2 : w2.cell? ⟨w.heap.size + 1, 0, none⟩ = some (.int .i64 0) := by simp [go_sem, *]); (have q3 : w2.cell? ⟨w.heap.size + 1, 1, none⟩ = some (.int .i64 0) := by simp [go_sem, *]); (have f0 : w2.frozen? ⟨w.heap.size, 0, none⟩ = false := by simp [go_sem, *]); (have f1 : w2.frozen? ⟨w.heap.size, 1, none⟩ = false := by simp [go_sem, *]); (have f2 : w2.frozen? ⟨w.heap.size + 1, 0, none⟩ = false := by simp [go_sem, *]); (have f3 : w2.frozen? ⟨w.heap.size + 1, 1, none⟩ = false := by simp [go_sem, *]); clear hc1 hf1 hc2 hf2) | (go_at_call 76; refine (c_power0 _ n s _ rfl HN.out hn2 (by first | exact BX.out | exact BY.out) _).mono ?_; rintro e w3 ⟨rfl, hb3⟩; (obtain ⟨hc3, hf3⟩ := bcell hb3; have hs3 := hb3.size; (try simp only [World.size_alloc, World.drew_heap, World.heap_drewN, World.size_setCell] at hs3); try (have z3_0 : w.heap.size < w3.heap.size := (by omega)); try (have z3_1 : w.heap.size + 1 < w3.heap.size := (by omega)); try (have z3_2 : w.heap.size + 1 + 1 < w3.heap.size := (by omega)); try (have z3_3 : w.heap.size + 1 + 1 + 1 < w3.heap.size := (by omega)); try (have z3_4 : w.heap.size + 1 + 1 + 1 + 1 < w3.heap.size := (by omega)); try (have z3_5 : w.heap.size + 1 + 1 + 1 + 1 + 1 < w3.heap.size := (by omega)))) | (go_at_call 69; refine (c_spanTold _ _ _).mono ?_; rintro e w5 ⟨rfl, hb5⟩; (obtain ⟨hc5, hf5⟩ := bcell hb5; have hs5 := hb5.size; (try simp only [World.size_alloc, World.drew_heap, World.heap_drewN, World.size_setCell] at hs5); try (have z5_0 : w.heap.size < w5.heap.size := (by omega)); try (have z5_1 : w.heap.size + 1 < w5.heap.size := (by omega)); try (have z5_2 : w.heap.size + 1 + 1 < w5.heap.size := (by omega)); try (have z5_3 : w.heap.size + 1 + 1 + 1 < w5.heap.size := (by omega)); try (have z5_4 : w.heap.size + 1 + 1 + 1 + 1 < w5.heap.size := (by omega)); try (have z5_5 : w.heap.size + 1 + 1 + 1 + 1 + 1 < w5.heap.size := (by omega)))))
      refine bodyPost_ret (v := .tuple #[.agg #[.int .i64 ((spTold (pwS X n).1 (pwS Y n).2.1).1), .int .i64 ((spTold (pwS X n).1 (pwS Y n).2.1).2.1)], .int .i64 ((spTold (pwS X n).1 (pwS Y n).2.1).2.2)]) (by simp [results, Tryd.results34, go_sem, *]) rfl ⟨by rw [hs.out], by (repeat' (first | (with_reducible exact Below.refl _ _) | assumption | (with_reducible refine Below.setCell ?_ ?_ _) | (with_reducible refine Below.alloc ?_ ?_ _) | (with_reducible refine Below.drew ?_) | (with_reducible refine below_drewN ?_ _) | (with_reducible refine Below.trans ?_ (Below.mono (by assumption) ?_)) | omega | (simp; done) | (simp; omega) | (simp [World.setCell]; omega)))⟩
    · have e2' : ((pwS Y n).2.2 != 0) = true := by simp [e2]
      rw [spPowOf_bad _ _ (.inr e2)] at hs
      have hs := Lib.hid hs
      clear e1 e2
      go_enter Tryd.func34, Tryd.ntmps34
      go_wp2_with (first | (go_at_call 18; refine (c_spanCheck al ah _).mono ?_; rintro e w1 ⟨rfl, hb1⟩; (obtain ⟨hc1, hf1⟩ := bcell hb1; have hs1 := hb1.size; (try simp only [World.size_alloc, World.drew_heap, World.heap_drewN, World.size_setCell] at hs1); try (have z1_0 : w.heap.size < w1.heap.size := (by omega)); try (have z1_1 : w.heap.size + 1 < w1.heap.size := (by omega)); try (have z1_2 : w.heap.size + 1 + 1 < w1.heap.size := (by omega)); try (have z1_3 : w.heap.size + 1 + 1 + 1 < w1.heap.size := (by omega)); try (have z1_4 : w.heap.size + 1 + 1 + 1 + 1 < w1.heap.size := (by omega)); try (have z1_5 : w.heap.size + 1 + 1 + 1 + 1 + 1 < w1.heap.size := (by omega)))) | (go_at_call 36; refine (c_spanAbs al ah _).mono ?_; rw [eA]; rintro e w2 ⟨rfl, hb2⟩; (obtain ⟨hc2, hf2⟩ := bcell hb2; have hs2 := hb2.size; (try simp only [World.size_alloc, World.drew_heap, World.heap_drewN, World.size_setCell] at hs2); try (have z2_0 : w.heap.size < w2.heap.size := (by omega)); try (have z2_1 : w.heap.size + 1 < w2.heap.size := (by omega)); try (have z2_2 : w.heap.size + 1 + 1 < w2.heap.size := (by omega)); try (have z2_3 : w.heap.size + 1 + 1 + 1 < w2.heap.size := (by omega)); try (have z2_4 : w.heap.size + 1 + 1 + 1 + 1 < w2.heap.size := (by omega)); try (have z2_5 : w.heap.size + 1 + 1 + 1 + 1 + 1 < w2.heap.size := (by omega))); (have q0 : w2.cell? ⟨w.heap.size, 0, none⟩ = some (.int .i64 al) := by simp [go_sem, *]); (have q1 : w2.cell? ⟨w.heap.size, 1, none⟩ = some (.int .i64 ah) := by simp [go_sem, *]); (have q2 : w2.cell? ⟨w.heap.size + 1, 0, none⟩ = some (.int .i64 0) := by simp [go_sem, *]); (have q3 : w2.cell? ⟨w.heap.size + 1, 1, none⟩ = some (.int .i64 0) := by simp [go_sem, *]); (have f0 : w2.frozen? ⟨w.heap.size, 0, none⟩ = false := by simp [go_sem, *]); (have f1 : w2.frozen? ⟨w.heap.size, 1, none⟩ = false := by simp [go_sem, *]); (have f2 : w2.frozen? ⟨w.heap.size + 1, 0, none⟩ = false := by simp [go_sem, *]); (have f3 : w2.frozen? ⟨w.heap.size + 1, 1, none⟩ = false := by simp [go_sem, *]); clear hc1 hf1 hc2 hf2) | (go_at_call 76; refine (c_power0 _ n s _ rfl HN.out hn2 (by first | exact BX.out | exact BY.out) _).mono ?_; rintro e w3 ⟨rfl, hb3⟩; (obtain ⟨hc3, hf3⟩ := bcell hb3; have hs3 := hb3.size; (try simp only [World.size_alloc, World.drew_heap, World.heap_drewN, World.size_setCell] at hs3); try (have z3_0 : w.heap.size < w3.heap.size := (by omega)); try (have z3_1 : w.heap.size + 1 < w3.heap.size := (by omega)); try (have z3_2 : w.heap.size + 1 + 1 < w3.heap.size := (by omega)); try (have z3_3 : w.heap.size + 1 + 1 + 1 < w3.heap.size := (by omega)); try (have z3_4 : w.heap.size + 1 + 1 + 1 + 1 < w3.heap.size := (by omega)); try (have z3_5 : w.heap.size + 1 + 1 + 1 + 1 + 1 < w3.heap.size := (by omega)))))
      refine bodyPost_ret (v := .tuple #[.agg #[.int .i64 (0), .int .i64 (0)], .int .i64 (6)]) (by simp [results, Tryd.results34, go_sem, *]) rfl ⟨by rw [hs.out], by (repeat' (first | (with_reducible exact Below.refl _ _) | assumption | (with_reducible refine Below.setCell ?_ ?_ _) | (with_reducible refine Below.alloc ?_ ?_ _) | (with_reducible refine Below.drew ?_) | (with_reducible refine below_drewN ?_ _) | (with_reducible refine Below.trans ?_ (Below.mono (by assumption) ?_)) | omega | (simp; done) | (simp; omega) | (simp [World.setCell]; omega)))⟩
  · have e1' : ((pwS X n).2.2 != 0) = true := by simp [e1]
    rw [spPowOf_bad _ _ (.inl e1)] at hs
    have hs := Lib.hid hs
    clear e1
    go_enter Tryd.func34, Tryd.ntmps34
    go_wp2_with (first | (go_at_call 18; refine (c_spanCheck al ah _).mono ?_; rintro e w1 ⟨rfl, hb1⟩; (obtain ⟨hc1, hf1⟩ := bcell hb1; have hs1 := hb1.size; (try simp only [World.size_alloc, World.drew_heap, World.heap_drewN, World.size_setCell] at hs1); try (have z1_0 : w.heap.size < w1.heap.size := (by omega)); try (have z1_1 : w.heap.size + 1 < w1.heap.size := (by omega)); try (have z1_2 : w.heap.size + 1 + 1 < w1.heap.size := (by omega)); try (have z1_3 : w.heap.size + 1 + 1 + 1 < w1.heap.size := (by omega)); try (have z1_4 : w.heap.size + 1 + 1 + 1 + 1 < w1.heap.size := (by omega)); try (have z1_5 : w.heap.size + 1 + 1 + 1 + 1 + 1 < w1.heap.size := (by omega)))) | (go_at_call 36; refine (c_spanAbs al ah _).mono ?_; rw [eA]; rintro e w2 ⟨rfl, hb2⟩; (obtain ⟨hc2, hf2⟩ := bcell hb2; have hs2 := hb2.size; (try simp only [World.size_alloc, World.drew_heap, World.heap_drewN, World.size_setCell] at hs2); try (have z2_0 : w.heap.size < w2.heap.size := (by omega)); try (have z2_1 : w.heap.size + 1 < w2.heap.size := (by omega)); try (have z2_2 : w.heap.size + 1 + 1 < w2.heap.size := (by omega)); try (have z2_3 : w.heap.size + 1 + 1 + 1 < w2.heap.size := (by omega)); try (have z2_4 : w.heap.size + 1 + 1 + 1 + 1 < w2.heap.size := (by omega)); try (have z2_5 : w.heap.size + 1 + 1 + 1 + 1 + 1 < w2.heap.size := (by omega))); (have q0 : w2.cell? ⟨w.heap.size, 0, none⟩ = some (.int .i64 al) := by simp [go_sem, *]); (have q1 : w2.cell? ⟨w.heap.size, 1, none⟩ = some (.int .i64 ah) := by simp [go_sem, *]); (have q2 : w2.cell? ⟨w.heap.size + 1, 0, none⟩ = some (.int .i64 0) := by simp [go_sem, *]); (have q3 : w2.cell? ⟨w.heap.size + 1, 1, none⟩ = some (.int .i64 0) := by simp [go_sem, *]); (have f0 : w2.frozen? ⟨w.heap.size, 0, none⟩ = false := by simp [go_sem, *]); (have f1 : w2.frozen? ⟨w.heap.size, 1, none⟩ = false := by simp [go_sem, *]); (have f2 : w2.frozen? ⟨w.heap.size + 1, 0, none⟩ = false := by simp [go_sem, *]); (have f3 : w2.frozen? ⟨w.heap.size + 1, 1, none⟩ = false := by simp [go_sem, *]); clear hc1 hf1 hc2 hf2) | (go_at_call 76; refine (c_power0 _ n s _ rfl HN.out hn2 (by first | exact BX.out | exact BY.out) _).mono ?_; rintro e w3 ⟨rfl, hb3⟩; (obtain ⟨hc3, hf3⟩ := bcell hb3; have hs3 := hb3.size; (try simp only [World.size_alloc, World.drew_heap, World.heap_drewN, World.size_setCell] at hs3); try (have z3_0 : w.heap.size < w3.heap.size := (by omega)); try (have z3_1 : w.heap.size + 1 < w3.heap.size := (by omega)); try (have z3_2 : w.heap.size + 1 + 1 < w3.heap.size := (by omega)); try (have z3_3 : w.heap.size + 1 + 1 + 1 < w3.heap.size := (by omega)); try (have z3_4 : w.heap.size + 1 + 1 + 1 + 1 < w3.heap.size := (by omega)); try (have z3_5 : w.heap.size + 1 + 1 + 1 + 1 + 1 < w3.heap.size := (by omega)))))
    refine bodyPost_ret (v := .tuple #[.agg #[.int .i64 (0), .int .i64 (0)], .int .i64 (6)]) (by simp [results, Tryd.results34, go_sem, *]) rfl ⟨by rw [hs.out], by (repeat' (first | (with_reducible exact Below.refl _ _) | assumption | (with_reducible refine Below.setCell ?_ ?_ _) | (with_reducible refine Below.alloc ?_ ?_ _) | (with_reducible refine Below.drew ?_) | (with_reducible refine below_drewN ?_ _) | (with_reducible refine Below.trans ?_ (Below.mono (by assumption) ?_)) | omega | (simp; done) | (simp; omega) | (simp [World.setCell]; omega)))⟩

theorem c_spanPow (al ah n : Int) (w : World) :
    Calls Tryd.prog 34 #[.agg #[.int .i64 al, .int .i64 ah], .int .i64 n] w fun e w' => e = .returned (.tuple #[.agg #[.int .i64 ((spPow (al, ah) n).1), .int .i64 ((spPow (al, ah) n).2.1)], .int .i64 ((spPow (al, ah) n).2.2)]) ∧ Below w.heap.size w w' := by
  rcases spChk_or (al, ah) with h | h
  · by_cases h0 : n < 0
    · exact c_powNeg al ah n h h0 w
    · by_cases h1 : 16 < n
      · exact c_powGreat al ah n h h1 w
      · obtain ⟨m, rfl⟩ : ∃ m : Nat, n = (m : Int) := ⟨n.toNat, by omega⟩
        rcases Nat.eq_zero_or_pos m with e | e
        · subst e; exact c_powZero al ah h w
        · by_cases h2 : m % 2 = 1
          · exact c_powOdd al ah m (m / 2) (by omega) (by omega) h w
          · exact c_powEven al ah m (m / 2 - 1) (by omega) (by omega) h w
  · exact c_powBad al ah n h w

set_option maxHeartbeats 400000 in
theorem c_spanSqr (al ah : Int) (w : World) :
    Calls Tryd.prog 32 #[.agg #[.int .i64 al, .int .i64 ah]] w fun e w' => e = .returned (.tuple #[.agg #[.int .i64 ((spPow (al, ah) 2).1), .int .i64 ((spPow (al, ah) 2).2.1)], .int .i64 ((spPow (al, ah) 2).2.2)]) ∧ Below w.heap.size w w' := by
  go_enter Tryd.func32, Tryd.ntmps32
  go_wp2_with (first | (go_at_call 34; refine (c_spanPow al ah 2 _).mono ?_; rintro e w1 ⟨rfl, hb1⟩; (obtain ⟨hc1, hf1⟩ := bcell hb1; have hs1 := hb1.size; (try simp only [World.size_alloc, World.drew_heap, World.heap_drewN, World.size_setCell] at hs1); try (have z1_0 : w.heap.size < w1.heap.size := (by omega)); try (have z1_1 : w.heap.size + 1 < w1.heap.size := (by omega)); try (have z1_2 : w.heap.size + 1 + 1 < w1.heap.size := (by omega)); try (have z1_3 : w.heap.size + 1 + 1 + 1 < w1.heap.size := (by omega)); try (have z1_4 : w.heap.size + 1 + 1 + 1 + 1 < w1.heap.size := (by omega)); try (have z1_5 : w.heap.size + 1 + 1 + 1 + 1 + 1 < w1.heap.size := (by omega)))))
  refine bodyPost_ret (v := .tuple #[.agg #[.int .i64 ((spPow (al, ah) 2).1), .int .i64 ((spPow (al, ah) 2).2.1)], .int .i64 ((spPow (al, ah) 2).2.2)]) (by simp [results, Tryd.results32, go_sem, *]) rfl ⟨rfl, by (repeat' (first | (with_reducible exact Below.refl _ _) | assumption | (with_reducible refine Below.setCell ?_ ?_ _) | (with_reducible refine Below.alloc ?_ ?_ _) | (with_reducible refine Below.drew ?_) | (with_reducible refine below_drewN ?_ _) | (with_reducible refine Below.trans ?_ (Below.mono (by assumption) ?_)) | omega | (simp; done) | (simp; omega) | (simp [World.setCell]; omega)))⟩

end Go.Proofs.YtpdaigenffecmaaDoor
