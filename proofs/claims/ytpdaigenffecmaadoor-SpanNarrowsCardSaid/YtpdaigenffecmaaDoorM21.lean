/-
  The walks of span.Pow and span.Sqr. Plain: the reference's fixed-point numbers and the program's answer alike. Plain: the reference's results of intervals. Plain: long division bit by bit. The walks of the reference's fixed-point numbers, the first part: Right, size, put, Mul. Plain: numbers by digits to the base 2^16.
-/
import Derived.Test.YtpdaigenffecmaaDoorM16
import Derived.Test.YtpdaigenffecmaaDoorM20
set_option linter.all false
namespace Go.Proofs.YtpdaigenffecmaaDoor
open Go.RowKit Go.Shelf

set_option maxHeartbeats 1000000 in
theorem c_powBad (al ah : Int) (n : Int) (h : spChk (al, ah) = 20) (w : World) :
    Calls Tryd.prog 34 #[.agg #[.int .i64 al, .int .i64 ah], .int .i64 (n)] w fun e w' => e = .returned (.tuple #[.agg #[.int .i64 ((spPow (al, ah) (n)).1), .int .i64 ((spPow (al, ah) (n)).2.1)], .int .i64 ((spPow (al, ah) (n)).2.2)]) ∧ Below w.heap.size w w' := by
  have hs : Hid (spPow (al, ah) n = (0, 0, 20)) := spPow_bad _ _ h
  have h' : (spChk (al, ah) != 0) = true := by simp [h]
  go_enter Tryd.func34, Tryd.ntmps34
  go_wp2_with (first | (go_at_call 18; refine (c_spanCheck al ah _).mono ?_; rintro e w1 ⟨rfl, hb1⟩; (obtain ⟨hc1, hf1⟩ := bcell hb1; have hs1 := hb1.size; (try simp only [World.size_alloc, World.drew_heap, World.heap_drewN, World.size_setCell] at hs1); try (have z1_0 : w.heap.size < w1.heap.size := (by omega)); try (have z1_1 : w.heap.size + 1 < w1.heap.size := (by omega)); try (have z1_2 : w.heap.size + 1 + 1 < w1.heap.size := (by omega)); try (have z1_3 : w.heap.size + 1 + 1 + 1 < w1.heap.size := (by omega)); try (have z1_4 : w.heap.size + 1 + 1 + 1 + 1 < w1.heap.size := (by omega)); try (have z1_5 : w.heap.size + 1 + 1 + 1 + 1 + 1 < w1.heap.size := (by omega)))))
  refine bodyPost_ret (v := .tuple #[.agg #[.int .i64 (0), .int .i64 (0)], .int .i64 (20)]) (by simp [results, Tryd.results34, go_sem, *]) rfl ⟨by rw [hs.out], by (repeat' (first | (with_reducible exact Below.refl _ _) | assumption | (with_reducible refine Below.setCell ?_ ?_ _) | (with_reducible refine Below.alloc ?_ ?_ _) | (with_reducible refine Below.drew ?_) | (with_reducible refine below_drewN ?_ _) | (with_reducible refine Below.trans ?_ (Below.mono (by assumption) ?_)) | omega | (simp; done) | (simp; omega) | (simp [World.setCell]; omega)))⟩

set_option maxHeartbeats 1000000 in
theorem c_powNeg (al ah : Int) (n : Int) (h : spChk (al, ah) = 0) (hn : n < 0) (w : World) :
    Calls Tryd.prog 34 #[.agg #[.int .i64 al, .int .i64 ah], .int .i64 (n)] w fun e w' => e = .returned (.tuple #[.agg #[.int .i64 ((spPow (al, ah) (n)).1), .int .i64 ((spPow (al, ah) (n)).2.1)], .int .i64 ((spPow (al, ah) (n)).2.2)]) ∧ Below w.heap.size w w' := by
  have hs : Hid (spPow (al, ah) n = (0, 0, 2)) := spPow_arg _ _ h (by omega)
  have h' : (spChk (al, ah) != 0) = false := by simp [h]
  have t1 : decide (n < 0) = true := by simp; omega
  have H := Lib.hid h; clear h
  go_enter Tryd.func34, Tryd.ntmps34
  go_wp2_with (first | (go_at_call 18; refine (c_spanCheck al ah _).mono ?_; rintro e w1 ⟨rfl, hb1⟩; (obtain ⟨hc1, hf1⟩ := bcell hb1; have hs1 := hb1.size; (try simp only [World.size_alloc, World.drew_heap, World.heap_drewN, World.size_setCell] at hs1); try (have z1_0 : w.heap.size < w1.heap.size := (by omega)); try (have z1_1 : w.heap.size + 1 < w1.heap.size := (by omega)); try (have z1_2 : w.heap.size + 1 + 1 < w1.heap.size := (by omega)); try (have z1_3 : w.heap.size + 1 + 1 + 1 < w1.heap.size := (by omega)); try (have z1_4 : w.heap.size + 1 + 1 + 1 + 1 < w1.heap.size := (by omega)); try (have z1_5 : w.heap.size + 1 + 1 + 1 + 1 + 1 < w1.heap.size := (by omega)))))
  refine bodyPost_ret (v := .tuple #[.agg #[.int .i64 (0), .int .i64 (0)], .int .i64 (2)]) (by simp [results, Tryd.results34, go_sem, *]) rfl ⟨by rw [hs.out], by (repeat' (first | (with_reducible exact Below.refl _ _) | assumption | (with_reducible refine Below.setCell ?_ ?_ _) | (with_reducible refine Below.alloc ?_ ?_ _) | (with_reducible refine Below.drew ?_) | (with_reducible refine below_drewN ?_ _) | (with_reducible refine Below.trans ?_ (Below.mono (by assumption) ?_)) | omega | (simp; done) | (simp; omega) | (simp [World.setCell]; omega)))⟩

set_option maxHeartbeats 1000000 in
theorem c_powGreat (al ah : Int) (n : Int) (h : spChk (al, ah) = 0) (hn : 16 < n) (w : World) :
    Calls Tryd.prog 34 #[.agg #[.int .i64 al, .int .i64 ah], .int .i64 (n)] w fun e w' => e = .returned (.tuple #[.agg #[.int .i64 ((spPow (al, ah) (n)).1), .int .i64 ((spPow (al, ah) (n)).2.1)], .int .i64 ((spPow (al, ah) (n)).2.2)]) ∧ Below w.heap.size w w' := by
  have hs : Hid (spPow (al, ah) n = (0, 0, 2)) := spPow_arg _ _ h (by omega)
  have h' : (spChk (al, ah) != 0) = false := by simp [h]
  have t1 : decide (n < 0) = false := by simp; omega
  have t2 : decide (16 < n) = true := by simp; omega
  have H := Lib.hid h; clear h
  go_enter Tryd.func34, Tryd.ntmps34
  go_wp2_with (first | (go_at_call 18; refine (c_spanCheck al ah _).mono ?_; rintro e w1 ⟨rfl, hb1⟩; (obtain ⟨hc1, hf1⟩ := bcell hb1; have hs1 := hb1.size; (try simp only [World.size_alloc, World.drew_heap, World.heap_drewN, World.size_setCell] at hs1); try (have z1_0 : w.heap.size < w1.heap.size := (by omega)); try (have z1_1 : w.heap.size + 1 < w1.heap.size := (by omega)); try (have z1_2 : w.heap.size + 1 + 1 < w1.heap.size := (by omega)); try (have z1_3 : w.heap.size + 1 + 1 + 1 < w1.heap.size := (by omega)); try (have z1_4 : w.heap.size + 1 + 1 + 1 + 1 < w1.heap.size := (by omega)); try (have z1_5 : w.heap.size + 1 + 1 + 1 + 1 + 1 < w1.heap.size := (by omega)))))
  refine bodyPost_ret (v := .tuple #[.agg #[.int .i64 (0), .int .i64 (0)], .int .i64 (2)]) (by simp [results, Tryd.results34, go_sem, *]) rfl ⟨by rw [hs.out], by (repeat' (first | (with_reducible exact Below.refl _ _) | assumption | (with_reducible refine Below.setCell ?_ ?_ _) | (with_reducible refine Below.alloc ?_ ?_ _) | (with_reducible refine Below.drew ?_) | (with_reducible refine below_drewN ?_ _) | (with_reducible refine Below.trans ?_ (Below.mono (by assumption) ?_)) | omega | (simp; done) | (simp; omega) | (simp [World.setCell]; omega)))⟩

set_option maxHeartbeats 1000000 in
theorem c_powZero (al ah : Int) (h : spChk (al, ah) = 0) (w : World) :
    Calls Tryd.prog 34 #[.agg #[.int .i64 al, .int .i64 ah], .int .i64 (0)] w fun e w' => e = .returned (.tuple #[.agg #[.int .i64 ((spPow (al, ah) (0)).1), .int .i64 ((spPow (al, ah) (0)).2.1)], .int .i64 ((spPow (al, ah) (0)).2.2)]) ∧ Below w.heap.size w w' := by
  have hs : Hid (spPow (al, ah) 0 = (4294967296, 4294967296, 0)) := spPow_zero _ h
  have h' : (spChk (al, ah) != 0) = false := by simp [h]
  have hO : spOf 4294967296 4294967296 = (4294967296, 4294967296, 0) := by decide
  have H := Lib.hid h; clear h
  go_enter Tryd.func34, Tryd.ntmps34
  go_wp2_with (first | (go_at_call 18; refine (c_spanCheck al ah _).mono ?_; rintro e w1 ⟨rfl, hb1⟩; (obtain ⟨hc1, hf1⟩ := bcell hb1; have hs1 := hb1.size; (try simp only [World.size_alloc, World.drew_heap, World.heap_drewN, World.size_setCell] at hs1); try (have z1_0 : w.heap.size < w1.heap.size := (by omega)); try (have z1_1 : w.heap.size + 1 < w1.heap.size := (by omega)); try (have z1_2 : w.heap.size + 1 + 1 < w1.heap.size := (by omega)); try (have z1_3 : w.heap.size + 1 + 1 + 1 < w1.heap.size := (by omega)); try (have z1_4 : w.heap.size + 1 + 1 + 1 + 1 < w1.heap.size := (by omega)); try (have z1_5 : w.heap.size + 1 + 1 + 1 + 1 + 1 < w1.heap.size := (by omega)))) | (go_at_call 16; refine (c_spanPoint _ _).mono ?_; rw [hO]; rintro e w2 ⟨rfl, hb2⟩; (obtain ⟨hc2, hf2⟩ := bcell hb2; have hs2 := hb2.size; (try simp only [World.size_alloc, World.drew_heap, World.heap_drewN, World.size_setCell] at hs2); try (have z2_0 : w.heap.size < w2.heap.size := (by omega)); try (have z2_1 : w.heap.size + 1 < w2.heap.size := (by omega)); try (have z2_2 : w.heap.size + 1 + 1 < w2.heap.size := (by omega)); try (have z2_3 : w.heap.size + 1 + 1 + 1 < w2.heap.size := (by omega)); try (have z2_4 : w.heap.size + 1 + 1 + 1 + 1 < w2.heap.size := (by omega)); try (have z2_5 : w.heap.size + 1 + 1 + 1 + 1 + 1 < w2.heap.size := (by omega)))))
  refine bodyPost_ret (v := .tuple #[.agg #[.int .i64 (4294967296), .int .i64 (4294967296)], .int .i64 (0)]) (by simp [results, Tryd.results34, go_sem, *]) rfl ⟨by rw [hs.out], by (repeat' (first | (with_reducible exact Below.refl _ _) | assumption | (with_reducible refine Below.setCell ?_ ?_ _) | (with_reducible refine Below.alloc ?_ ?_ _) | (with_reducible refine Below.drew ?_) | (with_reducible refine below_drewN ?_ _) | (with_reducible refine Below.trans ?_ (Below.mono (by assumption) ?_)) | omega | (simp; done) | (simp; omega) | (simp [World.setCell]; omega)))⟩

set_option maxHeartbeats 1000000 in
theorem c_powOdd (al ah : Int) (n s : Nat) (hn : n = 2 * s + 1) (hn2 : n ≤ 16) (h : spChk (al, ah) = 0) (w : World) :
    Calls Tryd.prog 34 #[.agg #[.int .i64 al, .int .i64 ah], .int .i64 ((n : Int))] w fun e w' => e = .returned (.tuple #[.agg #[.int .i64 ((spPow (al, ah) ((n : Int))).1), .int .i64 ((spPow (al, ah) ((n : Int))).2.1)], .int .i64 ((spPow (al, ah) ((n : Int))).2.2)]) ∧ Below w.heap.size w w' := by
  have h' : (spChk (al, ah) != 0) = false := by simp [h]
  obtain ⟨ra1, ra2, ra3⟩ := spChk_ok h
  simp only at ra1 ra2 ra3
  have bX : al.natAbs ≤ 4503599627370496 := by omega
  have bY : ah.natAbs ≤ 4503599627370496 := by omega
  have hs : spPow (al, ah) (n : Int) = spPowOf (pwS al n) (pwS ah n) := by rw [spPow_odd _ _ h (by omega) (by omega)]
  have t1 : decide ((n : Int) < 0) = false := by (simp <;> omega)
  have t2 : decide (16 < (n : Int)) = false := by simp; omega
  have t3 : ((n : Int) == 0) = false := by (simp <;> omega)
  have t4 : (n : Int).tmod 2 = 1 := by rw [Int.tmod_eq_emod_of_nonneg (by omega)]; omega
  have t5 : (n : Int) % 2 = 1 := by omega
  have t6 : ¬ (n : Int) = 0 := by omega
  have t7 : ¬ n = 0 := by omega
  have BX := Lib.hid bX; clear bX
  have BY := Lib.hid bY; clear bY
  have HN := Lib.hid hn; clear hn
  have H := Lib.hid h; clear h
  clear ra1 ra2 ra3
  by_cases e1 : (pwS al n).2.2 = 0
  · have e1' : ((pwS al n).2.2 != 0) = false := by simp [e1]
    by_cases e2 : (pwS ah n).2.2 = 0
    · have e2' : ((pwS ah n).2.2 != 0) = false := by simp [e2]
      rw [spPowOf_ok _ _ e1 e2] at hs
      have hs := Lib.hid hs
      clear e1 e2
      go_enter Tryd.func34, Tryd.ntmps34
      go_wp2_with (first | (go_at_call 18; refine (c_spanCheck al ah _).mono ?_; rintro e w1 ⟨rfl, hb1⟩; (obtain ⟨hc1, hf1⟩ := bcell hb1; have hs1 := hb1.size; (try simp only [World.size_alloc, World.drew_heap, World.heap_drewN, World.size_setCell] at hs1); try (have z1_0 : w.heap.size < w1.heap.size := (by omega)); try (have z1_1 : w.heap.size + 1 < w1.heap.size := (by omega)); try (have z1_2 : w.heap.size + 1 + 1 < w1.heap.size := (by omega)); try (have z1_3 : w.heap.size + 1 + 1 + 1 < w1.heap.size := (by omega)); try (have z1_4 : w.heap.size + 1 + 1 + 1 + 1 < w1.heap.size := (by omega)); try (have z1_5 : w.heap.size + 1 + 1 + 1 + 1 + 1 < w1.heap.size := (by omega)))) | (go_at_call 76; refine (c_power1 _ n s _ rfl HN.out hn2 (by first | exact BX.out | exact BY.out) _).mono ?_; rintro e w3 ⟨rfl, hb3⟩; (obtain ⟨hc3, hf3⟩ := bcell hb3; have hs3 := hb3.size; (try simp only [World.size_alloc, World.drew_heap, World.heap_drewN, World.size_setCell] at hs3); try (have z3_0 : w.heap.size < w3.heap.size := (by omega)); try (have z3_1 : w.heap.size + 1 < w3.heap.size := (by omega)); try (have z3_2 : w.heap.size + 1 + 1 < w3.heap.size := (by omega)); try (have z3_3 : w.heap.size + 1 + 1 + 1 < w3.heap.size := (by omega)); try (have z3_4 : w.heap.size + 1 + 1 + 1 + 1 < w3.heap.size := (by omega)); try (have z3_5 : w.heap.size + 1 + 1 + 1 + 1 + 1 < w3.heap.size := (by omega)))) | (go_at_call 69; refine (c_spanTold _ _ _).mono ?_; rintro e w5 ⟨rfl, hb5⟩; (obtain ⟨hc5, hf5⟩ := bcell hb5; have hs5 := hb5.size; (try simp only [World.size_alloc, World.drew_heap, World.heap_drewN, World.size_setCell] at hs5); try (have z5_0 : w.heap.size < w5.heap.size := (by omega)); try (have z5_1 : w.heap.size + 1 < w5.heap.size := (by omega)); try (have z5_2 : w.heap.size + 1 + 1 < w5.heap.size := (by omega)); try (have z5_3 : w.heap.size + 1 + 1 + 1 < w5.heap.size := (by omega)); try (have z5_4 : w.heap.size + 1 + 1 + 1 + 1 < w5.heap.size := (by omega)); try (have z5_5 : w.heap.size + 1 + 1 + 1 + 1 + 1 < w5.heap.size := (by omega)))))
      refine bodyPost_ret (v := .tuple #[.agg #[.int .i64 ((spTold (pwS al n).1 (pwS ah n).2.1).1), .int .i64 ((spTold (pwS al n).1 (pwS ah n).2.1).2.1)], .int .i64 ((spTold (pwS al n).1 (pwS ah n).2.1).2.2)]) (by simp [results, Tryd.results34, go_sem, *]) rfl ⟨by rw [hs.out], by (repeat' (first | (with_reducible exact Below.refl _ _) | assumption | (with_reducible refine Below.setCell ?_ ?_ _) | (with_reducible refine Below.alloc ?_ ?_ _) | (with_reducible refine Below.drew ?_) | (with_reducible refine below_drewN ?_ _) | (with_reducible refine Below.trans ?_ (Below.mono (by assumption) ?_)) | omega | (simp; done) | (simp; omega) | (simp [World.setCell]; omega)))⟩
    · have e2' : ((pwS ah n).2.2 != 0) = true := by simp [e2]
      rw [spPowOf_bad _ _ (.inr e2)] at hs
      have hs := Lib.hid hs
      clear e1 e2
      go_enter Tryd.func34, Tryd.ntmps34
      go_wp2_with (first | (go_at_call 18; refine (c_spanCheck al ah _).mono ?_; rintro e w1 ⟨rfl, hb1⟩; (obtain ⟨hc1, hf1⟩ := bcell hb1; have hs1 := hb1.size; (try simp only [World.size_alloc, World.drew_heap, World.heap_drewN, World.size_setCell] at hs1); try (have z1_0 : w.heap.size < w1.heap.size := (by omega)); try (have z1_1 : w.heap.size + 1 < w1.heap.size := (by omega)); try (have z1_2 : w.heap.size + 1 + 1 < w1.heap.size := (by omega)); try (have z1_3 : w.heap.size + 1 + 1 + 1 < w1.heap.size := (by omega)); try (have z1_4 : w.heap.size + 1 + 1 + 1 + 1 < w1.heap.size := (by omega)); try (have z1_5 : w.heap.size + 1 + 1 + 1 + 1 + 1 < w1.heap.size := (by omega)))) | (go_at_call 76; refine (c_power1 _ n s _ rfl HN.out hn2 (by first | exact BX.out | exact BY.out) _).mono ?_; rintro e w3 ⟨rfl, hb3⟩; (obtain ⟨hc3, hf3⟩ := bcell hb3; have hs3 := hb3.size; (try simp only [World.size_alloc, World.drew_heap, World.heap_drewN, World.size_setCell] at hs3); try (have z3_0 : w.heap.size < w3.heap.size := (by omega)); try (have z3_1 : w.heap.size + 1 < w3.heap.size := (by omega)); try (have z3_2 : w.heap.size + 1 + 1 < w3.heap.size := (by omega)); try (have z3_3 : w.heap.size + 1 + 1 + 1 < w3.heap.size := (by omega)); try (have z3_4 : w.heap.size + 1 + 1 + 1 + 1 < w3.heap.size := (by omega)); try (have z3_5 : w.heap.size + 1 + 1 + 1 + 1 + 1 < w3.heap.size := (by omega)))))
      refine bodyPost_ret (v := .tuple #[.agg #[.int .i64 (0), .int .i64 (0)], .int .i64 (6)]) (by simp [results, Tryd.results34, go_sem, *]) rfl ⟨by rw [hs.out], by (repeat' (first | (with_reducible exact Below.refl _ _) | assumption | (with_reducible refine Below.setCell ?_ ?_ _) | (with_reducible refine Below.alloc ?_ ?_ _) | (with_reducible refine Below.drew ?_) | (with_reducible refine below_drewN ?_ _) | (with_reducible refine Below.trans ?_ (Below.mono (by assumption) ?_)) | omega | (simp; done) | (simp; omega) | (simp [World.setCell]; omega)))⟩
  · have e1' : ((pwS al n).2.2 != 0) = true := by simp [e1]
    rw [spPowOf_bad _ _ (.inl e1)] at hs
    have hs := Lib.hid hs
    clear e1
    go_enter Tryd.func34, Tryd.ntmps34
    go_wp2_with (first | (go_at_call 18; refine (c_spanCheck al ah _).mono ?_; rintro e w1 ⟨rfl, hb1⟩; (obtain ⟨hc1, hf1⟩ := bcell hb1; have hs1 := hb1.size; (try simp only [World.size_alloc, World.drew_heap, World.heap_drewN, World.size_setCell] at hs1); try (have z1_0 : w.heap.size < w1.heap.size := (by omega)); try (have z1_1 : w.heap.size + 1 < w1.heap.size := (by omega)); try (have z1_2 : w.heap.size + 1 + 1 < w1.heap.size := (by omega)); try (have z1_3 : w.heap.size + 1 + 1 + 1 < w1.heap.size := (by omega)); try (have z1_4 : w.heap.size + 1 + 1 + 1 + 1 < w1.heap.size := (by omega)); try (have z1_5 : w.heap.size + 1 + 1 + 1 + 1 + 1 < w1.heap.size := (by omega)))) | (go_at_call 76; refine (c_power1 _ n s _ rfl HN.out hn2 (by first | exact BX.out | exact BY.out) _).mono ?_; rintro e w3 ⟨rfl, hb3⟩; (obtain ⟨hc3, hf3⟩ := bcell hb3; have hs3 := hb3.size; (try simp only [World.size_alloc, World.drew_heap, World.heap_drewN, World.size_setCell] at hs3); try (have z3_0 : w.heap.size < w3.heap.size := (by omega)); try (have z3_1 : w.heap.size + 1 < w3.heap.size := (by omega)); try (have z3_2 : w.heap.size + 1 + 1 < w3.heap.size := (by omega)); try (have z3_3 : w.heap.size + 1 + 1 + 1 < w3.heap.size := (by omega)); try (have z3_4 : w.heap.size + 1 + 1 + 1 + 1 < w3.heap.size := (by omega)); try (have z3_5 : w.heap.size + 1 + 1 + 1 + 1 + 1 < w3.heap.size := (by omega)))))
    refine bodyPost_ret (v := .tuple #[.agg #[.int .i64 (0), .int .i64 (0)], .int .i64 (6)]) (by simp [results, Tryd.results34, go_sem, *]) rfl ⟨by rw [hs.out], by (repeat' (first | (with_reducible exact Below.refl _ _) | assumption | (with_reducible refine Below.setCell ?_ ?_ _) | (with_reducible refine Below.alloc ?_ ?_ _) | (with_reducible refine Below.drew ?_) | (with_reducible refine below_drewN ?_ _) | (with_reducible refine Below.trans ?_ (Below.mono (by assumption) ?_)) | omega | (simp; done) | (simp; omega) | (simp [World.setCell]; omega)))⟩

set_option maxHeartbeats 1000000 in
theorem c_powEven (al ah : Int) (n s : Nat) (hn : n = 2 * s + 2) (hn2 : n ≤ 16) (h : spChk (al, ah) = 0) (w : World) :
    Calls Tryd.prog 34 #[.agg #[.int .i64 al, .int .i64 ah], .int .i64 ((n : Int))] w fun e w' => e = .returned (.tuple #[.agg #[.int .i64 ((spPow (al, ah) ((n : Int))).1), .int .i64 ((spPow (al, ah) ((n : Int))).2.1)], .int .i64 ((spPow (al, ah) ((n : Int))).2.2)]) ∧ Below w.heap.size w w' := by
  have h' : (spChk (al, ah) != 0) = false := by simp [h]
  obtain ⟨ra1, ra2, ra3⟩ := spChk_ok h
  simp only at ra1 ra2 ra3
  obtain ⟨X, hX⟩ : ∃ X, X = abLo (al, ah) := ⟨_, rfl⟩
  obtain ⟨Y, hY⟩ : ∃ Y, Y = abHi (al, ah) := ⟨_, rfl⟩
  have eA : spAbs (al, ah) = (X, Y, 0) := by rw [spAbs_eq _ h, hX, hY]
  have bX : X.natAbs ≤ 4503599627370496 := by rw [hX]; unfold abLo; simp only; omega
  have bY : Y.natAbs ≤ 4503599627370496 := by rw [hY]; unfold abHi; simp only; omega
  have hs : spPow (al, ah) (n : Int) = spPowOf (pwS X n) (pwS Y n) := by rw [spPow_even _ _ h (by omega) (by omega) (by omega), ← hX, ← hY]
  have t1 : decide ((n : Int) < 0) = false := by (simp <;> omega)
  have t2 : decide (16 < (n : Int)) = false := by simp; omega
  have t3 : ((n : Int) == 0) = false := by (simp <;> omega)
  have t4 : (n : Int).tmod 2 = 0 := by rw [Int.tmod_eq_emod_of_nonneg (by omega)]; omega
  have t5 : (n : Int) % 2 = 0 := by omega
  have t6 : ¬ (n : Int) = 0 := by omega
  have t7 : ¬ n = 0 := by omega
  have BX := Lib.hid bX; clear bX
  have BY := Lib.hid bY; clear bY
  have HN := Lib.hid hn; clear hn
  have H := Lib.hid h; clear h
  clear ra1 ra2 ra3 hX hY
  by_cases e1 : (pwS X n).2.2 = 0
  · have e1' : ((pwS X n).2.2 != 0) = false := by simp [e1]
    by_cases e2 : (pwS Y n).2.2 = 0
    · have e2' : ((pwS Y n).2.2 != 0) = false := by simp [e2]
      rw [spPowOf_ok _ _ e1 e2] at hs
      have hs := Lib.hid hs
      clear e1 e2
      go_enter Tryd.func34, Tryd.ntmps34
      go_wp2_with (first | (go_at_call 18; refine (c_spanCheck al ah _).mono ?_; rintro e w1 ⟨rfl, hb1⟩; (obtain ⟨hc1, hf1⟩ := bcell hb1; have hs1 := hb1.size; (try simp only [World.size_alloc, World.drew_heap, World.heap_drewN, World.size_setCell] at hs1); try (have z1_0 : w.heap.size < w1.heap.size := (by omega)); try (have z1_1 : w.heap.size + 1 < w1.heap.size := (by omega)); try (have z1_2 : w.heap.size + 1 + 1 < w1.heap.size := (by omega)); try (have z1_3 : w.heap.size + 1 + 1 + 1 < w1.heap.size := (by omega)); try (have z1_4 : w.heap.size + 1 + 1 + 1 + 1 < w1.heap.size := (by omega)); try (have z1_5 : w.heap.size + 1 + 1 + 1 + 1 + 1 < w1.heap.size := (by omega)))) | (go_at_call 36; refine (c_spanAbs al ah _).mono ?_; rw [eA]; rintro e w2 ⟨rfl, hb2⟩; (obtain ⟨hc2, hf2⟩ := bcell hb2; have hs2 := hb2.size; (try simp only [World.size_alloc, World.drew_heap, World.heap_drewN, World.size_setCell] at hs2); try (have z2_0 : w.heap.size < w2.heap.size := (by omega)); try (have z2_1 : w.heap.size + 1 < w2.heap.size := (by omega)); try (have z2_2 : w.heap.size + 1 + 1 < w2.heap.size := (by omega)); try (have z2_3 : w.heap.size + 1 + 1 + 1 < w2.heap.size := (by omega)); try (have z2_4 : w.heap.size + 1 + 1 + 1 + 1 < w2.heap.size := (by omega)); try (have z2_5 : w.heap.size + 1 + 1 + 1 + 1 + 1 < w2.heap.size := (by omega))); (have q0 : w2.cell? ⟨w.heap.size, 0, none⟩ = some (.int .i64 al) := by simp [go_sem, *]); (have q1 : w2.cell? ⟨w.heap.size, 1, none⟩ = some (.int .i64 ah) := by simp [go_sem, *]); (have q2 : w2.cell? ⟨w.heap.size + 1, 0, none⟩ = some (.int .i64 0) := by simp [go_sem, *]); (have q3 : w2.cell? ⟨w.heap.size + 1, 1, none⟩ = some (.int .i64 0) := by simp [go_sem, *]); (have f0 : w2.frozen? ⟨w.heap.size, 0, none⟩ = false := by simp [go_sem, *]); (have f1 : w2.frozen? ⟨w.heap.size, 1, none⟩ = false := by simp [go_sem, *]); (have f2 : w2.frozen? ⟨w.heap.size + 1, 0, none⟩ = false := by simp [go_sem, *]); (have f3 : w2.frozen? ⟨w.heap.size + 1, 1, none⟩ = false := by simp [go_sem, *]); clear hc1 hf1 hc2 hf2) | (go_at_call 76; refine (c_power0 _ n s _ rfl HN.out hn2 (by first | exact BX.out | exact BY.out) _).mono ?_; rintro e w3 ⟨rfl, hb3⟩; (obtain ⟨hc3, hf3⟩ := bcell hb3; have hs3 := hb3.size; (try simp only [World.size_alloc, World.drew_heap, World.heap_drewN, World.size_setCell] at hs3); try (have z3_0 : w.heap.size < w3.heap.size := (by omega)); try (have z3_1 : w.heap.size + 1 < w3.heap.size := (by omega)); try (have z3_2 : w.heap.size + 1 + 1 < w3.heap.size := (by omega)); try (have z3_3 : w.heap.size + 1 + 1 + 1 < w3.heap.size := (by omega)); try (have z3_4 : w.heap.size + 1 + 1 + 1 + 1 < w3.heap.size := (by omega)); try (have z3_5 : w.heap.size + 1 + 1 + 1 + 1 + 1 < w3.heap.size := (by omega)))) | (go_at_call 69; refine (c_spanTold _ _ _).mono ?_; rintro e w5 ⟨rfl, hb5⟩; (obtain ⟨hc5, hf5⟩ := bcell hb5; have hs5 := hb5.size; (try simp only [World.size_alloc, World.drew_heap, World.heap_drewN, World.size_setCell] at hs5); try (have z5_0 : w.heap.size < w5.heap.size := (by omega)); try (have z5_1 : w.heap.size + 1 < w5.heap.size := (by omega)); try (have z5_2 : w.heap.size + 1 + 1 < w5.heap.size := (by omega)); try (have z5_3 : w.heap.size + 1 + 1 + 1 < w5.heap.size := (by omega)); try (have z5_4 : w.heap.size + 1 + 1 + 1 + 1 < w5.heap.size := (by omega)); try (have z5_5 : w.heap.size + 1 + 1 + 1 + 1 + 1 < w5.heap.size := (by omega)))))
      refine bodyPost_ret (v := .tuple #[.agg #[.int .i64 ((spTold (pwS X n).1 (pwS Y n).2.1).1), .int .i64 ((spTold (pwS X n).1 (pwS Y n).2.1).2.1)], .int .i64 ((spTold (pwS X n).1 (pwS Y n).2.1).2.2)]) (by simp [results, Tryd.results34, go_sem, *]) rfl ⟨by rw [hs.out], by (repeat' (first | (with_reducible exact Below.refl _ _) | assumption | (with_reducible refine Below.setCell ?_ ?_ _) | (with_reducible refine Below.alloc ?_ ?_ _) | (with_reducible refine Below.drew ?_) | (with_reducible refine below_drewN ?_ _) | (with_reducible refine Below.trans ?_ (Below.mono (by assumption) ?_)) | omega | (simp; done) | (simp; omega) | (simp [World.setCell]; omega)))⟩
    · have e2' : ((pwS Y n).2.2 != 0) = true := by simp [e2]
      rw [spPowOf_bad _ _ (.inr e2)] at hs
      have hs := Lib.hid hs
      clear e1 e2
      go_enter Tryd.func34, Tryd.ntmps34
      go_wp2_with (first | (go_at_call 18; refine (c_spanCheck al ah _).mono ?_; rintro e w1 ⟨rfl, hb1⟩; (obtain ⟨hc1, hf1⟩ := bcell hb1; have hs1 := hb1.size; (try simp only [World.size_alloc, World.drew_heap, World.heap_drewN, World.size_setCell] at hs1); try (have z1_0 : w.heap.size < w1.heap.size := (by omega)); try (have z1_1 : w.heap.size + 1 < w1.heap.size := (by omega)); try (have z1_2 : w.heap.size + 1 + 1 < w1.heap.size := (by omega)); try (have z1_3 : w.heap.size + 1 + 1 + 1 < w1.heap.size := (by omega)); try (have z1_4 : w.heap.size + 1 + 1 + 1 + 1 < w1.heap.size := (by omega)); try (have z1_5 : w.heap.size + 1 + 1 + 1 + 1 + 1 < w1.heap.size := (by omega)))) | (go_at_call 36; refine (c_spanAbs al ah _).mono ?_; rw [eA]; rintro e w2 ⟨rfl, hb2⟩; (obtain ⟨hc2, hf2⟩ := bcell hb2; have hs2 := hb2.size; (try simp only [World.size_alloc, World.drew_heap, World.heap_drewN, World.size_setCell] at hs2); try (have z2_0 : w.heap.size < w2.heap.size := (by omega)); try (have z2_1 : w.heap.size + 1 < w2.heap.size := (by omega)); try (have z2_2 : w.heap.size + 1 + 1 < w2.heap.size := (by omega)); try (have z2_3 : w.heap.size + 1 + 1 + 1 < w2.heap.size := (by omega)); try (have z2_4 : w.heap.size + 1 + 1 + 1 + 1 < w2.heap.size := (by omega)); try (have z2_5 : w.heap.size + 1 + 1 + 1 + 1 + 1 < w2.heap.size := (by omega))); (have q0 : w2.cell? ⟨w.heap.size, 0, none⟩ = some (.int .i64 al) := by simp [go_sem, *]); (have q1 : w2.cell? ⟨w.heap.size, 1, none⟩ = some (.int .i64 ah) := by simp [go_sem, *]); (have q2 : w2.cell? ⟨w.heap.size + 1, 0, none⟩ = some (.int .i64 0) := by simp [go_sem, *]); (have q3 : w2.cell? ⟨w.heap.size + 1, 1, none⟩ = some (.int .i64 0) := by simp [go_sem, *]); (have f0 : w2.frozen? ⟨w.heap.size, 0, none⟩ = false := by simp [go_sem, *]); (have f1 : w2.frozen? ⟨w.heap.size, 1, none⟩ = false := by simp [go_sem, *]); (have f2 : w2.frozen? ⟨w.heap.size + 1, 0, none⟩ = false := by simp [go_sem, *]); (have f3 : w2.frozen? ⟨w.heap.size + 1, 1, none⟩ = false := by simp [go_sem, *]); clear hc1 hf1 hc2 hf2) | (go_at_call 76; refine (c_power0 _ n s _ rfl HN.out hn2 (by first | exact BX.out | exact BY.out) _).mono ?_; rintro e w3 ⟨rfl, hb3⟩; (obtain ⟨hc3, hf3⟩ := bcell hb3; have hs3 := hb3.size; (try simp only [World.size_alloc, World.drew_heap, World.heap_drewN, World.size_setCell] at hs3); try (have z3_0 : w.heap.size < w3.heap.size := (by omega)); try (have z3_1 : w.heap.size + 1 < w3.heap.size := (by omega)); try (have z3_2 : w.heap.size + 1 + 1 < w3.heap.size := (by omega)); try (have z3_3 : w.heap.size + 1 + 1 + 1 < w3.heap.size := (by omega)); try (have z3_4 : w.heap.size + 1 + 1 + 1 + 1 < w3.heap.size := (by omega)); try (have z3_5 : w.heap.size + 1 + 1 + 1 + 1 + 1 < w3.heap.size := (by omega)))))
      refine bodyPost_ret (v := .tuple #[.agg #[.int .i64 (0), .int .i64 (0)], .int .i64 (6)]) (by simp [results, Tryd.results34, go_sem, *]) rfl ⟨by rw [hs.out], by (repeat' (first | (with_reducible exact Below.refl _ _) | assumption | (with_reducible refine Below.setCell ?_ ?_ _) | (with_reducible refine Below.alloc ?_ ?_ _) | (with_reducible refine Below.drew ?_) | (with_reducible refine below_drewN ?_ _) | (with_reducible refine Below.trans ?_ (Below.mono (by assumption) ?_)) | omega | (simp; done) | (simp; omega) | (simp [World.setCell]; omega)))⟩
  · have e1' : ((pwS X n).2.2 != 0) = true := by simp [e1]
    rw [spPowOf_bad _ _ (.inl e1)] at hs
    have hs := Lib.hid hs
    clear e1
    go_enter Tryd.func34, Tryd.ntmps34
    go_wp2_with (first | (go_at_call 18; refine (c_spanCheck al ah _).mono ?_; rintro e w1 ⟨rfl, hb1⟩; (obtain ⟨hc1, hf1⟩ := bcell hb1; have hs1 := hb1.size; (try simp only [World.size_alloc, World.drew_heap, World.heap_drewN, World.size_setCell] at hs1); try (have z1_0 : w.heap.size < w1.heap.size := (by omega)); try (have z1_1 : w.heap.size + 1 < w1.heap.size := (by omega)); try (have z1_2 : w.heap.size + 1 + 1 < w1.heap.size := (by omega)); try (have z1_3 : w.heap.size + 1 + 1 + 1 < w1.heap.size := (by omega)); try (have z1_4 : w.heap.size + 1 + 1 + 1 + 1 < w1.heap.size := (by omega)); try (have z1_5 : w.heap.size + 1 + 1 + 1 + 1 + 1 < w1.heap.size := (by omega)))) | (go_at_call 36; refine (c_spanAbs al ah _).mono ?_; rw [eA]; rintro e w2 ⟨rfl, hb2⟩; (obtain ⟨hc2, hf2⟩ := bcell hb2; have hs2 := hb2.size; (try simp only [World.size_alloc, World.drew_heap, World.heap_drewN, World.size_setCell] at hs2); try (have z2_0 : w.heap.size < w2.heap.size := (by omega)); try (have z2_1 : w.heap.size + 1 < w2.heap.size := (by omega)); try (have z2_2 : w.heap.size + 1 + 1 < w2.heap.size := (by omega)); try (have z2_3 : w.heap.size + 1 + 1 + 1 < w2.heap.size := (by omega)); try (have z2_4 : w.heap.size + 1 + 1 + 1 + 1 < w2.heap.size := (by omega)); try (have z2_5 : w.heap.size + 1 + 1 + 1 + 1 + 1 < w2.heap.size := (by omega))); (have q0 : w2.cell? ⟨w.heap.size, 0, none⟩ = some (.int .i64 al) := by simp [go_sem, *]); (have q1 : w2.cell? ⟨w.heap.size, 1, none⟩ = some (.int .i64 ah) := by simp [go_sem, *]); (have q2 : w2.cell? ⟨w.heap.size + 1, 0, none⟩ = some (.int .i64 0) := by simp [go_sem, *]); (have q3 : w2.cell? ⟨w.heap.size + 1, 1, none⟩ = some (.int .i64 0) := by simp [go_sem, *]); (have f0 : w2.frozen? ⟨w.heap.size, 0, none⟩ = false := by simp [go_sem, *]); (have f1 : w2.frozen? ⟨w.heap.size, 1, none⟩ = false := by simp [go_sem, *]); (have f2 : w2.frozen? ⟨w.heap.size + 1, 0, none⟩ = false := by simp [go_sem, *]); (have f3 : w2.frozen? ⟨w.heap.size + 1, 1, none⟩ = false := by simp [go_sem, *]); clear hc1 hf1 hc2 hf2) | (go_at_call 76; refine (c_power0 _ n s _ rfl HN.out hn2 (by first | exact BX.out | exact BY.out) _).mono ?_; rintro e w3 ⟨rfl, hb3⟩; (obtain ⟨hc3, hf3⟩ := bcell hb3; have hs3 := hb3.size; (try simp only [World.size_alloc, World.drew_heap, World.heap_drewN, World.size_setCell] at hs3); try (have z3_0 : w.heap.size < w3.heap.size := (by omega)); try (have z3_1 : w.heap.size + 1 < w3.heap.size := (by omega)); try (have z3_2 : w.heap.size + 1 + 1 < w3.heap.size := (by omega)); try (have z3_3 : w.heap.size + 1 + 1 + 1 < w3.heap.size := (by omega)); try (have z3_4 : w.heap.size + 1 + 1 + 1 + 1 < w3.heap.size := (by omega)); try (have z3_5 : w.heap.size + 1 + 1 + 1 + 1 + 1 < w3.heap.size := (by omega)))))
    refine bodyPost_ret (v := .tuple #[.agg #[.int .i64 (0), .int .i64 (0)], .int .i64 (6)]) (by simp [results, Tryd.results34, go_sem, *]) rfl ⟨by rw [hs.out], by (repeat' (first | (with_reducible exact Below.refl _ _) | assumption | (with_reducible refine Below.setCell ?_ ?_ _) | (with_reducible refine Below.alloc ?_ ?_ _) | (with_reducible refine Below.drew ?_) | (with_reducible refine below_drewN ?_ _) | (with_reducible refine Below.trans ?_ (Below.mono (by assumption) ?_)) | omega | (simp; done) | (simp; omega) | (simp [World.setCell]; omega)))⟩

theorem c_spanPow (al ah n : Int) (w : World) :
    Calls Tryd.prog 34 #[.agg #[.int .i64 al, .int .i64 ah], .int .i64 n] w fun e w' => e = .returned (.tuple #[.agg #[.int .i64 ((spPow (al, ah) n).1), .int .i64 ((spPow (al, ah) n).2.1)], .int .i64 ((spPow (al, ah) n).2.2)]) ∧ Below w.heap.size w w' := by
  rcases spChk_or (al, ah) with h | h
  · by_cases h0 : n < 0
    · exact c_powNeg al ah n h h0 w
    · by_cases h1 : 16 < n
      · exact c_powGreat al ah n h h1 w
      · obtain ⟨m, rfl⟩ : ∃ m : Nat, n = (m : Int) := ⟨n.toNat, by omega⟩
        rcases Nat.eq_zero_or_pos m with e | e
        · subst e; exact c_powZero al ah h w
        · by_cases h2 : m % 2 = 1
          · exact c_powOdd al ah m (m / 2) (by omega) (by omega) h w
          · exact c_powEven al ah m (m / 2 - 1) (by omega) (by omega) h w
  · exact c_powBad al ah n h w

set_option maxHeartbeats 400000 in
theorem c_spanSqr (al ah : Int) (w : World) :
    Calls Tryd.prog 32 #[.agg #[.int .i64 al, .int .i64 ah]] w fun e w' => e = .returned (.tuple #[.agg #[.int .i64 ((spPow (al, ah) 2).1), .int .i64 ((spPow (al, ah) 2).2.1)], .int .i64 ((spPow (al, ah) 2).2.2)]) ∧ Below w.heap.size w w' := by
  go_enter Tryd.func32, Tryd.ntmps32
  go_wp2_with (first | (go_at_call 34; refine (c_spanPow al ah 2 _).mono ?_; rintro e w1 ⟨rfl, hb1⟩; (obtain ⟨hc1, hf1⟩ := bcell hb1; have hs1 := hb1.size; (try simp only [World.size_alloc, World.drew_heap, World.heap_drewN, World.size_setCell] at hs1); try (have z1_0 : w.heap.size < w1.heap.size := (by omega)); try (have z1_1 : w.heap.size + 1 < w1.heap.size := (by omega)); try (have z1_2 : w.heap.size + 1 + 1 < w1.heap.size := (by omega)); try (have z1_3 : w.heap.size + 1 + 1 + 1 < w1.heap.size := (by omega)); try (have z1_4 : w.heap.size + 1 + 1 + 1 + 1 < w1.heap.size := (by omega)); try (have z1_5 : w.heap.size + 1 + 1 + 1 + 1 + 1 < w1.heap.size := (by omega)))))
  refine bodyPost_ret (v := .tuple #[.agg #[.int .i64 ((spPow (al, ah) 2).1), .int .i64 ((spPow (al, ah) 2).2.1)], .int .i64 ((spPow (al, ah) 2).2.2)]) (by simp [results, Tryd.results32, go_sem, *]) rfl ⟨rfl, by (repeat' (first | (with_reducible exact Below.refl _ _) | assumption | (with_reducible refine Below.setCell ?_ ?_ _) | (with_reducible refine Below.alloc ?_ ?_ _) | (with_reducible refine Below.drew ?_) | (with_reducible refine below_drewN ?_ _) | (with_reducible refine Below.trans ?_ (Below.mono (by assumption) ?_)) | omega | (simp; done) | (simp; omega) | (simp [World.setCell]; omega)))⟩

end Go.Proofs.YtpdaigenffecmaaDoor

namespace Go.Proofs.YtpdaigenffecmaaDoor

/-- A size with its sign, as the reference puts it. -/
def rput (neg : Bool) (n : Nat) (rest up : Bool) : Int × Bool :=
  let m := if rest && (up != neg) then n + 1 else n
  if 4503599627370496 < m then (0, false) else (if neg then -(m : Int) else m, true)

theorem rput_big (neg : Bool) (n : Nat) (rest up : Bool) (h : 4503599627370496 < n) : rput neg n rest up = (0, false) := by
  unfold rput; simp only; rw [if_pos]; split <;> omega

theorem rput_sgnd (neg up : Bool) (N d : Nat) :
    rput neg (N / d) (decide (0 < N % d)) up = ((sgnd neg (quoN N d (!(up == neg))).1 (quoN N d (!(up == neg))).2).1, decide ((sgnd neg (quoN N d (!(up == neg))).1 (quoN N d (!(up == neg))).2).2 = 0)) := by
  unfold rput sgnd quoN
  generalize N / d = q
  generalize N % d = r
  rcases Nat.lt_or_ge 4503599627370496 q with h | h
  · rw [if_pos h]
    have e : 4503599627370496 < (if (decide (0 < r) && (up != neg)) = true then q + 1 else q) := by split <;> omega
    simp only [if_pos e]
    rfl
  · rw [if_neg (show ¬ 4503599627370496 < q by omega)]
    rcases Nat.eq_zero_or_pos r with h0 | h0
    · subst h0
      have e : ¬ 4503599627370496 < q := by omega
      cases neg <;> cases up <;> simp [e]
    · rcases Nat.lt_or_ge q 4503599627370496 with e | e
      · have e1 : ¬ 4503599627370496 < q := by omega
        have e2 : ¬ 4503599627370496 < q + 1 := by omega
        cases neg <;> cases up <;> simp [h0, e1, e2]
      · have e1 : q = 4503599627370496 := by omega
        have h1 : (0 < r) = True := eq_true h0
        have h2 : decide (0 < r) = true := by simp [h0]
        subst e1
        cases neg <;> cases up <;> simp only [h1, h2, Bool.true_and, and_true, true_and] <;> decide

/-- The reference's product. -/
def rMul (a b : Int) (up : Bool) : Int × Bool := rput (!(decide (a < 0) == decide (b < 0))) (a.natAbs * b.natAbs / 4294967296) (decide (0 < a.natAbs * b.natAbs % 4294967296)) up
def rDiv (a b : Int) (up : Bool) : Int × Bool := rput (!(decide (a < 0) == decide (b < 0))) (a.natAbs * 4294967296 / b.natAbs) (decide (0 < a.natAbs * 4294967296 % b.natAbs)) up

theorem bnot_beq (up neg : Bool) : (!(up == !neg)) = (up == neg) := by cases up <;> cases neg <;> rfl

theorem rMul_eq (a b : Int) (up : Bool) (ha : fxChk a = 0) (hb : fxChk b = 0) : rMul a b up = ((fxMul a b up).1, decide ((fxMul a b up).2 = 0)) := by
  have h : fxAll a b = 0 := by unfold fxAll; rw [if_pos ha]; exact hb
  unfold rMul fxMul; rw [rput_sgnd, if_pos h, ← sgnd_mul]

theorem rDiv_eq (a b : Int) (up : Bool) (ha : fxChk a = 0) (hb : fxChk b = 0) (h0 : b ≠ 0) : rDiv a b up = ((fxDiv a b up).1, decide ((fxDiv a b up).2 = 0)) := by
  have h : fxAll a b = 0 := by unfold fxAll; rw [if_pos ha]; exact hb
  unfold rDiv fxDiv; rw [rput_sgnd, if_pos h, if_neg h0, ← sgnd_div a b up h0]

/-- x y / 2^32 from parts of 26 bits. -/
theorem parts_mul (x y : Nat) : x * y = (x / 67108864) * (y / 67108864) * 4503599627370496 + ((x / 67108864) * (y % 67108864) + (x % 67108864) * (y / 67108864)) * 67108864 + (x % 67108864) * (y % 67108864) := by
  have hx := Nat.div_add_mod x 67108864
  have hy := Nat.div_add_mod y 67108864
  generalize x / 67108864 = p at *
  generalize x % 67108864 = q at *
  generalize y / 67108864 = r at *
  generalize y % 67108864 = s at *
  subst hx; subst hy
  simp only [Nat.add_mul, Nat.mul_add]
  have e1 : 67108864 * p * (67108864 * r) = p * r * 4503599627370496 := by
    rw [show 67108864 * p * (67108864 * r) = (67108864 * 67108864) * (p * r) by ac_rfl, Nat.mul_comm]
  have e2 : q * (67108864 * r) = q * r * 67108864 := by ac_rfl
  have e3 : 67108864 * p * s = p * s * 67108864 := by ac_rfl
  omega

end Go.Proofs.YtpdaigenffecmaaDoor

namespace Go.Proofs.YtpdaigenffecmaaDoor

/-- A result of the reference; ErrBig if it is no interval. -/
def spRes (lo hi : Int) (fits : Bool) : Int × Int × Int := if fits = true ∧ spChk (lo, hi) = 0 then (lo, hi, 0) else (0, 0, 6)

theorem spRes_told (lo hi : Int) (h : lo ≤ hi) : spRes lo hi true = spTold lo hi := by
  unfold spRes spTold spChk
  by_cases e : lo < -4503599627370496 ∨ 4503599627370496 < hi
  · rw [if_pos e, if_neg]
    simp only
    rw [if_pos (by omega)]; simp
  · rw [if_neg e, if_pos]
    refine ⟨rfl, ?_⟩
    simp only
    rw [if_neg (by omega)]

theorem spChk_parts (a b : Int) : spChk (a, b) = 0 ↔ fxChk a = 0 ∧ fxChk b = 0 ∧ a ≤ b := by
  unfold spChk fxChk
  simp only
  constructor
  · intro h; split at h
    · omega
    · rw [if_neg (by omega), if_neg (by omega)]; omega
  · rintro ⟨h1, h2, h3⟩
    split at h1
    · omega
    · split at h2
      · omega
      · rw [if_neg (by omega)]

theorem spAdd_ok (a b : Int × Int) (ha : spChk a = 0) (hb : spChk b = 0) : spAdd a b = spRes (a.1 + b.1) (a.2 + b.2) true := by
  have h1 := spChk_ok ha
  have h2 := spChk_ok hb
  unfold spAdd; rw [if_pos (by unfold spAll; rw [if_pos ha]; exact hb), spRes_told _ _ (by omega)]
theorem spSub_ok (a b : Int × Int) (ha : spChk a = 0) (hb : spChk b = 0) : spSub a b = spRes (a.1 - b.2) (a.2 - b.1) true := by
  have h1 := spChk_ok ha
  have h2 := spChk_ok hb
  unfold spSub; rw [if_pos (by unfold spAll; rw [if_pos ha]; exact hb), spRes_told _ _ (by omega)]
theorem spAll_bad (a b : Int × Int) (h : spChk a ≠ 0 ∨ spChk b ≠ 0) : spAll a b = 20 := by
  rcases spAll_or a b with e | e
  · obtain ⟨e1, e2⟩ := spAll_ok e; omega
  · exact e
theorem spAdd_bad (a b : Int × Int) (h : spChk a ≠ 0 ∨ spChk b ≠ 0) : spAdd a b = (0, 0, 20) := by
  unfold spAdd; rw [if_neg (by rw [spAll_bad a b h]; decide)]
theorem spSub_bad (a b : Int × Int) (h : spChk a ≠ 0 ∨ spChk b ≠ 0) : spSub a b = (0, 0, 20) := by
  unfold spSub; rw [if_neg (by rw [spAll_bad a b h]; decide)]
theorem spMul_bad (a b : Int × Int) (h : spChk a ≠ 0 ∨ spChk b ≠ 0) : spMul a b = (0, 0, 20) := by
  unfold spMul; rw [if_neg (by rw [spAll_bad a b h]; decide)]
theorem spDiv_bad (a b : Int × Int) (h : spChk a ≠ 0 ∨ spChk b ≠ 0) : spDiv a b = (0, 0, 20) := by
  unfold spDiv; rw [if_neg (by rw [spAll_bad a b h]; decide)]
theorem spNeg_ok (a : Int × Int) (ha : spChk a = 0) : spNeg a = (-a.2, -a.1, 0) := by
  have h1 := spChk_ok ha
  unfold spNeg spTold; rw [if_pos ha, if_neg (by omega)]
theorem spNeg_bad (a : Int × Int) (h : spChk a ≠ 0) : spNeg a = (0, 0, 20) := by
  unfold spNeg; rw [if_neg h]
theorem spSqrt_bad (a : Int × Int) (h : spChk a ≠ 0) : spSqrt a = (0, 0, 20) := by
  unfold spSqrt; rw [if_neg h]
theorem spSqrt_arg (a : Int × Int) (h : spChk a = 0) (h0 : a.1 < 0) : spSqrt a = (0, 0, 2) := by
  unfold spSqrt; rw [if_pos h, if_pos h0]
theorem rt_le (a : Int) (up : Bool) (h0 : 0 ≤ a) (h : a ≤ 4503599627370496) : 0 ≤ rt a up ∧ rt a up ≤ 4398046511104 := by
  unfold rt
  have := rtN_small a.toNat up (by omega)
  omega
theorem spSqrt_ok (a : Int × Int) (h : spChk a = 0) (h0 : 0 ≤ a.1) : spSqrt a = (rt a.1 false, rt a.2 true, 0) := by
  have h1 := spChk_ok h
  have r1 := rt_le a.1 false h0 (by omega)
  have r2 := rt_le a.2 true (by omega) (by omega)
  unfold spSqrt spTold; rw [if_pos h, if_neg (by omega), if_neg (by omega)]

end Go.Proofs.YtpdaigenffecmaaDoor

namespace Go.Proofs.YtpdaigenffecmaaDoor

/-- a n / d and whether something is left, or that it is too great. -/
def ovS (a n d : Nat) : Nat × Bool × Bool := if 4503599627370496 < n * a / d then (0, false, false) else (n * a / d, decide (0 < n * a % d), true)

theorem ov0 (n d A : Nat) : (2 * (n * A / d)) * d + 2 * (n * A % d) = n * (2 * A) := by
  have h := Nat.div_add_mod (n * A) d
  rw [Nat.mul_left_comm n 2 A]
  rw [Nat.mul_assoc, Nat.mul_comm (n * A / d) d, ← Nat.mul_add, h]

theorem ov1 (n d A : Nat) : (2 * (n * A / d) + n / d) * d + (2 * (n * A % d) + n % d) = n * (2 * A + 1) := by
  have h := ov0 n d A
  have h2 := Nat.div_add_mod n d
  rw [Nat.add_mul, Nat.mul_add, Nat.mul_one]
  rw [Nat.mul_comm (n / d) d]
  omega

theorem ov_bound (n d A bit : Nat) (hd : 0 < d) (hb : bit ≤ 1) : n * (2 * A + bit) / d ≤ 2 * (n * A / d) + n / d + 3 := by
  refine Nat.le_of_lt_succ ((Nat.div_lt_iff_lt_mul hd).2 ?_)
  have h1 := Nat.div_add_mod (n * A) d
  have h2 := Nat.div_add_mod n d
  have h3 := Nat.mod_lt (n * A) hd
  have h4 := Nat.mod_lt n hd
  have e : n * (2 * A + bit) ≤ 2 * (n * A) + n := by
    rw [Nat.mul_add, Nat.mul_left_comm n 2 A]
    have : n * bit ≤ n * 1 := Nat.mul_le_mul_left n hb
    omega
  have e2 : (2 * (n * A / d) + n / d + 3).succ * d = 2 * (d * (n * A / d)) + d * (n / d) + 4 * d := by
    rw [Nat.succ_eq_add_one, Nat.add_mul, Nat.add_mul, Nat.add_mul, Nat.mul_assoc, Nat.mul_comm (n * A / d) d, Nat.mul_comm (n / d) d]; omega
  omega

theorem div_unique' {Q R d V : Nat} (h : Q * d + R = V) (hr : R < d) : V / d = Q ∧ V % d = R := by
  have := (Nat.div_mod_unique (a := V) (b := d) (c := R) (d := Q) (by omega)).2 ⟨by rw [Nat.add_comm, Nat.mul_comm]; exact h, hr⟩
  exact this

theorem le_div' {Q R d V : Nat} (hd : 0 < d) (h : Q * d + R = V) : Q ≤ V / d := (Nat.le_div_iff_mul_le hd).2 (by omega)

theorem half_bit (a j : Nat) : a / 2 ^ j = 2 * (a / 2 ^ (j + 1)) + a / 2 ^ j % 2 := by
  rw [Nat.pow_succ, ← Nat.div_div_eq_div_mul]; omega

theorem ov_mono (a n d j : Nat) : n * (a / 2 ^ j) / d ≤ n * a / d := Nat.div_le_div_right (Nat.mul_le_mul_left n (Nat.div_le_self _ _))

theorem ovS_big (a n d : Nat) (h : 4503599627370496 < n * a / d) : ovS a n d = (0, false, false) := by unfold ovS; rw [if_pos h]
theorem ovS_ok (a n d : Nat) (h : ¬ 4503599627370496 < n * a / d) : ovS a n d = (n * a / d, decide (0 < n * a % d), true) := by unfold ovS; rw [if_neg h]

/-- What is put together from a quotient. -/
def ovPut (neg up : Bool) (o : Nat × Bool × Bool) : Int × Bool := if o.2.2 then rput neg o.1 o.2.1 up else (0, false)

theorem ovPut_eq (neg up : Bool) (a n d : Nat) : ovPut neg up (ovS a n d) = rput neg (n * a / d) (decide (0 < n * a % d)) up := by
  by_cases h : 4503599627370496 < n * a / d
  · rw [ovS_big a n d h, rput_big _ _ _ _ h]; rfl
  · rw [ovS_ok a n d h]; rfl

theorem rDiv_ov (a b : Int) (up : Bool) (A : Nat) (hA : A = 4294967296) : rDiv a b up = ovPut (!(decide (a < 0) == decide (b < 0))) up (ovS A a.natAbs b.natAbs) := by
  rw [ovPut_eq, hA]; unfold rDiv; exact rfl

end Go.Proofs.YtpdaigenffecmaaDoor

namespace Go.Proofs.YtpdaigenffecmaaDoor
open Go.RowKit

theorem c_rRight (a : Int) (w : World) :
    Calls Tryd.prog 88 #[.int .i64 a] w fun e w' => e = .returned (.bool (decide (fxChk a = 0))) ∧ w' = w := by
  rcases Int.lt_or_le a (-4503599627370496) with h | h
  · have e : decide (fxChk a = 0) = false := by unfold fxChk; rw [if_pos (by omega)]; rfl
    have E := Lib.hid e; clear e
    have t : decide (-4503599627370496 ≤ a) = false := by simp; omega
    go_enter Tryd.func88, Tryd.ntmps88
    go_wp2
    go_ret
    exact ⟨by rw [E.out]; rfl, rfl⟩
  · have t : decide (-4503599627370496 ≤ a) = true := by simp; omega
    have e : decide (fxChk a = 0) = decide (a ≤ 4503599627370496) := by
      refine decide_eq_decide.2 ?_
      unfold fxChk; split <;> omega
    have E := Lib.hid e; clear e
    go_enter Tryd.func88, Tryd.ntmps88
    go_wp2
    go_ret
    exact ⟨by rw [E.out]; rfl, rfl⟩

theorem c_rsize (a : Int) (w : World) (h0 : -9223372036854775808 ≤ a) (h1 : a ≤ 9223372036854775807) :
    Calls Tryd.prog 98 #[.int .i64 a] w fun e w' => e = .returned (.int .u64 ((a.natAbs : Nat) : Int)) ∧ w' = w := by
  rcases Int.lt_or_le a 0 with h | h
  · have e : ((a.natAbs : Nat) : Int) = -(a + 1) + 1 := by omega
    have E := Lib.hid e; clear e
    go_enter Tryd.func98, Tryd.ntmps98
    go_wp2
    go_ret
    exact ⟨by rw [E.out]; rfl, rfl⟩
  · have e : ((a.natAbs : Nat) : Int) = a := by omega
    have E := Lib.hid e; clear e
    have t : ¬ a < 0 := by omega
    go_enter Tryd.func98, Tryd.ntmps98
    go_wp2
    go_ret
    exact ⟨by rw [E.out]; rfl, rfl⟩

theorem c_rput (neg rest up : Bool) (n : Nat) (w : World) (hn : n < 18446744073709551615) :
    Calls Tryd.prog 99 #[.bool neg, .int .u64 (n : Int), .bool rest, .bool up] w fun e w' => e = .returned (.tuple #[.int .i64 (rput neg n rest up).1, .bool (rput neg n rest up).2]) ∧ w' = w := by
  obtain ⟨m, hm⟩ : ∃ m, m = if rest && (up != neg) then n + 1 else n := ⟨_, rfl⟩
  have e : rput neg n rest up = if 4503599627370496 < m then (0, false) else (if neg then -(m : Int) else m, true) := by rw [hm]; rfl
  cases rest <;> cases up <;> cases neg
  all_goals simp only [Bool.false_and, Bool.true_and, Bool.false_eq_true, if_false, if_true, bne_self_eq_false, Bool.true_bne, Bool.false_bne, Bool.not_true, Bool.not_false] at hm e
  all_goals rw [hm] at e
  all_goals clear hm m
  all_goals first
    | (rcases Nat.lt_or_ge 4503599627370496 (n + 1) with h | h
       · rw [if_pos h] at e
         have t1 : decide ((4503599627370496 : Int) < (n : Int) + 1) = true := by (simp <;> omega)
         have t2 : (4503599627370496 : Int) < (n : Int) + 1 := by omega
         have E := Lib.hid e; clear e
         go_enter Tryd.func99, Tryd.ntmps99
         go_wp2
         go_ret2
         exact ⟨by rw [E.out]; rfl, rfl⟩
       · rw [if_neg (by omega)] at e
         have t1 : decide ((4503599627370496 : Int) < (n : Int) + 1) = false := by (simp <;> omega)
         have t2 : ¬ (4503599627370496 : Int) < (n : Int) + 1 := by omega
         have E := Lib.hid e; clear e
         go_enter Tryd.func99, Tryd.ntmps99
         go_wp2
         go_ret2
         exact ⟨by rw [E.out]; first | rfl | simp, rfl⟩)
    | (rcases Nat.lt_or_ge 4503599627370496 n with h | h
       · rw [if_pos h] at e
         have t1 : decide ((4503599627370496 : Int) < (n : Int)) = true := by (simp <;> omega)
         have t2 : (4503599627370496 : Int) < (n : Int) := by omega
         have E := Lib.hid e; clear e
         go_enter Tryd.func99, Tryd.ntmps99
         go_wp2
         go_ret2
         exact ⟨by rw [E.out]; rfl, rfl⟩
       · rw [if_neg (by omega)] at e
         have t1 : decide ((4503599627370496 : Int) < (n : Int)) = false := by (simp <;> omega)
         have t2 : ¬ (4503599627370496 : Int) < (n : Int) := by omega
         have E := Lib.hid e; clear e
         go_enter Tryd.func99, Tryd.ntmps99
         go_wp2
         go_ret2
         exact ⟨by rw [E.out]; first | rfl | simp, rfl⟩)

theorem c_rput' (neg rest up : Bool) (n : Nat) (N : Int) (R : Bool) (w : World) (hN : N = (n : Int)) (hR : R = rest) (hn : n < 18446744073709551615) :
    Calls Tryd.prog 99 #[.bool neg, .int .u64 N, .bool R, .bool up] w fun e w' => e = .returned (.tuple #[.int .i64 (rput neg n rest up).1, .bool (rput neg n rest up).2]) ∧ w' = w := by
  subst hN; subst hR; exact c_rput neg R up n w hn

set_option maxHeartbeats 1000000 in
theorem c_rMul (a b : Int) (up : Bool) (w : World) (ha : fxChk a = 0) (hb : fxChk b = 0) :
    Calls Tryd.prog 74 #[.int .i64 a, .int .i64 b, .bool up] w fun e w' => e = .returned (.tuple #[.int .i64 (rMul a b up).1, .bool (rMul a b up).2]) ∧ w' = w := by
  obtain ⟨a0, a1⟩ := fxChk_ok ha
  obtain ⟨b0, b1⟩ := fxChk_ok hb
  clear ha hb
  obtain ⟨x, hx⟩ : ∃ x, x = a.natAbs := ⟨_, rfl⟩
  obtain ⟨y, hy⟩ : ∃ y, y = b.natAbs := ⟨_, rfl⟩
  have hpq := parts_mul x y
  obtain ⟨xh, hxh⟩ : ∃ xh, xh = x / 67108864 := ⟨_, rfl⟩
  obtain ⟨xl, hxl⟩ : ∃ xl, xl = x % 67108864 := ⟨_, rfl⟩
  obtain ⟨yh, hyh⟩ : ∃ yh, yh = y / 67108864 := ⟨_, rfl⟩
  obtain ⟨yl, hyl⟩ : ∃ yl, yl = y % 67108864 := ⟨_, rfl⟩
  have q1 : xh * yh ≤ 67108864 * 67108864 := Nat.mul_le_mul (by omega) (by omega)
  have q2 : xh * yl ≤ 67108864 * 67108864 := Nat.mul_le_mul (by omega) (by omega)
  have q3 : xl * yh ≤ 67108864 * 67108864 := Nat.mul_le_mul (by omega) (by omega)
  have q4 : xl * yl ≤ 67108864 * 67108864 := Nat.mul_le_mul (by omega) (by omega)
  rw [← hxh, ← hxl, ← hyh, ← hyl] at hpq
  obtain ⟨H, hH⟩ : ∃ H, H = xh * yh := ⟨_, rfl⟩
  obtain ⟨M1, hM1⟩ : ∃ M1, M1 = xh * yl := ⟨_, rfl⟩
  obtain ⟨M2, hM2⟩ : ∃ M2, M2 = xl * yh := ⟨_, rfl⟩
  obtain ⟨L, hL⟩ : ∃ L, L = xl * yl := ⟨_, rfl⟩
  rw [← hH, ← hM1, ← hM2, ← hL] at hpq
  rw [← hH] at q1; rw [← hM1] at q2; rw [← hM2] at q3; rw [← hL] at q4
  have eR : rMul a b up = rput (!(decide (a < 0) == decide (b < 0))) (x * y / 4294967296) (decide (0 < x * y % 4294967296)) up := by rw [hx, hy]; rfl
  have g1 : (x : Int) / 67108864 = (xh : Int) := by omega
  have g2 : (x : Int) % 67108864 = (xl : Int) := by omega
  have g3 : (y : Int) / 67108864 = (yh : Int) := by omega
  have g4 : (y : Int) % 67108864 = (yl : Int) := by omega
  have g5 : (xh : Int) * (yh : Int) = (H : Int) := by rw [hH, Int.natCast_mul]
  have g6 : (xh : Int) * (yl : Int) = (M1 : Int) := by rw [hM1, Int.natCast_mul]
  have g7 : (xl : Int) * (yh : Int) = (M2 : Int) := by rw [hM2, Int.natCast_mul]
  have g8 : (xl : Int) * (yl : Int) = (L : Int) := by rw [hL, Int.natCast_mul]
  have xb : x ≤ 4503599627370496 := by omega
  have yb : y ≤ 4503599627370496 := by omega
  have ER := Lib.hid eR; clear eR
  have HP := Lib.hid hpq; clear hpq
  have HX := Lib.hid hx; clear hx
  have HY := Lib.hid hy; clear hy
  clear hxh hxl hyh hyl hH hM1 hM2 hL
  rcases Nat.lt_or_ge H 8589934592 with hh | hh
  · have t : decide ((8589934592 : Int) ≤ (H : Int)) = false := by simp; omega
    have t' : ¬ (8589934592 : Int) ≤ (H : Int) := by omega
    obtain ⟨n, hn⟩ : ∃ n, n = x * y / 4294967296 := ⟨_, rfl⟩
    obtain ⟨R, hR⟩ : ∃ R, R = decide (0 < x * y % 4294967296) := ⟨_, rfl⟩
    have hn2 : (H : Int) * 1048576 + ((M1 : Int) + (M2 : Int)) / 64 + (((M1 : Int) + (M2 : Int)) % 64 * 67108864 + (L : Int)) / 4294967296 = (n : Int) := by rw [hn, HP.out]; omega
    have hR2 : decide ((0 : Int) < (((M1 : Int) + (M2 : Int)) % 64 * 67108864 + (L : Int)) % 4294967296) = R := by rw [hR, HP.out]; exact decide_eq_decide.2 (by omega)
    have hnb : n < 18446744073709551615 := by rw [hn, HP.out]; omega
    have HN := Lib.hid hn; clear hn
    have HR := Lib.hid hR; clear hR
    have HN2 := Lib.hid hn2; clear hn2
    have HR2 := Lib.hid hR2; clear hR2
    go_enter Tryd.func74, Tryd.ntmps74
    go_wp2_with (first | (go_at_call 98; refine (c_rsize _ _ (by omega) (by omega)).mono ?_; (first | rw [← HX.out] | rw [← HY.out]); rintro e w1 ⟨rfl, rfl⟩) | (go_at_call 99; refine (c_rput' _ R up n _ _ _ HN2.out HR2.out hnb).mono ?_; rintro e w2 ⟨rfl, rfl⟩))
    go_ret2
    exact ⟨by rw [ER.out, ← HN.out, ← HR.out]; rfl, rfl⟩
  · have t : decide ((8589934592 : Int) ≤ (H : Int)) = true := by simp; omega
    have t' : (8589934592 : Int) ≤ (H : Int) := by omega
    have EB : Hid (rMul a b up = (0, false)) := by
      unfold Hid; rw [ER.out]; exact rput_big _ _ _ _ (by rw [HP.out]; omega)
    go_enter Tryd.func74, Tryd.ntmps74
    go_wp2_with (go_at_call 98; refine (c_rsize _ _ (by omega) (by omega)).mono ?_; (first | rw [← HX.out] | rw [← HY.out]); rintro e w1 ⟨rfl, rfl⟩)
    go_ret2
    exact ⟨by rw [EB.out]; rfl, rfl⟩

end Go.Proofs.YtpdaigenffecmaaDoor

namespace Go.Proofs.YtpdaigenffecmaaDoor

abbrev W16 : Nat := 65536

/-- The number that n digits to the base 2^16 tell. -/
def v16 (f : Nat → Nat) : Nat → Nat
  | 0 => 0
  | k + 1 => v16 f k + f k * W16 ^ k

theorem v16_congr {f g : Nat → Nat} : ∀ {k : Nat}, (∀ j, j < k → f j = g j) → v16 f k = v16 g k
  | 0, _ => rfl
  | k + 1, h => by unfold v16; rw [v16_congr (k := k) (fun j hj => h j (by omega)), h k (by omega)]

def upd (h : Nat → Nat) (j x : Nat) : Nat → Nat := fun i => if i = j then x else h i

theorem v16_upd (h : Nat → Nat) (j x : Nat) : ∀ n, j < n → v16 (upd h j x) n + h j * W16 ^ j = v16 h n + x * W16 ^ j
  | 0, hj => by omega
  | n + 1, hj => by
    unfold v16
    by_cases e : j = n
    · subst e
      rw [v16_congr (f := upd h j x) (g := h) (fun i hi => by unfold upd; rw [if_neg (by omega)])]
      simp only [upd, if_true]; omega
    · have := v16_upd h j x n (by omega)
      have e2 : upd h j x n = h n := by unfold upd; rw [if_neg (by omega)]
      rw [e2]; omega

theorem v16_zero (n : Nat) : v16 (fun _ => 0) n = 0 := by
  induction n with
  | zero => rfl
  | succ n ih => unfold v16; rw [ih]; simp

theorem v16_lt (f : Nat → Nat) (hf : ∀ j, f j < W16) : ∀ k, v16 f k < W16 ^ k
  | 0 => by simp [v16]
  | k + 1 => by
    have h := v16_lt f hf k
    have h2 : f k + 1 ≤ W16 := hf k
    unfold v16
    calc v16 f k + f k * W16 ^ k < W16 ^ k + f k * W16 ^ k := by omega
      _ = (f k + 1) * W16 ^ k := by rw [Nat.add_mul]; omega
      _ ≤ W16 * W16 ^ k := Nat.mul_le_mul_right _ h2
      _ = W16 ^ (k + 1) := by rw [Nat.pow_succ, Nat.mul_comm]

/-- The digits of a number. -/
def dig (N j : Nat) : Nat := N / W16 ^ j % W16
theorem dig_lt (N j : Nat) : dig N j < W16 := Nat.mod_lt _ (by decide)
theorem v16_dig (N : Nat) : ∀ k, v16 (dig N) k = N % W16 ^ k
  | 0 => by simp [v16, Nat.mod_one]
  | k + 1 => by
    unfold v16
    rw [v16_dig N k, Nat.pow_succ, Nat.mod_mul, Nat.mul_comm (dig N k)]; rfl


theorem div_of_pow (N k : Nat) : N / W16 ^ (k + 1) = N / W16 ^ k / W16 := by rw [Nat.pow_succ, Nat.div_div_eq_div_mul]

/-- What the digits from s on tell, from the top: one more digit. -/
theorem v16_top (f : Nat → Nat) (hf : ∀ j, f j < W16) (L s : Nat) (hs : s ≤ L) : v16 f L % W16 ^ s = v16 f s := by
  obtain ⟨k, rfl⟩ : ∃ k, L = s + k := ⟨L - s, by omega⟩
  clear hs
  induction k with
  | zero => exact Nat.mod_eq_of_lt (v16_lt f hf s)
  | succ k ih =>
    show (v16 f (s + k) + f (s + k) * W16 ^ (s + k)) % W16 ^ s = _
    rw [Nat.pow_add, show f (s + k) * (W16 ^ s * W16 ^ k) = W16 ^ s * (f (s + k) * W16 ^ k) by ac_rfl, Nat.add_mul_mod_self_left, ih]

theorem v16_div (f : Nat → Nat) (hf : ∀ j, f j < W16) (L s : Nat) (hs : s < L) : v16 f L / W16 ^ s = v16 f L / W16 ^ (s + 1) * W16 + f s := by
  have h1 := v16_top f hf L s (by omega)
  have h2 := v16_top f hf L (s + 1) (by omega)
  have h3 := Nat.div_add_mod (v16 f L) (W16 ^ s)
  have h4 := Nat.div_add_mod (v16 f L) (W16 ^ (s + 1))
  rw [h1] at h3; rw [h2] at h4
  have hp : 0 < W16 ^ s := Nat.pow_pos (by decide)
  have e : v16 f (s + 1) = v16 f s + f s * W16 ^ s := rfl
  rw [e] at h4
  have e2 : W16 ^ (s + 1) * (v16 f L / W16 ^ (s + 1)) = W16 ^ s * (v16 f L / W16 ^ (s + 1) * W16) := by rw [Nat.pow_succ]; ac_rfl
  rw [e2] at h4
  have h5 : W16 ^ s * (v16 f L / W16 ^ s) = W16 ^ s * (v16 f L / W16 ^ (s + 1) * W16 + f s) := by
    rw [Nat.mul_add, Nat.mul_comm (W16 ^ s) (f s)]; omega
  exact Nat.eq_of_mul_eq_mul_left hp h5

theorem v16_eq_zero (f : Nat → Nat) : ∀ k, v16 f k = 0 ↔ ∀ j, j < k → f j = 0
  | 0 => by simp [v16]
  | k + 1 => by
    unfold v16
    have h := v16_eq_zero f k
    have hp : 0 < W16 ^ k := Nat.pow_pos (by decide)
    constructor
    · intro e
      have e1 : v16 f k = 0 := by omega
      have e2 : f k * W16 ^ k = 0 := by omega
      have e3 : f k = 0 := by rcases Nat.mul_eq_zero.1 e2 with e | e <;> omega
      intro j hj
      by_cases hjk : j = k
      · subst hjk; exact e3
      · exact h.1 e1 j (by omega)
    · intro e
      rw [h.2 (fun j hj => e j (by omega)), e k (by omega)]; simp

end Go.Proofs.YtpdaigenffecmaaDoor
