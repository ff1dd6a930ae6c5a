/-
  The walks of span.Pow and span.Sqr. Package vec: the calculator's methods. Package vec: each.
-/
import Derived.Test.YtpdaigenffecmaaM09
import Derived.Test.YtpdaigenffecmaaM13
set_option linter.all false
namespace Go.Proofs.Ytpdaigenffecmaa
open Go.RowKit Go.Shelf

set_option maxHeartbeats 1000000 in
theorem c_powBad (al ah : Int) (n : Int) (h : spChk (al, ah) = 20) (w : World) :
    Calls Try.prog 92 #[.agg #[.int .i64 al, .int .i64 ah], .int .i64 (n)] w fun e w' => e = .returned (.tuple #[.agg #[.int .i64 ((spPow (al, ah) (n)).1), .int .i64 ((spPow (al, ah) (n)).2.1)], .int .i64 ((spPow (al, ah) (n)).2.2)]) ∧ Below w.heap.size w w' := by
  have hs : Hid (spPow (al, ah) n = (0, 0, 20)) := spPow_bad _ _ h
  have h' : (spChk (al, ah) != 0) = true := by simp [h]
  go_enter Try.func92, Try.ntmps92
  go_wp2_with (first | (go_at_call 76; refine (c_spanCheck al ah _).mono ?_; rintro e w1 ⟨rfl, hb1⟩; (obtain ⟨hc1, hf1⟩ := bcell hb1; have hs1 := hb1.size; (try simp only [World.size_alloc, World.drew_heap, World.heap_drewN, World.size_setCell] at hs1); try (have z1_0 : w.heap.size < w1.heap.size := (by omega)); try (have z1_1 : w.heap.size + 1 < w1.heap.size := (by omega)); try (have z1_2 : w.heap.size + 1 + 1 < w1.heap.size := (by omega)); try (have z1_3 : w.heap.size + 1 + 1 + 1 < w1.heap.size := (by omega)); try (have z1_4 : w.heap.size + 1 + 1 + 1 + 1 < w1.heap.size := (by omega)); try (have z1_5 : w.heap.size + 1 + 1 + 1 + 1 + 1 < w1.heap.size := (by omega)))))
  refine bodyPost_ret (v := .tuple #[.agg #[.int .i64 (0), .int .i64 (0)], .int .i64 (20)]) (by simp [results, Try.results92, go_sem, *]) rfl ⟨by rw [hs.out], by (repeat' (first | (with_reducible exact Below.refl _ _) | assumption | (with_reducible refine Below.setCell ?_ ?_ _) | (with_reducible refine Below.alloc ?_ ?_ _) | (with_reducible refine Below.drew ?_) | (with_reducible refine below_drewN ?_ _) | (with_reducible refine Below.trans ?_ (Below.mono (by assumption) ?_)) | omega | (simp; done) | (simp; omega) | (simp [World.setCell]; omega)))⟩

set_option maxHeartbeats 1000000 in
theorem c_powNeg (al ah : Int) (n : Int) (h : spChk (al, ah) = 0) (hn : n < 0) (w : World) :
    Calls Try.prog 92 #[.agg #[.int .i64 al, .int .i64 ah], .int .i64 (n)] w fun e w' => e = .returned (.tuple #[.agg #[.int .i64 ((spPow (al, ah) (n)).1), .int .i64 ((spPow (al, ah) (n)).2.1)], .int .i64 ((spPow (al, ah) (n)).2.2)]) ∧ Below w.heap.size w w' := by
  have hs : Hid (spPow (al, ah) n = (0, 0, 2)) := spPow_arg _ _ h (by omega)
  have h' : (spChk (al, ah) != 0) = false := by simp [h]
  have t1 : decide (n < 0) = true := by simp; omega
  have H := Lib.hid h; clear h
  go_enter Try.func92, Try.ntmps92
  go_wp2_with (first | (go_at_call 76; refine (c_spanCheck al ah _).mono ?_; rintro e w1 ⟨rfl, hb1⟩; (obtain ⟨hc1, hf1⟩ := bcell hb1; have hs1 := hb1.size; (try simp only [World.size_alloc, World.drew_heap, World.heap_drewN, World.size_setCell] at hs1); try (have z1_0 : w.heap.size < w1.heap.size := (by omega)); try (have z1_1 : w.heap.size + 1 < w1.heap.size := (by omega)); try (have z1_2 : w.heap.size + 1 + 1 < w1.heap.size := (by omega)); try (have z1_3 : w.heap.size + 1 + 1 + 1 < w1.heap.size := (by omega)); try (have z1_4 : w.heap.size + 1 + 1 + 1 + 1 < w1.heap.size := (by omega)); try (have z1_5 : w.heap.size + 1 + 1 + 1 + 1 + 1 < w1.heap.size := (by omega)))))
  refine bodyPost_ret (v := .tuple #[.agg #[.int .i64 (0), .int .i64 (0)], .int .i64 (2)]) (by simp [results, Try.results92, go_sem, *]) rfl ⟨by rw [hs.out], by (repeat' (first | (with_reducible exact Below.refl _ _) | assumption | (with_reducible refine Below.setCell ?_ ?_ _) | (with_reducible refine Below.alloc ?_ ?_ _) | (with_reducible refine Below.drew ?_) | (with_reducible refine below_drewN ?_ _) | (with_reducible refine Below.trans ?_ (Below.mono (by assumption) ?_)) | omega | (simp; done) | (simp; omega) | (simp [World.setCell]; omega)))⟩

set_option maxHeartbeats 1000000 in
theorem c_powGreat (al ah : Int) (n : Int) (h : spChk (al, ah) = 0) (hn : 16 < n) (w : World) :
    Calls Try.prog 92 #[.agg #[.int .i64 al, .int .i64 ah], .int .i64 (n)] w fun e w' => e = .returned (.tuple #[.agg #[.int .i64 ((spPow (al, ah) (n)).1), .int .i64 ((spPow (al, ah) (n)).2.1)], .int .i64 ((spPow (al, ah) (n)).2.2)]) ∧ Below w.heap.size w w' := by
  have hs : Hid (spPow (al, ah) n = (0, 0, 2)) := spPow_arg _ _ h (by omega)
  have h' : (spChk (al, ah) != 0) = false := by simp [h]
  have t1 : decide (n < 0) = false := by simp; omega
  have t2 : decide (16 < n) = true := by simp; omega
  have H := Lib.hid h; clear h
  go_enter Try.func92, Try.ntmps92
  go_wp2_with (first | (go_at_call 76; refine (c_spanCheck al ah _).mono ?_; rintro e w1 ⟨rfl, hb1⟩; (obtain ⟨hc1, hf1⟩ := bcell hb1; have hs1 := hb1.size; (try simp only [World.size_alloc, World.drew_heap, World.heap_drewN, World.size_setCell] at hs1); try (have z1_0 : w.heap.size < w1.heap.size := (by omega)); try (have z1_1 : w.heap.size + 1 < w1.heap.size := (by omega)); try (have z1_2 : w.heap.size + 1 + 1 < w1.heap.size := (by omega)); try (have z1_3 : w.heap.size + 1 + 1 + 1 < w1.heap.size := (by omega)); try (have z1_4 : w.heap.size + 1 + 1 + 1 + 1 < w1.heap.size := (by omega)); try (have z1_5 : w.heap.size + 1 + 1 + 1 + 1 + 1 < w1.heap.size := (by omega)))))
  refine bodyPost_ret (v := .tuple #[.agg #[.int .i64 (0), .int .i64 (0)], .int .i64 (2)]) (by simp [results, Try.results92, go_sem, *]) rfl ⟨by rw [hs.out], by (repeat' (first | (with_reducible exact Below.refl _ _) | assumption | (with_reducible refine Below.setCell ?_ ?_ _) | (with_reducible refine Below.alloc ?_ ?_ _) | (with_reducible refine Below.drew ?_) | (with_reducible refine below_drewN ?_ _) | (with_reducible refine Below.trans ?_ (Below.mono (by assumption) ?_)) | omega | (simp; done) | (simp; omega) | (simp [World.setCell]; omega)))⟩

set_option maxHeartbeats 1000000 in
theorem c_powZero (al ah : Int) (h : spChk (al, ah) = 0) (w : World) :
    Calls Try.prog 92 #[.agg #[.int .i64 al, .int .i64 ah], .int .i64 (0)] w fun e w' => e = .returned (.tuple #[.agg #[.int .i64 ((spPow (al, ah) (0)).1), .int .i64 ((spPow (al, ah) (0)).2.1)], .int .i64 ((spPow (al, ah) (0)).2.2)]) ∧ Below w.heap.size w w' := by
  have hs : Hid (spPow (al, ah) 0 = (4294967296, 4294967296, 0)) := spPow_zero _ h
  have h' : (spChk (al, ah) != 0) = false := by simp [h]
  have hO : spOf 4294967296 4294967296 = (4294967296, 4294967296, 0) := by decide
  have H := Lib.hid h; clear h
  go_enter Try.func92, Try.ntmps92
  go_wp2_with (first | (go_at_call 76; refine (c_spanCheck al ah _).mono ?_; rintro e w1 ⟨rfl, hb1⟩; (obtain ⟨hc1, hf1⟩ := bcell hb1; have hs1 := hb1.size; (try simp only [World.size_alloc, World.drew_heap, World.heap_drewN, World.size_setCell] at hs1); try (have z1_0 : w.heap.size < w1.heap.size := (by omega)); try (have z1_1 : w.heap.size + 1 < w1.heap.size := (by omega)); try (have z1_2 : w.heap.size + 1 + 1 < w1.heap.size := (by omega)); try (have z1_3 : w.heap.size + 1 + 1 + 1 < w1.heap.size := (by omega)); try (have z1_4 : w.heap.size + 1 + 1 + 1 + 1 < w1.heap.size := (by omega)); try (have z1_5 : w.heap.size + 1 + 1 + 1 + 1 + 1 < w1.heap.size := (by omega)))) | (go_at_call 128; refine (c_spanPoint _ _).mono ?_; rw [hO]; rintro e w2 ⟨rfl, hb2⟩; (obtain ⟨hc2, hf2⟩ := bcell hb2; have hs2 := hb2.size; (try simp only [World.size_alloc, World.drew_heap, World.heap_drewN, World.size_setCell] at hs2); try (have z2_0 : w.heap.size < w2.heap.size := (by omega)); try (have z2_1 : w.heap.size + 1 < w2.heap.size := (by omega)); try (have z2_2 : w.heap.size + 1 + 1 < w2.heap.size := (by omega)); try (have z2_3 : w.heap.size + 1 + 1 + 1 < w2.heap.size := (by omega)); try (have z2_4 : w.heap.size + 1 + 1 + 1 + 1 < w2.heap.size := (by omega)); try (have z2_5 : w.heap.size + 1 + 1 + 1 + 1 + 1 < w2.heap.size := (by omega)))))
  refine bodyPost_ret (v := .tuple #[.agg #[.int .i64 (4294967296), .int .i64 (4294967296)], .int .i64 (0)]) (by simp [results, Try.results92, go_sem, *]) rfl ⟨by rw [hs.out], by (repeat' (first | (with_reducible exact Below.refl _ _) | assumption | (with_reducible refine Below.setCell ?_ ?_ _) | (with_reducible refine Below.alloc ?_ ?_ _) | (with_reducible refine Below.drew ?_) | (with_reducible refine below_drewN ?_ _) | (with_reducible refine Below.trans ?_ (Below.mono (by assumption) ?_)) | omega | (simp; done) | (simp; omega) | (simp [World.setCell]; omega)))⟩

set_option maxHeartbeats 1000000 in
theorem c_powOdd (al ah : Int) (n s : Nat) (hn : n = 2 * s + 1) (hn2 : n ≤ 16) (h : spChk (al, ah) = 0) (w : World) :
    Calls Try.prog 92 #[.agg #[.int .i64 al, .int .i64 ah], .int .i64 ((n : Int))] w fun e w' => e = .returned (.tuple #[.agg #[.int .i64 ((spPow (al, ah) ((n : Int))).1), .int .i64 ((spPow (al, ah) ((n : Int))).2.1)], .int .i64 ((spPow (al, ah) ((n : Int))).2.2)]) ∧ Below w.heap.size w w' := by
  have h' : (spChk (al, ah) != 0) = false := by simp [h]
  obtain ⟨ra1, ra2, ra3⟩ := spChk_ok h
  simp only at ra1 ra2 ra3
  have bX : al.natAbs ≤ 4503599627370496 := by omega
  have bY : ah.natAbs ≤ 4503599627370496 := by omega
  have hs : spPow (al, ah) (n : Int) = spPowOf (pwS al n) (pwS ah n) := by rw [spPow_odd _ _ h (by omega) (by omega)]
  have t1 : decide ((n : Int) < 0) = false := by (simp <;> omega)
  have t2 : decide (16 < (n : Int)) = false := by simp; omega
  have t3 : ((n : Int) == 0) = false := by (simp <;> omega)
  have t4 : (n : Int).tmod 2 = 1 := by rw [Int.tmod_eq_emod_of_nonneg (by omega)]; omega
  have t5 : (n : Int) % 2 = 1 := by omega
  have t6 : ¬ (n : Int) = 0 := by omega
  have t7 : ¬ n = 0 := by omega
  have BX := Lib.hid bX; clear bX
  have BY := Lib.hid bY; clear bY
  have HN := Lib.hid hn; clear hn
  have H := Lib.hid h; clear h
  clear ra1 ra2 ra3
  by_cases e1 : (pwS al n).2.2 = 0
  · have e1' : ((pwS al n).2.2 != 0) = false := by simp [e1]
    by_cases e2 : (pwS ah n).2.2 = 0
    · have e2' : ((pwS ah n).2.2 != 0) = false := by simp [e2]
      rw [spPowOf_ok _ _ e1 e2] at hs
      have hs := Lib.hid hs
      clear e1 e2
      go_enter Try.func92, Try.ntmps92
      go_wp2_with (first | (go_at_call 76; refine (c_spanCheck al ah _).mono ?_; rintro e w1 ⟨rfl, hb1⟩; (obtain ⟨hc1, hf1⟩ := bcell hb1; have hs1 := hb1.size; (try simp only [World.size_alloc, World.drew_heap, World.heap_drewN, World.size_setCell] at hs1); try (have z1_0 : w.heap.size < w1.heap.size := (by omega)); try (have z1_1 : w.heap.size + 1 < w1.heap.size := (by omega)); try (have z1_2 : w.heap.size + 1 + 1 < w1.heap.size := (by omega)); try (have z1_3 : w.heap.size + 1 + 1 + 1 < w1.heap.size := (by omega)); try (have z1_4 : w.heap.size + 1 + 1 + 1 + 1 < w1.heap.size := (by omega)); try (have z1_5 : w.heap.size + 1 + 1 + 1 + 1 + 1 < w1.heap.size := (by omega)))) | (go_at_call 130; refine (c_power1 _ n s _ rfl HN.out hn2 (by first | exact BX.out | exact BY.out) _).mono ?_; rintro e w3 ⟨rfl, hb3⟩; (obtain ⟨hc3, hf3⟩ := bcell hb3; have hs3 := hb3.size; (try simp only [World.size_alloc, World.drew_heap, World.heap_drewN, World.size_setCell] at hs3); try (have z3_0 : w.heap.size < w3.heap.size := (by omega)); try (have z3_1 : w.heap.size + 1 < w3.heap.size := (by omega)); try (have z3_2 : w.heap.size + 1 + 1 < w3.heap.size := (by omega)); try (have z3_3 : w.heap.size + 1 + 1 + 1 < w3.heap.size := (by omega)); try (have z3_4 : w.heap.size + 1 + 1 + 1 + 1 < w3.heap.size := (by omega)); try (have z3_5 : w.heap.size + 1 + 1 + 1 + 1 + 1 < w3.heap.size := (by omega)))) | (go_at_call 113; refine (c_spanTold _ _ _).mono ?_; rintro e w5 ⟨rfl, hb5⟩; (obtain ⟨hc5, hf5⟩ := bcell hb5; have hs5 := hb5.size; (try simp only [World.size_alloc, World.drew_heap, World.heap_drewN, World.size_setCell] at hs5); try (have z5_0 : w.heap.size < w5.heap.size := (by omega)); try (have z5_1 : w.heap.size + 1 < w5.heap.size := (by omega)); try (have z5_2 : w.heap.size + 1 + 1 < w5.heap.size := (by omega)); try (have z5_3 : w.heap.size + 1 + 1 + 1 < w5.heap.size := (by omega)); try (have z5_4 : w.heap.size + 1 + 1 + 1 + 1 < w5.heap.size := (by omega)); try (have z5_5 : w.heap.size + 1 + 1 + 1 + 1 + 1 < w5.heap.size := (by omega)))))
      refine bodyPost_ret (v := .tuple #[.agg #[.int .i64 ((spTold (pwS al n).1 (pwS ah n).2.1).1), .int .i64 ((spTold (pwS al n).1 (pwS ah n).2.1).2.1)], .int .i64 ((spTold (pwS al n).1 (pwS ah n).2.1).2.2)]) (by simp [results, Try.results92, go_sem, *]) rfl ⟨by rw [hs.out], by (repeat' (first | (with_reducible exact Below.refl _ _) | assumption | (with_reducible refine Below.setCell ?_ ?_ _) | (with_reducible refine Below.alloc ?_ ?_ _) | (with_reducible refine Below.drew ?_) | (with_reducible refine below_drewN ?_ _) | (with_reducible refine Below.trans ?_ (Below.mono (by assumption) ?_)) | omega | (simp; done) | (simp; omega) | (simp [World.setCell]; omega)))⟩
    · have e2' : ((pwS ah n).2.2 != 0) = true := by simp [e2]
      rw [spPowOf_bad _ _ (.inr e2)] at hs
      have hs := Lib.hid hs
      clear e1 e2
      go_enter Try.func92, Try.ntmps92
      go_wp2_with (first | (go_at_call 76; refine (c_spanCheck al ah _).mono ?_; rintro e w1 ⟨rfl, hb1⟩; (obtain ⟨hc1, hf1⟩ := bcell hb1; have hs1 := hb1.size; (try simp only [World.size_alloc, World.drew_heap, World.heap_drewN, World.size_setCell] at hs1); try (have z1_0 : w.heap.size < w1.heap.size := (by omega)); try (have z1_1 : w.heap.size + 1 < w1.heap.size := (by omega)); try (have z1_2 : w.heap.size + 1 + 1 < w1.heap.size := (by omega)); try (have z1_3 : w.heap.size + 1 + 1 + 1 < w1.heap.size := (by omega)); try (have z1_4 : w.heap.size + 1 + 1 + 1 + 1 < w1.heap.size := (by omega)); try (have z1_5 : w.heap.size + 1 + 1 + 1 + 1 + 1 < w1.heap.size := (by omega)))) | (go_at_call 130; refine (c_power1 _ n s _ rfl HN.out hn2 (by first | exact BX.out | exact BY.out) _).mono ?_; rintro e w3 ⟨rfl, hb3⟩; (obtain ⟨hc3, hf3⟩ := bcell hb3; have hs3 := hb3.size; (try simp only [World.size_alloc, World.drew_heap, World.heap_drewN, World.size_setCell] at hs3); try (have z3_0 : w.heap.size < w3.heap.size := (by omega)); try (have z3_1 : w.heap.size + 1 < w3.heap.size := (by omega)); try (have z3_2 : w.heap.size + 1 + 1 < w3.heap.size := (by omega)); try (have z3_3 : w.heap.size + 1 + 1 + 1 < w3.heap.size := (by omega)); try (have z3_4 : w.heap.size + 1 + 1 + 1 + 1 < w3.heap.size := (by omega)); try (have z3_5 : w.heap.size + 1 + 1 + 1 + 1 + 1 < w3.heap.size := (by omega)))))
      refine bodyPost_ret (v := .tuple #[.agg #[.int .i64 (0), .int .i64 (0)], .int .i64 (6)]) (by simp [results, Try.results92, go_sem, *]) rfl ⟨by rw [hs.out], by (repeat' (first | (with_reducible exact Below.refl _ _) | assumption | (with_reducible refine Below.setCell ?_ ?_ _) | (with_reducible refine Below.alloc ?_ ?_ _) | (with_reducible refine Below.drew ?_) | (with_reducible refine below_drewN ?_ _) | (with_reducible refine Below.trans ?_ (Below.mono (by assumption) ?_)) | omega | (simp; done) | (simp; omega) | (simp [World.setCell]; omega)))⟩
  · have e1' : ((pwS al n).2.2 != 0) = true := by simp [e1]
    rw [spPowOf_bad _ _ (.inl e1)] at hs
    have hs := Lib.hid hs
    clear e1
    go_enter Try.func92, Try.ntmps92
    go_wp2_with (first | (go_at_call 76; refine (c_spanCheck al ah _).mono ?_; rintro e w1 ⟨rfl, hb1⟩; (obtain ⟨hc1, hf1⟩ := bcell hb1; have hs1 := hb1.size; (try simp only [World.size_alloc, World.drew_heap, World.heap_drewN, World.size_setCell] at hs1); try (have z1_0 : w.heap.size < w1.heap.size := (by omega)); try (have z1_1 : w.heap.size + 1 < w1.heap.size := (by omega)); try (have z1_2 : w.heap.size + 1 + 1 < w1.heap.size := (by omega)); try (have z1_3 : w.heap.size + 1 + 1 + 1 < w1.heap.size := (by omega)); try (have z1_4 : w.heap.size + 1 + 1 + 1 + 1 < w1.heap.size := (by omega)); try (have z1_5 : w.heap.size + 1 + 1 + 1 + 1 + 1 < w1.heap.size := (by omega)))) | (go_at_call 130; refine (c_power1 _ n s _ rfl HN.out hn2 (by first | exact BX.out | exact BY.out) _).mono ?_; rintro e w3 ⟨rfl, hb3⟩; (obtain ⟨hc3, hf3⟩ := bcell hb3; have hs3 := hb3.size; (try simp only [World.size_alloc, World.drew_heap, World.heap_drewN, World.size_setCell] at hs3); try (have z3_0 : w.heap.size < w3.heap.size := (by omega)); try (have z3_1 : w.heap.size + 1 < w3.heap.size := (by omega)); try (have z3_2 : w.heap.size + 1 + 1 < w3.heap.size := (by omega)); try (have z3_3 : w.heap.size + 1 + 1 + 1 < w3.heap.size := (by omega)); try (have z3_4 : w.heap.size + 1 + 1 + 1 + 1 < w3.heap.size := (by omega)); try (have z3_5 : w.heap.size + 1 + 1 + 1 + 1 + 1 < w3.heap.size := (by omega)))))
    refine bodyPost_ret (v := .tuple #[.agg #[.int .i64 (0), .int .i64 (0)], .int .i64 (6)]) (by simp [results, Try.results92, go_sem, *]) rfl ⟨by rw [hs.out], by (repeat' (first | (with_reducible exact Below.refl _ _) | assumption | (with_reducible refine Below.setCell ?_ ?_ _) | (with_reducible refine Below.alloc ?_ ?_ _) | (with_reducible refine Below.drew ?_) | (with_reducible refine below_drewN ?_ _) | (with_reducible refine Below.trans ?_ (Below.mono (by assumption) ?_)) | omega | (simp; done) | (simp; omega) | (simp [World.setCell]; omega)))⟩

set_option maxHeartbeats 1000000 in
theorem c_powEven (al ah : Int) (n s : Nat) (hn : n = 2 * s + 2) (hn2 : n ≤ 16) (h : spChk (al, ah) = 0) (w : World) :
    Calls Try.prog 92 #[.agg #[.int .i64 al, .int .i64 ah], .int .i64 ((n : Int))] w fun e w' => e = .returned (.tuple #[.agg #[.int .i64 ((spPow (al, ah) ((n : Int))).1), .int .i64 ((spPow (al, ah) ((n : Int))).2.1)], .int .i64 ((spPow (al, ah) ((n : Int))).2.2)]) ∧ Below w.heap.size w w' := by
  have h' : (spChk (al, ah) != 0) = false := by simp [h]
  obtain ⟨ra1, ra2, ra3⟩ := spChk_ok h
  simp only at ra1 ra2 ra3
  obtain ⟨X, hX⟩ : ∃ X, X = abLo (al, ah) := ⟨_, rfl⟩
  obtain ⟨Y, hY⟩ : ∃ Y, Y = abHi (al, ah) := ⟨_, rfl⟩
  have eA : spAbs (al, ah) = (X, Y, 0) := by rw [spAbs_eq _ h, hX, hY]
  have bX : X.natAbs ≤ 4503599627370496 := by rw [hX]; unfold abLo; simp only; omega
  have bY : Y.natAbs ≤ 4503599627370496 := by rw [hY]; unfold abHi; simp only; omega
  have hs : spPow (al, ah) (n : Int) = spPowOf (pwS X n) (pwS Y n) := by rw [spPow_even _ _ h (by omega) (by omega) (by omega), ← hX, ← hY]
  have t1 : decide ((n : Int) < 0) = false := by (simp <;> omega)
  have t2 : decide (16 < (n : Int)) = false := by simp; omega
  have t3 : ((n : Int) == 0) = false := by (simp <;> omega)
  have t4 : (n : Int).tmod 2 = 0 := by rw [Int.tmod_eq_emod_of_nonneg (by omega)]; omega
  have t5 : (n : Int) % 2 = 0 := by omega
  have t6 : ¬ (n : Int) = 0 := by omega
  have t7 : ¬ n = 0 := by omega
  have BX := Lib.hid bX; clear bX
  have BY := Lib.hid bY; clear bY
  have HN := Lib.hid hn; clear hn
  have H := Lib.hid h; clear h
  clear ra1 ra2 ra3 hX hY
  by_cases e1 : (pwS X n).2.2 = 0
  · have e1' : ((pwS X n).2.2 != 0) = false := by simp [e1]
    by_cases e2 : (pwS Y n).2.2 = 0
    · have e2' : ((pwS Y n).2.2 != 0) = false := by simp [e2]
      rw [spPowOf_ok _ _ e1 e2] at hs
      have hs := Lib.hid hs
      clear e1 e2
      go_enter Try.func92, Try.ntmps92
      go_wp2_with (first | (go_at_call 76; refine (c_spanCheck al ah _).mono ?_; rintro e w1 ⟨rfl, hb1⟩; (obtain ⟨hc1, hf1⟩ := bcell hb1; have hs1 := hb1.size; (try simp only [World.size_alloc, World.drew_heap, World.heap_drewN, World.size_setCell] at hs1); try (have z1_0 : w.heap.size < w1.heap.size := (by omega)); try (have z1_1 : w.heap.size + 1 < w1.heap.size := (by omega)); try (have z1_2 : w.heap.size + 1 + 1 < w1.heap.size := (by omega)); try (have z1_3 : w.heap.size + 1 + 1 + 1 < w1.heap.size := (by omega)); try (have z1_4 : w.heap.size + 1 + 1 + 1 + 1 < w1.heap.size := (by omega)); try (have z1_5 : w.heap.size + 1 + 1 + 1 + 1 + 1 < w1.heap.size := (by omega)))) | (go_at_call 129; refine (c_spanAbs al ah _).mono ?_; rw [eA]; rintro e w2 ⟨rfl, hb2⟩; (obtain ⟨hc2, hf2⟩ := bcell hb2; have hs2 := hb2.size; (try simp only [World.size_alloc, World.drew_heap, World.heap_drewN, World.size_setCell] at hs2); try (have z2_0 : w.heap.size < w2.heap.size := (by omega)); try (have z2_1 : w.heap.size + 1 < w2.heap.size := (by omega)); try (have z2_2 : w.heap.size + 1 + 1 < w2.heap.size := (by omega)); try (have z2_3 : w.heap.size + 1 + 1 + 1 < w2.heap.size := (by omega)); try (have z2_4 : w.heap.size + 1 + 1 + 1 + 1 < w2.heap.size := (by omega)); try (have z2_5 : w.heap.size + 1 + 1 + 1 + 1 + 1 < w2.heap.size := (by omega))); (have q0 : w2.cell? ⟨w.heap.size, 0, none⟩ = some (.int .i64 al) := by simp [go_sem, *]); (have q1 : w2.cell? ⟨w.heap.size, 1, none⟩ = some (.int .i64 ah) := by simp [go_sem, *]); (have q2 : w2.cell? ⟨w.heap.size + 1, 0, none⟩ = some (.int .i64 0) := by simp [go_sem, *]); (have q3 : w2.cell? ⟨w.heap.size + 1, 1, none⟩ = some (.int .i64 0) := by simp [go_sem, *]); (have f0 : w2.frozen? ⟨w.heap.size, 0, none⟩ = false := by simp [go_sem, *]); (have f1 : w2.frozen? ⟨w.heap.size, 1, none⟩ = false := by simp [go_sem, *]); (have f2 : w2.frozen? ⟨w.heap.size + 1, 0, none⟩ = false := by simp [go_sem, *]); (have f3 : w2.frozen? ⟨w.heap.size + 1, 1, none⟩ = false := by simp [go_sem, *]); clear hc1 hf1 hc2 hf2) | (go_at_call 130; refine (c_power0 _ n s _ rfl HN.out hn2 (by first | exact BX.out | exact BY.out) _).mono ?_; rintro e w3 ⟨rfl, hb3⟩; (obtain ⟨hc3, hf3⟩ := bcell hb3; have hs3 := hb3.size; (try simp only [World.size_alloc, World.drew_heap, World.heap_drewN, World.size_setCell] at hs3); try (have z3_0 : w.heap.size < w3.heap.size := (by omega)); try (have z3_1 : w.heap.size + 1 < w3.heap.size := (by omega)); try (have z3_2 : w.heap.size + 1 + 1 < w3.heap.size := (by omega)); try (have z3_3 : w.heap.size + 1 + 1 + 1 < w3.heap.size := (by omega)); try (have z3_4 : w.heap.size + 1 + 1 + 1 + 1 < w3.heap.size := (by omega)); try (have z3_5 : w.heap.size + 1 + 1 + 1 + 1 + 1 < w3.heap.size := (by omega)))) | (go_at_call 113; refine (c_spanTold _ _ _).mono ?_; rintro e w5 ⟨rfl, hb5⟩; (obtain ⟨hc5, hf5⟩ := bcell hb5; have hs5 := hb5.size; (try simp only [World.size_alloc, World.drew_heap, World.heap_drewN, World.size_setCell] at hs5); try (have z5_0 : w.heap.size < w5.heap.size := (by omega)); try (have z5_1 : w.heap.size + 1 < w5.heap.size := (by omega)); try (have z5_2 : w.heap.size + 1 + 1 < w5.heap.size := (by omega)); try (have z5_3 : w.heap.size + 1 + 1 + 1 < w5.heap.size := (by omega)); try (have z5_4 : w.heap.size + 1 + 1 + 1 + 1 < w5.heap.size := (by omega)); try (have z5_5 : w.heap.size + 1 + 1 + 1 + 1 + 1 < w5.heap.size := (by omega)))))
      refine bodyPost_ret (v := .tuple #[.agg #[.int .i64 ((spTold (pwS X n).1 (pwS Y n).2.1).1), .int .i64 ((spTold (pwS X n).1 (pwS Y n).2.1).2.1)], .int .i64 ((spTold (pwS X n).1 (pwS Y n).2.1).2.2)]) (by simp [results, Try.results92, go_sem, *]) rfl ⟨by rw [hs.out], by (repeat' (first | (with_reducible exact Below.refl _ _) | assumption | (with_reducible refine Below.setCell ?_ ?_ _) | (with_reducible refine Below.alloc ?_ ?_ _) | (with_reducible refine Below.drew ?_) | (with_reducible refine below_drewN ?_ _) | (with_reducible refine Below.trans ?_ (Below.mono (by assumption) ?_)) | omega | (simp; done) | (simp; omega) | (simp [World.setCell]; omega)))⟩
    · have e2' : ((pwS Y n).2.2 != 0) = true := by simp [e2]
      rw [spPowOf_bad _ _ (.inr e2)] at hs
      have hs := Lib.hid hs
      clear e1 e2
      go_enter Try.func92, Try.ntmps92
      go_wp2_with (first | (go_at_call 76; refine (c_spanCheck al ah _).mono ?_; rintro e w1 ⟨rfl, hb1⟩; (obtain ⟨hc1, hf1⟩ := bcell hb1; have hs1 := hb1.size; (try simp only [World.size_alloc, World.drew_heap, World.heap_drewN, World.size_setCell] at hs1); try (have z1_0 : w.heap.size < w1.heap.size := (by omega)); try (have z1_1 : w.heap.size + 1 < w1.heap.size := (by omega)); try (have z1_2 : w.heap.size + 1 + 1 < w1.heap.size := (by omega)); try (have z1_3 : w.heap.size + 1 + 1 + 1 < w1.heap.size := (by omega)); try (have z1_4 : w.heap.size + 1 + 1 + 1 + 1 < w1.heap.size := (by omega)); try (have z1_5 : w.heap.size + 1 + 1 + 1 + 1 + 1 < w1.heap.size := (by omega)))) | (go_at_call 129; refine (c_spanAbs al ah _).mono ?_; rw [eA]; rintro e w2 ⟨rfl, hb2⟩; (obtain ⟨hc2, hf2⟩ := bcell hb2; have hs2 := hb2.size; (try simp only [World.size_alloc, World.drew_heap, World.heap_drewN, World.size_setCell] at hs2); try (have z2_0 : w.heap.size < w2.heap.size := (by omega)); try (have z2_1 : w.heap.size + 1 < w2.heap.size := (by omega)); try (have z2_2 : w.heap.size + 1 + 1 < w2.heap.size := (by omega)); try (have z2_3 : w.heap.size + 1 + 1 + 1 < w2.heap.size := (by omega)); try (have z2_4 : w.heap.size + 1 + 1 + 1 + 1 < w2.heap.size := (by omega)); try (have z2_5 : w.heap.size + 1 + 1 + 1 + 1 + 1 < w2.heap.size := (by omega))); (have q0 : w2.cell? ⟨w.heap.size, 0, none⟩ = some (.int .i64 al) := by simp [go_sem, *]); (have q1 : w2.cell? ⟨w.heap.size, 1, none⟩ = some (.int .i64 ah) := by simp [go_sem, *]); (have q2 : w2.cell? ⟨w.heap.size + 1, 0, none⟩ = some (.int .i64 0) := by simp [go_sem, *]); (have q3 : w2.cell? ⟨w.heap.size + 1, 1, none⟩ = some (.int .i64 0) := by simp [go_sem, *]); (have f0 : w2.frozen? ⟨w.heap.size, 0, none⟩ = false := by simp [go_sem, *]); (have f1 : w2.frozen? ⟨w.heap.size, 1, none⟩ = false := by simp [go_sem, *]); (have f2 : w2.frozen? ⟨w.heap.size + 1, 0, none⟩ = false := by simp [go_sem, *]); (have f3 : w2.frozen? ⟨w.heap.size + 1, 1, none⟩ = false := by simp [go_sem, *]); clear hc1 hf1 hc2 hf2) | (go_at_call 130; refine (c_power0 _ n s _ rfl HN.out hn2 (by first | exact BX.out | exact BY.out) _).mono ?_; rintro e w3 ⟨rfl, hb3⟩; (obtain ⟨hc3, hf3⟩ := bcell hb3; have hs3 := hb3.size; (try simp only [World.size_alloc, World.drew_heap, World.heap_drewN, World.size_setCell] at hs3); try (have z3_0 : w.heap.size < w3.heap.size := (by omega)); try (have z3_1 : w.heap.size + 1 < w3.heap.size := (by omega)); try (have z3_2 : w.heap.size + 1 + 1 < w3.heap.size := (by omega)); try (have z3_3 : w.heap.size + 1 + 1 + 1 < w3.heap.size := (by omega)); try (have z3_4 : w.heap.size + 1 + 1 + 1 + 1 < w3.heap.size := (by omega)); try (have z3_5 : w.heap.size + 1 + 1 + 1 + 1 + 1 < w3.heap.size := (by omega)))))
      refine bodyPost_ret (v := .tuple #[.agg #[.int .i64 (0), .int .i64 (0)], .int .i64 (6)]) (by simp [results, Try.results92, go_sem, *]) rfl ⟨by rw [hs.out], by (repeat' (first | (with_reducible exact Below.refl _ _) | assumption | (with_reducible refine Below.setCell ?_ ?_ _) | (with_reducible refine Below.alloc ?_ ?_ _) | (with_reducible refine Below.drew ?_) | (with_reducible refine below_drewN ?_ _) | (with_reducible refine Below.trans ?_ (Below.mono (by assumption) ?_)) | omega | (simp; done) | (simp; omega) | (simp [World.setCell]; omega)))⟩
  · have e1' : ((pwS X n).2.2 != 0) = true := by simp [e1]
    rw [spPowOf_bad _ _ (.inl e1)] at hs
    have hs := Lib.hid hs
    clear e1
    go_enter Try.func92, Try.ntmps92
    go_wp2_with (first | (go_at_call 76; refine (c_spanCheck al ah _).mono ?_; rintro e w1 ⟨rfl, hb1⟩; (obtain ⟨hc1, hf1⟩ := bcell hb1; have hs1 := hb1.size; (try simp only [World.size_alloc, World.drew_heap, World.heap_drewN, World.size_setCell] at hs1); try (have z1_0 : w.heap.size < w1.heap.size := (by omega)); try (have z1_1 : w.heap.size + 1 < w1.heap.size := (by omega)); try (have z1_2 : w.heap.size + 1 + 1 < w1.heap.size := (by omega)); try (have z1_3 : w.heap.size + 1 + 1 + 1 < w1.heap.size := (by omega)); try (have z1_4 : w.heap.size + 1 + 1 + 1 + 1 < w1.heap.size := (by omega)); try (have z1_5 : w.heap.size + 1 + 1 + 1 + 1 + 1 < w1.heap.size := (by omega)))) | (go_at_call 129; refine (c_spanAbs al ah _).mono ?_; rw [eA]; rintro e w2 ⟨rfl, hb2⟩; (obtain ⟨hc2, hf2⟩ := bcell hb2; have hs2 := hb2.size; (try simp only [World.size_alloc, World.drew_heap, World.heap_drewN, World.size_setCell] at hs2); try (have z2_0 : w.heap.size < w2.heap.size := (by omega)); try (have z2_1 : w.heap.size + 1 < w2.heap.size := (by omega)); try (have z2_2 : w.heap.size + 1 + 1 < w2.heap.size := (by omega)); try (have z2_3 : w.heap.size + 1 + 1 + 1 < w2.heap.size := (by omega)); try (have z2_4 : w.heap.size + 1 + 1 + 1 + 1 < w2.heap.size := (by omega)); try (have z2_5 : w.heap.size + 1 + 1 + 1 + 1 + 1 < w2.heap.size := (by omega))); (have q0 : w2.cell? ⟨w.heap.size, 0, none⟩ = some (.int .i64 al) := by simp [go_sem, *]); (have q1 : w2.cell? ⟨w.heap.size, 1, none⟩ = some (.int .i64 ah) := by simp [go_sem, *]); (have q2 : w2.cell? ⟨w.heap.size + 1, 0, none⟩ = some (.int .i64 0) := by simp [go_sem, *]); (have q3 : w2.cell? ⟨w.heap.size + 1, 1, none⟩ = some (.int .i64 0) := by simp [go_sem, *]); (have f0 : w2.frozen? ⟨w.heap.size, 0, none⟩ = false := by simp [go_sem, *]); (have f1 : w2.frozen? ⟨w.heap.size, 1, none⟩ = false := by simp [go_sem, *]); (have f2 : w2.frozen? ⟨w.heap.size + 1, 0, none⟩ = false := by simp [go_sem, *]); (have f3 : w2.frozen? ⟨w.heap.size + 1, 1, none⟩ = false := by simp [go_sem, *]); clear hc1 hf1 hc2 hf2) | (go_at_call 130; refine (c_power0 _ n s _ rfl HN.out hn2 (by first | exact BX.out | exact BY.out) _).mono ?_; rintro e w3 ⟨rfl, hb3⟩; (obtain ⟨hc3, hf3⟩ := bcell hb3; have hs3 := hb3.size; (try simp only [World.size_alloc, World.drew_heap, World.heap_drewN, World.size_setCell] at hs3); try (have z3_0 : w.heap.size < w3.heap.size := (by omega)); try (have z3_1 : w.heap.size + 1 < w3.heap.size := (by omega)); try (have z3_2 : w.heap.size + 1 + 1 < w3.heap.size := (by omega)); try (have z3_3 : w.heap.size + 1 + 1 + 1 < w3.heap.size := (by omega)); try (have z3_4 : w.heap.size + 1 + 1 + 1 + 1 < w3.heap.size := (by omega)); try (have z3_5 : w.heap.size + 1 + 1 + 1 + 1 + 1 < w3.heap.size := (by omega)))))
    refine bodyPost_ret (v := .tuple #[.agg #[.int .i64 (0), .int .i64 (0)], .int .i64 (6)]) (by simp [results, Try.results92, go_sem, *]) rfl ⟨by rw [hs.out], by (repeat' (first | (with_reducible exact Below.refl _ _) | assumption | (with_reducible refine Below.setCell ?_ ?_ _) | (with_reducible refine Below.alloc ?_ ?_ _) | (with_reducible refine Below.drew ?_) | (with_reducible refine below_drewN ?_ _) | (with_reducible refine Below.trans ?_ (Below.mono (by assumption) ?_)) | omega | (simp; done) | (simp; omega) | (simp [World.setCell]; omega)))⟩

theorem c_spanPow (al ah n : Int) (w : World) :
    Calls Try.prog 92 #[.agg #[.int .i64 al, .int .i64 ah], .int .i64 n] w fun e w' => e = .returned (.tuple #[.agg #[.int .i64 ((spPow (al, ah) n).1), .int .i64 ((spPow (al, ah) n).2.1)], .int .i64 ((spPow (al, ah) n).2.2)]) ∧ Below w.heap.size w w' := by
  rcases spChk_or (al, ah) with h | h
  · by_cases h0 : n < 0
    · exact c_powNeg al ah n h h0 w
    · by_cases h1 : 16 < n
      · exact c_powGreat al ah n h h1 w
      · obtain ⟨m, rfl⟩ : ∃ m : Nat, n = (m : Int) := ⟨n.toNat, by omega⟩
        rcases Nat.eq_zero_or_pos m with e | e
        · subst e; exact c_powZero al ah h w
        · by_cases h2 : m % 2 = 1
          · exact c_powOdd al ah m (m / 2) (by omega) (by omega) h w
          · exact c_powEven al ah m (m / 2 - 1) (by omega) (by omega) h w
  · exact c_powBad al ah n h w

set_option maxHeartbeats 400000 in
theorem c_spanSqr (al ah : Int) (w : World) :
    Calls Try.prog 47 #[.agg #[.int .i64 al, .int .i64 ah]] w fun e w' => e = .returned (.tuple #[.agg #[.int .i64 ((spPow (al, ah) 2).1), .int .i64 ((spPow (al, ah) 2).2.1)], .int .i64 ((spPow (al, ah) 2).2.2)]) ∧ Below w.heap.size w w' := by
  go_enter Try.func47, Try.ntmps47
  go_wp2_with (first | (go_at_call 92; refine (c_spanPow al ah 2 _).mono ?_; rintro e w1 ⟨rfl, hb1⟩; (obtain ⟨hc1, hf1⟩ := bcell hb1; have hs1 := hb1.size; (try simp only [World.size_alloc, World.drew_heap, World.heap_drewN, World.size_setCell] at hs1); try (have z1_0 : w.heap.size < w1.heap.size := (by omega)); try (have z1_1 : w.heap.size + 1 < w1.heap.size := (by omega)); try (have z1_2 : w.heap.size + 1 + 1 < w1.heap.size := (by omega)); try (have z1_3 : w.heap.size + 1 + 1 + 1 < w1.heap.size := (by omega)); try (have z1_4 : w.heap.size + 1 + 1 + 1 + 1 < w1.heap.size := (by omega)); try (have z1_5 : w.heap.size + 1 + 1 + 1 + 1 + 1 < w1.heap.size := (by omega)))))
  refine bodyPost_ret (v := .tuple #[.agg #[.int .i64 ((spPow (al, ah) 2).1), .int .i64 ((spPow (al, ah) 2).2.1)], .int .i64 ((spPow (al, ah) 2).2.2)]) (by simp [results, Try.results47, go_sem, *]) rfl ⟨rfl, by (repeat' (first | (with_reducible exact Below.refl _ _) | assumption | (with_reducible refine Below.setCell ?_ ?_ _) | (with_reducible refine Below.alloc ?_ ?_ _) | (with_reducible refine Below.drew ?_) | (with_reducible refine below_drewN ?_ _) | (with_reducible refine Below.trans ?_ (Below.mono (by assumption) ?_)) | omega | (simp; done) | (simp; omega) | (simp [World.setCell]; omega)))⟩

end Go.Proofs.Ytpdaigenffecmaa

namespace Go.Proofs.Ytpdaigenffecmaa
open Go.RowKit Go.Shelf

/-- The first error of two. -/
def fst2 (a b : Int) : Int := if a = 0 then b else a
theorem fst2_zero (b : Int) : fst2 0 b = b := by simp [fst2]
theorem fst2_ne (a b : Int) (h : a ≠ 0) : fst2 a b = a := by simp [fst2, h]

/-- Of the old blocks only p may have changed. -/
structure OnlyB (p : Nat) (w w' : World) : Prop where
  os : w'.os = w.os
  tape : w'.tape = w.tape
  output : w'.output = w.output
  size : w.heap.size ≤ w'.heap.size
  block : ∀ k, k < w.heap.size → k ≠ p → w'.heap[k]? = w.heap[k]?
theorem OnlyB.refl (p : Nat) (w : World) : OnlyB p w w := ⟨rfl, rfl, rfl, Nat.le_refl _, fun _ _ _ => rfl⟩
theorem OnlyB.trans {p : Nat} {a b c : World} (h : OnlyB p a b) (k : OnlyB p b c) : OnlyB p a c :=
  ⟨k.os.trans h.os, k.tape.trans h.tape, k.output.trans h.output, Nat.le_trans h.size k.size, fun i h1 h2 => (k.block i (Nat.lt_of_lt_of_le h1 h.size) h2).trans (h.block i h1 h2)⟩
theorem OnlyB.of_below {p n : Nat} {a b c : World} (h : OnlyB p a b) (hb : Below n b c) (hn : a.heap.size ≤ n) : OnlyB p a c :=
  ⟨hb.os.trans h.os, hb.tape.trans h.tape, hb.output.trans h.output, Nat.le_trans h.size hb.size, fun k h1 h2 => (hb.block k (by omega)).trans (h.block k h1 h2)⟩
theorem OnlyB.set {p : Nat} {a b : World} (h : OnlyB p a b) (q : Addr) (v : Value) (hq : q.block = p ∨ a.heap.size ≤ q.block) : OnlyB p a (b.setCell q v) :=
  ⟨h.os, h.tape, h.output, by have := h.size; simpa [World.setCell] using this, fun k h1 h2 => (Below.heap_setCell _ _ _ _ (by omega)).trans (h.block k h1 h2)⟩
theorem OnlyB.alloc {p : Nat} {a b : World} (h : OnlyB p a b) (o : Obj) : OnlyB p a (b.alloc o) :=
  ⟨h.os, h.tape, h.output, by have := h.size; simp; omega, fun k h1 h2 => (Below.heap_alloc _ _ _ (by have := h.size; omega)).trans (h.block k h1 h2)⟩
theorem OnlyB.drew {p : Nat} {a b : World} (h : OnlyB p a b) : OnlyB p a b.drew := ⟨h.os, h.tape, h.output, h.size, h.block⟩
theorem OnlyB.cell {p : Nat} {w w' : World} (h : OnlyB p w w') {b o : Nat} (hb : b < w.heap.size) (h1 : b ≠ p) : w'.cell? ⟨b, o, none⟩ = w.cell? ⟨b, o, none⟩ := World.cell?_of_block (w := w) (h.block b hb h1)
theorem OnlyB.frozen {p : Nat} {w w' : World} (h : OnlyB p w w') {b o : Nat} (hb : b < w.heap.size) (h1 : b ≠ p) : w'.frozen? ⟨b, o, none⟩ = w.frozen? ⟨b, o, none⟩ := World.frozen?_of_block (w := w) (h.block b hb h1)
theorem OnlyB.toBelow {p n : Nat} {w w' : World} (h : OnlyB p w w') (h0 : n ≤ w.heap.size) (h1 : n ≤ p) : Below n w w' :=
  ⟨h.os, h.tape, h.output, h.size, fun k hk => h.block k (by omega) (by omega)⟩

/-- What a method of the calculator at block p leaves: its result, the error noted. -/
def Took (p : Nat) (v : Value) (e1 : Int) (w : World) (e : Ending) (w' : World) : Prop :=
  e = .returned v ∧ OnlyB p w w' ∧ w'.cell? ⟨p, 0, none⟩ = some (.int .i64 e1) ∧ w'.frozen? ⟨p, 0, none⟩ = false

set_option maxHeartbeats 400000 in
theorem c_take6 (p : Nat) (al ah e0 e1 : Int) (w : World) (hp : p < w.heap.size) (hc : w.cell? ⟨p, 0, none⟩ = some (.int .i64 e0)) (hf : w.frozen? ⟨p, 0, none⟩ = false) :
    Calls Try.prog 120 #[.pointer (some ⟨p, 0, none⟩), .agg #[.int .i64 al, .int .i64 ah], .int .i64 e1] w (Took p (.agg #[.int .i64 al, .int .i64 ah]) (fst2 e0 e1) w) := by
  have hn1 : ¬ w.heap.size = p := by omega
  have hn2 : ¬ p = w.heap.size := by omega
  have hn3 : ¬ w.heap.size + 1 = p := by omega
  have hn4 : ¬ p = w.heap.size + 1 := by omega
  by_cases h : e0 = 0
  · subst h
    have hs := Lib.hid (fst2_zero e1)
    go_enter Try.func120, Try.ntmps120
    go_wp2
    refine bodyPost_ret (v := .agg #[.int .i64 al, .int .i64 ah]) (by simp [results, Try.results120, go_sem, *]) rfl ⟨rfl, ?_, ?_, ?_⟩
    · (repeat' (first | (with_reducible exact OnlyB.refl _ _) | assumption | (with_reducible refine OnlyB.set ?_ _ _ ?_) | (with_reducible refine OnlyB.alloc ?_ _) | (with_reducible refine OnlyB.drew ?_) | (with_reducible refine OnlyB.of_below ?_ (by assumption) ?_) | (with_reducible refine OnlyB.trans ?_ (by assumption)) | omega | (simp; done) | (simp; omega)))
    · rw [hs.out]; simp [go_sem, *]
    · simp [go_sem, *]
  · have hb : (e0 == 0) = false := by simp [h]
    have hs := Lib.hid (fst2_ne e0 e1 h)
    go_enter Try.func120, Try.ntmps120
    go_wp2
    refine bodyPost_ret (v := .agg #[.int .i64 al, .int .i64 ah]) (by simp [results, Try.results120, go_sem, *]) rfl ⟨rfl, ?_, ?_, ?_⟩
    · (repeat' (first | (with_reducible exact OnlyB.refl _ _) | assumption | (with_reducible refine OnlyB.set ?_ _ _ ?_) | (with_reducible refine OnlyB.alloc ?_ _) | (with_reducible refine OnlyB.drew ?_) | (with_reducible refine OnlyB.of_below ?_ (by assumption) ?_) | (with_reducible refine OnlyB.trans ?_ (by assumption)) | omega | (simp; done) | (simp; omega)))
    · rw [hs.out]; simp [go_sem, *]
    · simp [go_sem, *]

set_option maxHeartbeats 400000 in
theorem c_step_add (p : Nat) (al ah bl bh e0 : Int) (w : World) (hp : p < w.heap.size) (hc : w.cell? ⟨p, 0, none⟩ = some (.int .i64 e0)) (hf : w.frozen? ⟨p, 0, none⟩ = false) :
    Calls Try.prog 65 #[.pointer (some ⟨p, 0, none⟩), .agg #[.int .i64 al, .int .i64 ah], .agg #[.int .i64 bl, .int .i64 bh]] w (Took p (.agg #[.int .i64 (spAdd (al, ah) (bl, bh)).1, .int .i64 (spAdd (al, ah) (bl, bh)).2.1]) (fst2 e0 (spAdd (al, ah) (bl, bh)).2.2) w) := by
  have hn1 : ¬ w.heap.size = p := by omega
  have hn2 : ¬ p = w.heap.size := by omega
  have hn3 : ¬ w.heap.size + 1 = p := by omega
  have hn4 : ¬ p = w.heap.size + 1 := by omega
  have hn5 : ¬ w.heap.size + 1 + 1 = p := by omega
  have hn6 : ¬ p = w.heap.size + 1 + 1 := by omega
  have hp1 : p < w.heap.size + 1 := by omega
  have hp2 : p < w.heap.size + 1 + 1 := by omega
  have hp3 : p < w.heap.size + 1 + 1 + 1 := by omega
  go_enter Try.func65, Try.ntmps65
  go_wp2_with (first | (go_at_call 85; refine (c_spanAdd al ah bl bh _).mono ?_; rintro e w1 ⟨rfl, hb1⟩; (obtain ⟨hc1, hf1⟩ := bcell hb1; have hs1 := hb1.size; (try simp only [World.size_alloc, World.drew_heap, World.heap_drewN, World.size_setCell] at hs1); try (have z1_0 : w.heap.size < w1.heap.size := (by omega)); try (have z1_1 : w.heap.size + 1 < w1.heap.size := (by omega)); try (have z1_2 : w.heap.size + 1 + 1 < w1.heap.size := (by omega)); try (have z1_3 : w.heap.size + 1 + 1 + 1 < w1.heap.size := (by omega)); try (have z1_4 : w.heap.size + 1 + 1 + 1 + 1 < w1.heap.size := (by omega)); try (have z1_5 : w.heap.size + 1 + 1 + 1 + 1 + 1 < w1.heap.size := (by omega))); (have p1 : w1.cell? ⟨p, 0, none⟩ = some (.int .i64 e0) := by simp [go_sem, *]); (have pf1 : w1.frozen? ⟨p, 0, none⟩ = false := by simp [go_sem, *]); (have r0 : w1.cell? ⟨w.heap.size + 1 + 1, 0, none⟩ = some (.int .i64 0) := by simp [go_sem, *]); (have s0 : w1.frozen? ⟨w.heap.size + 1 + 1, 0, none⟩ = false := by simp [go_sem, *]); (have r1 : w1.cell? ⟨w.heap.size + 1 + 1, 1, none⟩ = some (.int .i64 0) := by simp [go_sem, *]); (have s1 : w1.frozen? ⟨w.heap.size + 1 + 1, 1, none⟩ = false := by simp [go_sem, *]); clear hc1 hf1) | (go_at_call 120; refine (c_take6 p _ _ e0 _ _ (by omega) p1 pf1).mono ?_; rintro e w2 ⟨rfl, ho, hc2, hf2⟩; (have hs2 := ho.size); (have r0' : w2.cell? ⟨w.heap.size + 1 + 1, 0, none⟩ = some (.int .i64 0) := by rw [ho.cell (by omega) (by omega)]; exact r0); (have s0' : w2.frozen? ⟨w.heap.size + 1 + 1, 0, none⟩ = false := by rw [ho.frozen (by omega) (by omega)]; exact s0); (have r1' : w2.cell? ⟨w.heap.size + 1 + 1, 1, none⟩ = some (.int .i64 0) := by rw [ho.cell (by omega) (by omega)]; exact r1); (have s1' : w2.frozen? ⟨w.heap.size + 1 + 1, 1, none⟩ = false := by rw [ho.frozen (by omega) (by omega)]; exact s1)))
  refine bodyPost_ret (v := .agg #[.int .i64 (spAdd (al, ah) (bl, bh)).1, .int .i64 (spAdd (al, ah) (bl, bh)).2.1]) (by simp [results, Try.results65, go_sem, *]) rfl ⟨rfl, ?_, ?_, ?_⟩
  · have hq : OnlyB p w w1 := by (repeat' (first | (with_reducible exact OnlyB.refl _ _) | assumption | (with_reducible refine OnlyB.set ?_ _ _ ?_) | (with_reducible refine OnlyB.alloc ?_ _) | (with_reducible refine OnlyB.drew ?_) | (with_reducible refine OnlyB.of_below ?_ (by assumption) ?_) | (with_reducible refine OnlyB.trans ?_ (by assumption)) | omega | (simp; done) | (simp; omega)))
    have hq2 : OnlyB p w w2 := hq.trans ho
    (repeat' (first | (with_reducible exact OnlyB.refl _ _) | assumption | (with_reducible refine OnlyB.set ?_ _ _ ?_) | (with_reducible refine OnlyB.alloc ?_ _) | (with_reducible refine OnlyB.drew ?_) | (with_reducible refine OnlyB.of_below ?_ (by assumption) ?_) | (with_reducible refine OnlyB.trans ?_ (by assumption)) | omega | (simp; done) | (simp; omega)))
  · simp [go_sem, *]
  · simp [go_sem, *]

set_option maxHeartbeats 400000 in
theorem c_step_sub (p : Nat) (al ah bl bh e0 : Int) (w : World) (hp : p < w.heap.size) (hc : w.cell? ⟨p, 0, none⟩ = some (.int .i64 e0)) (hf : w.frozen? ⟨p, 0, none⟩ = false) :
    Calls Try.prog 66 #[.pointer (some ⟨p, 0, none⟩), .agg #[.int .i64 al, .int .i64 ah], .agg #[.int .i64 bl, .int .i64 bh]] w (Took p (.agg #[.int .i64 (spSub (al, ah) (bl, bh)).1, .int .i64 (spSub (al, ah) (bl, bh)).2.1]) (fst2 e0 (spSub (al, ah) (bl, bh)).2.2) w) := by
  have hn1 : ¬ w.heap.size = p := by omega
  have hn2 : ¬ p = w.heap.size := by omega
  have hn3 : ¬ w.heap.size + 1 = p := by omega
  have hn4 : ¬ p = w.heap.size + 1 := by omega
  have hn5 : ¬ w.heap.size + 1 + 1 = p := by omega
  have hn6 : ¬ p = w.heap.size + 1 + 1 := by omega
  have hp1 : p < w.heap.size + 1 := by omega
  have hp2 : p < w.heap.size + 1 + 1 := by omega
  have hp3 : p < w.heap.size + 1 + 1 + 1 := by omega
  go_enter Try.func66, Try.ntmps66
  go_wp2_with (first | (go_at_call 87; refine (c_spanSub al ah bl bh _).mono ?_; rintro e w1 ⟨rfl, hb1⟩; (obtain ⟨hc1, hf1⟩ := bcell hb1; have hs1 := hb1.size; (try simp only [World.size_alloc, World.drew_heap, World.heap_drewN, World.size_setCell] at hs1); try (have z1_0 : w.heap.size < w1.heap.size := (by omega)); try (have z1_1 : w.heap.size + 1 < w1.heap.size := (by omega)); try (have z1_2 : w.heap.size + 1 + 1 < w1.heap.size := (by omega)); try (have z1_3 : w.heap.size + 1 + 1 + 1 < w1.heap.size := (by omega)); try (have z1_4 : w.heap.size + 1 + 1 + 1 + 1 < w1.heap.size := (by omega)); try (have z1_5 : w.heap.size + 1 + 1 + 1 + 1 + 1 < w1.heap.size := (by omega))); (have p1 : w1.cell? ⟨p, 0, none⟩ = some (.int .i64 e0) := by simp [go_sem, *]); (have pf1 : w1.frozen? ⟨p, 0, none⟩ = false := by simp [go_sem, *]); (have r0 : w1.cell? ⟨w.heap.size + 1 + 1, 0, none⟩ = some (.int .i64 0) := by simp [go_sem, *]); (have s0 : w1.frozen? ⟨w.heap.size + 1 + 1, 0, none⟩ = false := by simp [go_sem, *]); (have r1 : w1.cell? ⟨w.heap.size + 1 + 1, 1, none⟩ = some (.int .i64 0) := by simp [go_sem, *]); (have s1 : w1.frozen? ⟨w.heap.size + 1 + 1, 1, none⟩ = false := by simp [go_sem, *]); clear hc1 hf1) | (go_at_call 120; refine (c_take6 p _ _ e0 _ _ (by omega) p1 pf1).mono ?_; rintro e w2 ⟨rfl, ho, hc2, hf2⟩; (have hs2 := ho.size); (have r0' : w2.cell? ⟨w.heap.size + 1 + 1, 0, none⟩ = some (.int .i64 0) := by rw [ho.cell (by omega) (by omega)]; exact r0); (have s0' : w2.frozen? ⟨w.heap.size + 1 + 1, 0, none⟩ = false := by rw [ho.frozen (by omega) (by omega)]; exact s0); (have r1' : w2.cell? ⟨w.heap.size + 1 + 1, 1, none⟩ = some (.int .i64 0) := by rw [ho.cell (by omega) (by omega)]; exact r1); (have s1' : w2.frozen? ⟨w.heap.size + 1 + 1, 1, none⟩ = false := by rw [ho.frozen (by omega) (by omega)]; exact s1)))
  refine bodyPost_ret (v := .agg #[.int .i64 (spSub (al, ah) (bl, bh)).1, .int .i64 (spSub (al, ah) (bl, bh)).2.1]) (by simp [results, Try.results66, go_sem, *]) rfl ⟨rfl, ?_, ?_, ?_⟩
  · have hq : OnlyB p w w1 := by (repeat' (first | (with_reducible exact OnlyB.refl _ _) | assumption | (with_reducible refine OnlyB.set ?_ _ _ ?_) | (with_reducible refine OnlyB.alloc ?_ _) | (with_reducible refine OnlyB.drew ?_) | (with_reducible refine OnlyB.of_below ?_ (by assumption) ?_) | (with_reducible refine OnlyB.trans ?_ (by assumption)) | omega | (simp; done) | (simp; omega)))
    have hq2 : OnlyB p w w2 := hq.trans ho
    (repeat' (first | (with_reducible exact OnlyB.refl _ _) | assumption | (with_reducible refine OnlyB.set ?_ _ _ ?_) | (with_reducible refine OnlyB.alloc ?_ _) | (with_reducible refine OnlyB.drew ?_) | (with_reducible refine OnlyB.of_below ?_ (by assumption) ?_) | (with_reducible refine OnlyB.trans ?_ (by assumption)) | omega | (simp; done) | (simp; omega)))
  · simp [go_sem, *]
  · simp [go_sem, *]

set_option maxHeartbeats 400000 in
theorem c_step_mul (p : Nat) (al ah bl bh e0 : Int) (w : World) (hp : p < w.heap.size) (hc : w.cell? ⟨p, 0, none⟩ = some (.int .i64 e0)) (hf : w.frozen? ⟨p, 0, none⟩ = false) :
    Calls Try.prog 68 #[.pointer (some ⟨p, 0, none⟩), .agg #[.int .i64 al, .int .i64 ah], .agg #[.int .i64 bl, .int .i64 bh]] w (Took p (.agg #[.int .i64 (spMul (al, ah) (bl, bh)).1, .int .i64 (spMul (al, ah) (bl, bh)).2.1]) (fst2 e0 (spMul (al, ah) (bl, bh)).2.2) w) := by
  have hn1 : ¬ w.heap.size = p := by omega
  have hn2 : ¬ p = w.heap.size := by omega
  have hn3 : ¬ w.heap.size + 1 = p := by omega
  have hn4 : ¬ p = w.heap.size + 1 := by omega
  have hn5 : ¬ w.heap.size + 1 + 1 = p := by omega
  have hn6 : ¬ p = w.heap.size + 1 + 1 := by omega
  have hp1 : p < w.heap.size + 1 := by omega
  have hp2 : p < w.heap.size + 1 + 1 := by omega
  have hp3 : p < w.heap.size + 1 + 1 + 1 := by omega
  go_enter Try.func68, Try.ntmps68
  go_wp2_with (first | (go_at_call 46; refine (c_spanMul al ah bl bh _).mono ?_; rintro e w1 ⟨rfl, hb1⟩; (obtain ⟨hc1, hf1⟩ := bcell hb1; have hs1 := hb1.size; (try simp only [World.size_alloc, World.drew_heap, World.heap_drewN, World.size_setCell] at hs1); try (have z1_0 : w.heap.size < w1.heap.size := (by omega)); try (have z1_1 : w.heap.size + 1 < w1.heap.size := (by omega)); try (have z1_2 : w.heap.size + 1 + 1 < w1.heap.size := (by omega)); try (have z1_3 : w.heap.size + 1 + 1 + 1 < w1.heap.size := (by omega)); try (have z1_4 : w.heap.size + 1 + 1 + 1 + 1 < w1.heap.size := (by omega)); try (have z1_5 : w.heap.size + 1 + 1 + 1 + 1 + 1 < w1.heap.size := (by omega))); (have p1 : w1.cell? ⟨p, 0, none⟩ = some (.int .i64 e0) := by simp [go_sem, *]); (have pf1 : w1.frozen? ⟨p, 0, none⟩ = false := by simp [go_sem, *]); (have r0 : w1.cell? ⟨w.heap.size + 1 + 1, 0, none⟩ = some (.int .i64 0) := by simp [go_sem, *]); (have s0 : w1.frozen? ⟨w.heap.size + 1 + 1, 0, none⟩ = false := by simp [go_sem, *]); (have r1 : w1.cell? ⟨w.heap.size + 1 + 1, 1, none⟩ = some (.int .i64 0) := by simp [go_sem, *]); (have s1 : w1.frozen? ⟨w.heap.size + 1 + 1, 1, none⟩ = false := by simp [go_sem, *]); clear hc1 hf1) | (go_at_call 120; refine (c_take6 p _ _ e0 _ _ (by omega) p1 pf1).mono ?_; rintro e w2 ⟨rfl, ho, hc2, hf2⟩; (have hs2 := ho.size); (have r0' : w2.cell? ⟨w.heap.size + 1 + 1, 0, none⟩ = some (.int .i64 0) := by rw [ho.cell (by omega) (by omega)]; exact r0); (have s0' : w2.frozen? ⟨w.heap.size + 1 + 1, 0, none⟩ = false := by rw [ho.frozen (by omega) (by omega)]; exact s0); (have r1' : w2.cell? ⟨w.heap.size + 1 + 1, 1, none⟩ = some (.int .i64 0) := by rw [ho.cell (by omega) (by omega)]; exact r1); (have s1' : w2.frozen? ⟨w.heap.size + 1 + 1, 1, none⟩ = false := by rw [ho.frozen (by omega) (by omega)]; exact s1)))
  refine bodyPost_ret (v := .agg #[.int .i64 (spMul (al, ah) (bl, bh)).1, .int .i64 (spMul (al, ah) (bl, bh)).2.1]) (by simp [results, Try.results68, go_sem, *]) rfl ⟨rfl, ?_, ?_, ?_⟩
  · have hq : OnlyB p w w1 := by (repeat' (first | (with_reducible exact OnlyB.refl _ _) | assumption | (with_reducible refine OnlyB.set ?_ _ _ ?_) | (with_reducible refine OnlyB.alloc ?_ _) | (with_reducible refine OnlyB.drew ?_) | (with_reducible refine OnlyB.of_below ?_ (by assumption) ?_) | (with_reducible refine OnlyB.trans ?_ (by assumption)) | omega | (simp; done) | (simp; omega)))
    have hq2 : OnlyB p w w2 := hq.trans ho
    (repeat' (first | (with_reducible exact OnlyB.refl _ _) | assumption | (with_reducible refine OnlyB.set ?_ _ _ ?_) | (with_reducible refine OnlyB.alloc ?_ _) | (with_reducible refine OnlyB.drew ?_) | (with_reducible refine OnlyB.of_below ?_ (by assumption) ?_) | (with_reducible refine OnlyB.trans ?_ (by assumption)) | omega | (simp; done) | (simp; omega)))
  · simp [go_sem, *]
  · simp [go_sem, *]

set_option maxHeartbeats 400000 in
theorem c_step_div (p : Nat) (al ah bl bh e0 : Int) (w : World) (hp : p < w.heap.size) (hc : w.cell? ⟨p, 0, none⟩ = some (.int .i64 e0)) (hf : w.frozen? ⟨p, 0, none⟩ = false) :
    Calls Try.prog 71 #[.pointer (some ⟨p, 0, none⟩), .agg #[.int .i64 al, .int .i64 ah], .agg #[.int .i64 bl, .int .i64 bh]] w (Took p (.agg #[.int .i64 (spDiv (al, ah) (bl, bh)).1, .int .i64 (spDiv (al, ah) (bl, bh)).2.1]) (fst2 e0 (spDiv (al, ah) (bl, bh)).2.2) w) := by
  have hn1 : ¬ w.heap.size = p := by omega
  have hn2 : ¬ p = w.heap.size := by omega
  have hn3 : ¬ w.heap.size + 1 = p := by omega
  have hn4 : ¬ p = w.heap.size + 1 := by omega
  have hn5 : ¬ w.heap.size + 1 + 1 = p := by omega
  have hn6 : ¬ p = w.heap.size + 1 + 1 := by omega
  have hp1 : p < w.heap.size + 1 := by omega
  have hp2 : p < w.heap.size + 1 + 1 := by omega
  have hp3 : p < w.heap.size + 1 + 1 + 1 := by omega
  go_enter Try.func71, Try.ntmps71
  go_wp2_with (first | (go_at_call 105; refine (c_spanDiv al ah bl bh _).mono ?_; rintro e w1 ⟨rfl, hb1⟩; (obtain ⟨hc1, hf1⟩ := bcell hb1; have hs1 := hb1.size; (try simp only [World.size_alloc, World.drew_heap, World.heap_drewN, World.size_setCell] at hs1); try (have z1_0 : w.heap.size < w1.heap.size := (by omega)); try (have z1_1 : w.heap.size + 1 < w1.heap.size := (by omega)); try (have z1_2 : w.heap.size + 1 + 1 < w1.heap.size := (by omega)); try (have z1_3 : w.heap.size + 1 + 1 + 1 < w1.heap.size := (by omega)); try (have z1_4 : w.heap.size + 1 + 1 + 1 + 1 < w1.heap.size := (by omega)); try (have z1_5 : w.heap.size + 1 + 1 + 1 + 1 + 1 < w1.heap.size := (by omega))); (have p1 : w1.cell? ⟨p, 0, none⟩ = some (.int .i64 e0) := by simp [go_sem, *]); (have pf1 : w1.frozen? ⟨p, 0, none⟩ = false := by simp [go_sem, *]); (have r0 : w1.cell? ⟨w.heap.size + 1 + 1, 0, none⟩ = some (.int .i64 0) := by simp [go_sem, *]); (have s0 : w1.frozen? ⟨w.heap.size + 1 + 1, 0, none⟩ = false := by simp [go_sem, *]); (have r1 : w1.cell? ⟨w.heap.size + 1 + 1, 1, none⟩ = some (.int .i64 0) := by simp [go_sem, *]); (have s1 : w1.frozen? ⟨w.heap.size + 1 + 1, 1, none⟩ = false := by simp [go_sem, *]); clear hc1 hf1) | (go_at_call 120; refine (c_take6 p _ _ e0 _ _ (by omega) p1 pf1).mono ?_; rintro e w2 ⟨rfl, ho, hc2, hf2⟩; (have hs2 := ho.size); (have r0' : w2.cell? ⟨w.heap.size + 1 + 1, 0, none⟩ = some (.int .i64 0) := by rw [ho.cell (by omega) (by omega)]; exact r0); (have s0' : w2.frozen? ⟨w.heap.size + 1 + 1, 0, none⟩ = false := by rw [ho.frozen (by omega) (by omega)]; exact s0); (have r1' : w2.cell? ⟨w.heap.size + 1 + 1, 1, none⟩ = some (.int .i64 0) := by rw [ho.cell (by omega) (by omega)]; exact r1); (have s1' : w2.frozen? ⟨w.heap.size + 1 + 1, 1, none⟩ = false := by rw [ho.frozen (by omega) (by omega)]; exact s1)))
  refine bodyPost_ret (v := .agg #[.int .i64 (spDiv (al, ah) (bl, bh)).1, .int .i64 (spDiv (al, ah) (bl, bh)).2.1]) (by simp [results, Try.results71, go_sem, *]) rfl ⟨rfl, ?_, ?_, ?_⟩
  · have hq : OnlyB p w w1 := by (repeat' (first | (with_reducible exact OnlyB.refl _ _) | assumption | (with_reducible refine OnlyB.set ?_ _ _ ?_) | (with_reducible refine OnlyB.alloc ?_ _) | (with_reducible refine OnlyB.drew ?_) | (with_reducible refine OnlyB.of_below ?_ (by assumption) ?_) | (with_reducible refine OnlyB.trans ?_ (by assumption)) | omega | (simp; done) | (simp; omega)))
    have hq2 : OnlyB p w w2 := hq.trans ho
    (repeat' (first | (with_reducible exact OnlyB.refl _ _) | assumption | (with_reducible refine OnlyB.set ?_ _ _ ?_) | (with_reducible refine OnlyB.alloc ?_ _) | (with_reducible refine OnlyB.drew ?_) | (with_reducible refine OnlyB.of_below ?_ (by assumption) ?_) | (with_reducible refine OnlyB.trans ?_ (by assumption)) | omega | (simp; done) | (simp; omega)))
  · simp [go_sem, *]
  · simp [go_sem, *]

set_option maxHeartbeats 400000 in
theorem c_step_neg (p : Nat) (al ah bl bh e0 : Int) (w : World) (hp : p < w.heap.size) (hc : w.cell? ⟨p, 0, none⟩ = some (.int .i64 e0)) (hf : w.frozen? ⟨p, 0, none⟩ = false) :
    Calls Try.prog 74 #[.pointer (some ⟨p, 0, none⟩), .agg #[.int .i64 al, .int .i64 ah], .agg #[.int .i64 bl, .int .i64 bh]] w (Took p (.agg #[.int .i64 (spNeg (al, ah)).1, .int .i64 (spNeg (al, ah)).2.1]) (fst2 e0 (spNeg (al, ah)).2.2) w) := by
  have hn1 : ¬ w.heap.size = p := by omega
  have hn2 : ¬ p = w.heap.size := by omega
  have hn3 : ¬ w.heap.size + 1 = p := by omega
  have hn4 : ¬ p = w.heap.size + 1 := by omega
  have hn5 : ¬ w.heap.size + 1 + 1 = p := by omega
  have hn6 : ¬ p = w.heap.size + 1 + 1 := by omega
  have hp1 : p < w.heap.size + 1 := by omega
  have hp2 : p < w.heap.size + 1 + 1 := by omega
  have hp3 : p < w.heap.size + 1 + 1 + 1 := by omega
  go_enter Try.func74, Try.ntmps74
  go_wp2_with (first | (go_at_call 122; refine (c_spanNeg al ah _).mono ?_; rintro e w1 ⟨rfl, hb1⟩; (obtain ⟨hc1, hf1⟩ := bcell hb1; have hs1 := hb1.size; (try simp only [World.size_alloc, World.drew_heap, World.heap_drewN, World.size_setCell] at hs1); try (have z1_0 : w.heap.size < w1.heap.size := (by omega)); try (have z1_1 : w.heap.size + 1 < w1.heap.size := (by omega)); try (have z1_2 : w.heap.size + 1 + 1 < w1.heap.size := (by omega)); try (have z1_3 : w.heap.size + 1 + 1 + 1 < w1.heap.size := (by omega)); try (have z1_4 : w.heap.size + 1 + 1 + 1 + 1 < w1.heap.size := (by omega)); try (have z1_5 : w.heap.size + 1 + 1 + 1 + 1 + 1 < w1.heap.size := (by omega))); (have p1 : w1.cell? ⟨p, 0, none⟩ = some (.int .i64 e0) := by simp [go_sem, *]); (have pf1 : w1.frozen? ⟨p, 0, none⟩ = false := by simp [go_sem, *]); (have r0 : w1.cell? ⟨w.heap.size + 1 + 1, 0, none⟩ = some (.int .i64 0) := by simp [go_sem, *]); (have s0 : w1.frozen? ⟨w.heap.size + 1 + 1, 0, none⟩ = false := by simp [go_sem, *]); (have r1 : w1.cell? ⟨w.heap.size + 1 + 1, 1, none⟩ = some (.int .i64 0) := by simp [go_sem, *]); (have s1 : w1.frozen? ⟨w.heap.size + 1 + 1, 1, none⟩ = false := by simp [go_sem, *]); clear hc1 hf1) | (go_at_call 120; refine (c_take6 p _ _ e0 _ _ (by omega) p1 pf1).mono ?_; rintro e w2 ⟨rfl, ho, hc2, hf2⟩; (have hs2 := ho.size); (have r0' : w2.cell? ⟨w.heap.size + 1 + 1, 0, none⟩ = some (.int .i64 0) := by rw [ho.cell (by omega) (by omega)]; exact r0); (have s0' : w2.frozen? ⟨w.heap.size + 1 + 1, 0, none⟩ = false := by rw [ho.frozen (by omega) (by omega)]; exact s0); (have r1' : w2.cell? ⟨w.heap.size + 1 + 1, 1, none⟩ = some (.int .i64 0) := by rw [ho.cell (by omega) (by omega)]; exact r1); (have s1' : w2.frozen? ⟨w.heap.size + 1 + 1, 1, none⟩ = false := by rw [ho.frozen (by omega) (by omega)]; exact s1)))
  refine bodyPost_ret (v := .agg #[.int .i64 (spNeg (al, ah)).1, .int .i64 (spNeg (al, ah)).2.1]) (by simp [results, Try.results74, go_sem, *]) rfl ⟨rfl, ?_, ?_, ?_⟩
  · have hq : OnlyB p w w1 := by (repeat' (first | (with_reducible exact OnlyB.refl _ _) | assumption | (with_reducible refine OnlyB.set ?_ _ _ ?_) | (with_reducible refine OnlyB.alloc ?_ _) | (with_reducible refine OnlyB.drew ?_) | (with_reducible refine OnlyB.of_below ?_ (by assumption) ?_) | (with_reducible refine OnlyB.trans ?_ (by assumption)) | omega | (simp; done) | (simp; omega)))
    have hq2 : OnlyB p w w2 := hq.trans ho
    (repeat' (first | (with_reducible exact OnlyB.refl _ _) | assumption | (with_reducible refine OnlyB.set ?_ _ _ ?_) | (with_reducible refine OnlyB.alloc ?_ _) | (with_reducible refine OnlyB.drew ?_) | (with_reducible refine OnlyB.of_below ?_ (by assumption) ?_) | (with_reducible refine OnlyB.trans ?_ (by assumption)) | omega | (simp; done) | (simp; omega)))
  · simp [go_sem, *]
  · simp [go_sem, *]

end Go.Proofs.Ytpdaigenffecmaa

namespace Go.Proofs.Ytpdaigenffecmaa
open Go.RowKit Go.Shelf

/-- Six numbers by their places. -/
def six (a b c d e f : Int) (j : Nat) : Int := if j = 0 then a else if j = 1 then b else if j = 2 then c else if j = 3 then d else if j = 4 then e else f
/-- Block b holds six numbers. -/
def Tab6 (w : World) (b : Nat) (f : Nat → Int) : Prop := ∀ j, j < 6 → w.cell? ⟨b, j, none⟩ = some (.int .i64 (f j))
def Soft6 (w : World) (b : Nat) : Prop := ∀ j, w.frozen? ⟨b, j, none⟩ = false
theorem Tab6.set {w : World} {b : Nat} {f : Nat → Int} (h : Tab6 w b f) (k : Nat) (x : Int) (hk : k < 6) : Tab6 (w.setCell ⟨b, k, none⟩ (.int .i64 x)) b (fun j => if j = k then x else f j) := fun j hj => by
  by_cases e : j = k
  · subst e; rw [World.cell?_setCell_same _ _ _ (h j hj)]; simp
  · rw [World.cell?_setCell_other _ _ _ _ (by intro h2; exact e (by injection h2 with _ h3 _; exact h3.symm))]
    simp only [if_neg e]; exact h j hj
theorem Tab6.other {w : World} {b : Nat} {f : Nat → Int} (h : Tab6 w b f) (p : Addr) (v : Value) (hp : p.block ≠ b) : Tab6 (w.setCell p v) b f := fun j hj => by
  rw [World.cell?_setCell_far _ _ _ _ hp]; exact h j hj
theorem Tab6.only {w w' : World} {b p : Nat} {f : Nat → Int} (h : Tab6 w b f) (ho : OnlyB p w w') (hb : b < w.heap.size) (hp : b ≠ p) : Tab6 w' b f := fun j hj => by
  rw [ho.cell hb hp]; exact h j hj
theorem Tab6.congr {w : World} {b : Nat} {f g : Nat → Int} (h : Tab6 w b f) (hf : ∀ j, j < 6 → f j = g j) : Tab6 w b g := fun j hj => by rw [← hf j hj]; exact h j hj
theorem Soft6.set {w : World} {b : Nat} (h : Soft6 w b) (p : Addr) (v : Value) : Soft6 (w.setCell p v) b := fun j => by rw [World.frozen?_setCell]; exact h j
theorem Soft6.only {w w' : World} {b p : Nat} (h : Soft6 w b) (ho : OnlyB p w w') (hb : b < w.heap.size) (hp : b ≠ p) : Soft6 w' b := fun j => by
  rw [ho.frozen hb hp]; exact h j

/-- The first error after k components. -/
def errTo (e0 a b c : Int) (k : Nat) : Int := if k = 0 then e0 else if k = 1 then fst2 e0 a else if k = 2 then fst2 (fst2 e0 a) b else fst2 (fst2 (fst2 e0 a) b) c
/-- A table of results filled as far as k components. -/
def to6 (g : Nat → Int) (k : Nat) : Nat → Int := fun j => if j < 2 * k then g j else 0

end Go.Proofs.Ytpdaigenffecmaa
