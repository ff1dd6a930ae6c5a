/-
  The statements' helpers: point, of, is, fails, says, refuses. The values of the chapter's examples. The values of VecKnown's calls.
-/
import Derived.Test.YtpdaigenffecmaaM01
import Derived.Test.YtpdaigenffecmaaM30
set_option linter.all false
namespace Go.Proofs.Ytpdaigenffecmaa
open Go.RowKit Go.Shelf

theorem c_point (n N : Int) (h : n * 4294967296 = N) (h1 : -9223372036854775808 ≤ N) (h2 : N ≤ 9223372036854775807) (w : World) :
    Calls Try.prog 37 #[.int .i64 n] w fun e w' => e = .returned (.agg #[.int .i64 N, .int .i64 N]) ∧ Below w.heap.size w w' := by
  have hw : wrap64 (n * 4294967296) = N := by rw [h]; exact w64_id h1 h2
  clear h h1 h2
  go_enter Try.func37, Try.ntmps37
  go_wp2_with (fail)
  refine bodyPost_ret (v := .agg #[.int .i64 N, .int .i64 N]) (by simp [results, Try.results37, go_sem, *]) rfl ⟨rfl, by (repeat' (first | (with_reducible exact Below.refl _ _) | (with_reducible refine Below.setCell ?_ ?_ _) | (with_reducible refine Below.alloc ?_ ?_ _) | (with_reducible refine Below.drew ?_) | (with_reducible refine below_drewN ?_ _) | (with_reducible assumption) | (with_reducible refine Below.trans ?_ (Below.mono (by with_reducible assumption) ?_)) | omega | (simp; done) | (simp; omega) | (simp [World.setCell]; omega)))⟩

theorem c_of (x y z X Y Z : Int) (hx : x * 4294967296 = X) (hy : y * 4294967296 = Y) (hz : z * 4294967296 = Z)
    (h : -9223372036854775808 ≤ X ∧ X ≤ 9223372036854775807 ∧ -9223372036854775808 ≤ Y ∧ Y ≤ 9223372036854775807 ∧ -9223372036854775808 ≤ Z ∧ Z ≤ 9223372036854775807) (w : World) :
    Calls Try.prog 35 #[.int .i64 x, .int .i64 y, .int .i64 z] w fun e w' => e = .returned (.agg #[.int .i64 X, .int .i64 X, .int .i64 Y, .int .i64 Y, .int .i64 Z, .int .i64 Z]) ∧ Below w.heap.size w w' := by
  obtain ⟨h1, h2, h3, h4, h5, h6⟩ := h
  have cx := fun w => c_point x X hx h1 h2 w
  have cy := fun w => c_point y Y hy h3 h4 w
  have cz := fun w => c_point z Z hz h5 h6 w
  have HX := Lib.hid cx; have HY := Lib.hid cy; have HZ := Lib.hid cz
  clear hx hy hz h1 h2 h3 h4 h5 h6 cx cy cz
  obtain ⟨W, hW⟩ : ∃ W, W = w.alloc (Obj.cells #[Value.int IntKind.i64 0, Value.int IntKind.i64 0, Value.int IntKind.i64 0, Value.int IntKind.i64 0, Value.int IntKind.i64 0, Value.int IntKind.i64 0] 25) := ⟨_, rfl⟩
  have hsW : w.heap.size < W.heap.size := by rw [hW]; simp
  have hB : Hid (Below w.heap.size w W) := by rw [hW]; unfold Hid; (repeat' (first | (with_reducible exact Below.refl _ _) | (with_reducible refine Below.setCell ?_ ?_ _) | (with_reducible refine Below.alloc ?_ ?_ _) | (with_reducible refine Below.drew ?_) | (with_reducible refine below_drewN ?_ _) | (with_reducible assumption) | (with_reducible refine Below.trans ?_ (Below.mono (by with_reducible assumption) ?_)) | omega | (simp; done) | (simp; omega) | (simp [World.setCell]; omega)))
  have z0 : W.cell? ⟨w.heap.size, 0, none⟩ = some (.int .i64 0) := by rw [hW]; simp [go_sem]
  have z1 : W.cell? ⟨w.heap.size, 1, none⟩ = some (.int .i64 0) := by rw [hW]; simp [go_sem]
  have z2 : W.cell? ⟨w.heap.size, 2, none⟩ = some (.int .i64 0) := by rw [hW]; simp [go_sem]
  have z3 : W.cell? ⟨w.heap.size, 3, none⟩ = some (.int .i64 0) := by rw [hW]; simp [go_sem]
  have z4 : W.cell? ⟨w.heap.size, 4, none⟩ = some (.int .i64 0) := by rw [hW]; simp [go_sem]
  have z5 : W.cell? ⟨w.heap.size, 5, none⟩ = some (.int .i64 0) := by rw [hW]; simp [go_sem]
  have s0 : W.frozen? ⟨w.heap.size, 0, none⟩ = false := by rw [hW]; simp [go_sem]
  have s1 : W.frozen? ⟨w.heap.size, 1, none⟩ = false := by rw [hW]; simp [go_sem]
  have s2 : W.frozen? ⟨w.heap.size, 2, none⟩ = false := by rw [hW]; simp [go_sem]
  have s3 : W.frozen? ⟨w.heap.size, 3, none⟩ = false := by rw [hW]; simp [go_sem]
  have s4 : W.frozen? ⟨w.heap.size, 4, none⟩ = false := by rw [hW]; simp [go_sem]
  have s5 : W.frozen? ⟨w.heap.size, 5, none⟩ = false := by rw [hW]; simp [go_sem]
  go_enter Try.func35, Try.ntmps35
  go_wp2_with (fail)
  rw [← hW]
  clear hW
  go_at_call 37
  refine Calls.mono (HX.out _) ?_
  rintro e w1 ⟨rfl, hb1⟩
  have hs1 := hb1.size
  (replace z0 := kp hb1 (by omega) z0); (replace z1 := kp hb1 (by omega) z1); (replace z2 := kp hb1 (by omega) z2); (replace z3 := kp hb1 (by omega) z3); (replace z4 := kp hb1 (by omega) z4); (replace z5 := kp hb1 (by omega) z5); (replace s0 := kf hb1 (by omega) s0); (replace s1 := kf hb1 (by omega) s1); (replace s2 := kf hb1 (by omega) s2); (replace s3 := kf hb1 (by omega) s3); (replace s4 := kf hb1 (by omega) s4); (replace s5 := kf hb1 (by omega) s5)
  go_wp2_with (fail)
  go_at_call 37
  refine Calls.mono (HY.out _) ?_
  rintro e w2 ⟨rfl, hb2⟩
  have hs2 := hb2.size
  (replace z0 := kp hb2 (by omega) z0); (replace z1 := kp hb2 (by omega) z1); (replace z2 := kp hb2 (by omega) z2); (replace z3 := kp hb2 (by omega) z3); (replace z4 := kp hb2 (by omega) z4); (replace z5 := kp hb2 (by omega) z5); (replace s0 := kf hb2 (by omega) s0); (replace s1 := kf hb2 (by omega) s1); (replace s2 := kf hb2 (by omega) s2); (replace s3 := kf hb2 (by omega) s3); (replace s4 := kf hb2 (by omega) s4); (replace s5 := kf hb2 (by omega) s5)
  go_wp2_with (fail)
  go_at_call 37
  refine Calls.mono (HZ.out _) ?_
  rintro e w3 ⟨rfl, hb3⟩
  have hs3 := hb3.size
  (replace z0 := kp hb3 (by omega) z0); (replace z1 := kp hb3 (by omega) z1); (replace z2 := kp hb3 (by omega) z2); (replace z3 := kp hb3 (by omega) z3); (replace z4 := kp hb3 (by omega) z4); (replace z5 := kp hb3 (by omega) z5); (replace s0 := kf hb3 (by omega) s0); (replace s1 := kf hb3 (by omega) s1); (replace s2 := kf hb3 (by omega) s2); (replace s3 := kf hb3 (by omega) s3); (replace s4 := kf hb3 (by omega) s4); (replace s5 := kf hb3 (by omega) s5)
  go_wp2_with (fail)
  have HB := hB.out
  obtain ⟨F, hF⟩ : ∃ F, F = ((((((w3.setCell ⟨w.heap.size, 0, none⟩ (Value.int IntKind.i64 X)).setCell ⟨w.heap.size, 1, none⟩ (Value.int IntKind.i64 X)).setCell ⟨w.heap.size, 2, none⟩ (Value.int IntKind.i64 Y)).setCell ⟨w.heap.size, 3, none⟩ (Value.int IntKind.i64 Y)).setCell ⟨w.heap.size, 4, none⟩ (Value.int IntKind.i64 Z)).setCell ⟨w.heap.size, 5, none⟩ (Value.int IntKind.i64 Z)) := ⟨_, rfl⟩
  have g := st6 w3 (w.heap.size) (X) (X) (Y) (Y) (Z) (Z) z0 z1 z2 z3 z4 z5
  rw [← hF] at g
  have g0 : F.cell? ⟨w.heap.size, 0, none⟩ = some (.int .i64 (X)) := g 0 (by decide)
  have g1 : F.cell? ⟨w.heap.size, 1, none⟩ = some (.int .i64 (X)) := g 1 (by decide)
  have g2 : F.cell? ⟨w.heap.size, 2, none⟩ = some (.int .i64 (Y)) := g 2 (by decide)
  have g3 : F.cell? ⟨w.heap.size, 3, none⟩ = some (.int .i64 (Y)) := g 3 (by decide)
  have g4 : F.cell? ⟨w.heap.size, 4, none⟩ = some (.int .i64 (Z)) := g 4 (by decide)
  have g5 : F.cell? ⟨w.heap.size, 5, none⟩ = some (.int .i64 (Z)) := g 5 (by decide)
  clear g
  have hFB : Hid (Below w.heap.size w F) := by rw [hF]; unfold Hid; (repeat' (first | (with_reducible exact Below.refl _ _) | (with_reducible refine Below.setCell ?_ ?_ _) | (with_reducible refine Below.alloc ?_ ?_ _) | (with_reducible refine Below.drew ?_) | (with_reducible refine below_drewN ?_ _) | (with_reducible assumption) | (with_reducible refine Below.trans ?_ (Below.mono (by with_reducible assumption) ?_)) | omega | (simp; done) | (simp; omega) | (simp [World.setCell]; omega)))
  rw [← hF]
  clear hF
  refine bodyPost_ret (v := .agg #[.int .i64 X, .int .i64 X, .int .i64 Y, .int .i64 Y, .int .i64 Z, .int .i64 Z]) (by simp [results, Try.results35, go_sem, g0, g1, g2, g3, g4, g5]) rfl ⟨rfl, hFB.out⟩


theorem c_is (x0 x1 x2 x3 x4 x5 : Int) (w : World) :
    Calls Try.prog 33 #[.agg #[.int .i64 x0, .int .i64 x1, .int .i64 x2, .int .i64 x3, .int .i64 x4, .int .i64 x5]] w fun e w' => e = .returned (.func (.func 96) #[] #[.pointer (some ⟨w.heap.size, 0, none⟩)]) ∧ (w'.cell? ⟨w.heap.size, 0, none⟩ = some (.int .i64 x0) ∧ w'.cell? ⟨w.heap.size, 1, none⟩ = some (.int .i64 x1) ∧ w'.cell? ⟨w.heap.size, 2, none⟩ = some (.int .i64 x2) ∧ w'.cell? ⟨w.heap.size, 3, none⟩ = some (.int .i64 x3) ∧ w'.cell? ⟨w.heap.size, 4, none⟩ = some (.int .i64 x4) ∧ w'.cell? ⟨w.heap.size, 5, none⟩ = some (.int .i64 x5)) ∧ w.heap.size < w'.heap.size ∧ Below w.heap.size w w' := by
  go_enter Try.func33, Try.ntmps33
  go_wp2_with (fail)
  refine bodyPost_ret (v := .func (.func 96) #[] #[.pointer (some ⟨w.heap.size, 0, none⟩)]) (by simp [results, Try.results33, go_sem, *]) rfl ⟨rfl, by simp [go_sem], by simp, by (repeat' (first | (with_reducible exact Below.refl _ _) | (with_reducible refine Below.setCell ?_ ?_ _) | (with_reducible refine Below.alloc ?_ ?_ _) | (with_reducible refine Below.drew ?_) | (with_reducible refine below_drewN ?_ _) | (with_reducible assumption) | (with_reducible refine Below.trans ?_ (Below.mono (by with_reducible assumption) ?_)) | omega | (simp; done) | (simp; omega) | (simp [World.setCell]; omega)))⟩

theorem c_says (x0 x1 : Int) (w : World) :
    Calls Try.prog 39 #[.agg #[.int .i64 x0, .int .i64 x1]] w fun e w' => e = .returned (.func (.func 99) #[] #[.pointer (some ⟨w.heap.size, 0, none⟩)]) ∧ (w'.cell? ⟨w.heap.size, 0, none⟩ = some (.int .i64 x0) ∧ w'.cell? ⟨w.heap.size, 1, none⟩ = some (.int .i64 x1)) ∧ w.heap.size < w'.heap.size ∧ Below w.heap.size w w' := by
  go_enter Try.func39, Try.ntmps39
  go_wp2_with (fail)
  refine bodyPost_ret (v := .func (.func 99) #[] #[.pointer (some ⟨w.heap.size, 0, none⟩)]) (by simp [results, Try.results39, go_sem, *]) rfl ⟨rfl, by simp [go_sem], by simp, by (repeat' (first | (with_reducible exact Below.refl _ _) | (with_reducible refine Below.setCell ?_ ?_ _) | (with_reducible refine Below.alloc ?_ ?_ _) | (with_reducible refine Below.drew ?_) | (with_reducible refine below_drewN ?_ _) | (with_reducible assumption) | (with_reducible refine Below.trans ?_ (Below.mono (by with_reducible assumption) ?_)) | omega | (simp; done) | (simp; omega) | (simp [World.setCell]; omega)))⟩

theorem c_fails (x0 : Int) (w : World) :
    Calls Try.prog 34 #[.int .i64 x0] w fun e w' => e = .returned (.func (.func 97) #[] #[.pointer (some ⟨w.heap.size, 0, none⟩)]) ∧ (w'.cell? ⟨w.heap.size, 0, none⟩ = some (.int .i64 x0)) ∧ w.heap.size < w'.heap.size ∧ Below w.heap.size w w' := by
  go_enter Try.func34, Try.ntmps34
  go_wp2_with (fail)
  refine bodyPost_ret (v := .func (.func 97) #[] #[.pointer (some ⟨w.heap.size, 0, none⟩)]) (by simp [results, Try.results34, go_sem, *]) rfl ⟨rfl, by simp [go_sem], by simp, by (repeat' (first | (with_reducible exact Below.refl _ _) | (with_reducible refine Below.setCell ?_ ?_ _) | (with_reducible refine Below.alloc ?_ ?_ _) | (with_reducible refine Below.drew ?_) | (with_reducible refine below_drewN ?_ _) | (with_reducible assumption) | (with_reducible refine Below.trans ?_ (Below.mono (by with_reducible assumption) ?_)) | omega | (simp; done) | (simp; omega) | (simp [World.setCell]; omega)))⟩

theorem c_refuses (x0 : Int) (w : World) :
    Calls Try.prog 38 #[.int .i64 x0] w fun e w' => e = .returned (.func (.func 98) #[] #[.pointer (some ⟨w.heap.size, 0, none⟩)]) ∧ (w'.cell? ⟨w.heap.size, 0, none⟩ = some (.int .i64 x0)) ∧ w.heap.size < w'.heap.size ∧ Below w.heap.size w w' := by
  go_enter Try.func38, Try.ntmps38
  go_wp2_with (fail)
  refine bodyPost_ret (v := .func (.func 98) #[] #[.pointer (some ⟨w.heap.size, 0, none⟩)]) (by simp [results, Try.results38, go_sem, *]) rfl ⟨rfl, by simp [go_sem], by simp, by (repeat' (first | (with_reducible exact Below.refl _ _) | (with_reducible refine Below.setCell ?_ ?_ _) | (with_reducible refine Below.alloc ?_ ?_ _) | (with_reducible refine Below.drew ?_) | (with_reducible refine below_drewN ?_ _) | (with_reducible assumption) | (with_reducible refine Below.trans ?_ (Below.mono (by with_reducible assumption) ?_)) | omega | (simp; done) | (simp; omega) | (simp [World.setCell]; omega)))⟩

theorem c_is1 (q : Nat) (x0 x1 x2 x3 x4 x5 : Int) (w : World) (hq : q < w.heap.size) (h0 : w.cell? ⟨q, 0, none⟩ = some (.int .i64 x0)) (h1 : w.cell? ⟨q, 1, none⟩ = some (.int .i64 x1)) (h2 : w.cell? ⟨q, 2, none⟩ = some (.int .i64 x2)) (h3 : w.cell? ⟨q, 3, none⟩ = some (.int .i64 x3)) (h4 : w.cell? ⟨q, 4, none⟩ = some (.int .i64 x4)) (h5 : w.cell? ⟨q, 5, none⟩ = some (.int .i64 x5)) :
    Calls Try.prog 96 #[.agg #[.int .i64 x0, .int .i64 x1, .int .i64 x2, .int .i64 x3, .int .i64 x4, .int .i64 x5], .int .i64 0, .pointer (some ⟨q, 0, none⟩)] w fun e w' => e = .returned (.bool true) ∧ Below w.heap.size w w' := by
  have hE : ∀ w : World, (binOp .eql 25 (.agg #[.int .i64 x0, .int .i64 x1, .int .i64 x2, .int .i64 x3, .int .i64 x4, .int .i64 x5]) (.agg #[.int .i64 x0, .int .i64 x1, .int .i64 x2, .int .i64 x3, .int .i64 x4, .int .i64 x5])).run Try.prog w = .ok (.bool true) w := fun w => by rw [eql_vec]; simp
  go_enter Try.func96, Try.ntmps96
  go_wp2
  refine bodyPost_ret (v := .bool true) (by simp [results, Try.results96, go_sem, *]) rfl ⟨rfl, by (repeat' (first | (with_reducible exact Below.refl _ _) | (with_reducible refine Below.setCell ?_ ?_ _) | (with_reducible refine Below.alloc ?_ ?_ _) | (with_reducible refine Below.drew ?_) | (with_reducible refine below_drewN ?_ _) | (with_reducible assumption) | (with_reducible refine Below.trans ?_ (Below.mono (by with_reducible assumption) ?_)) | omega | (simp; done) | (simp; omega) | (simp [World.setCell]; omega)))⟩

theorem c_says1 (q : Nat) (x0 x1 y0 y1 : Int) (w : World) (hq : q < w.heap.size) (h0 : w.cell? ⟨q, 0, none⟩ = some (.int .i64 y0)) (h1 : w.cell? ⟨q, 1, none⟩ = some (.int .i64 y1)) (e0 : (x0 == y0) = true) (e1 : (x1 == y1) = true) :
    Calls Try.prog 99 #[.agg #[.int .i64 x0, .int .i64 x1], .int .i64 0, .pointer (some ⟨q, 0, none⟩)] w fun e w' => e = .returned (.bool true) ∧ Below w.heap.size w w' := by
  go_enter Try.func99, Try.ntmps99
  go_wp2
  refine bodyPost_ret (v := .bool true) (by simp [results, Try.results99, go_sem, *]) rfl ⟨rfl, by (repeat' (first | (with_reducible exact Below.refl _ _) | (with_reducible refine Below.setCell ?_ ?_ _) | (with_reducible refine Below.alloc ?_ ?_ _) | (with_reducible refine Below.drew ?_) | (with_reducible refine below_drewN ?_ _) | (with_reducible assumption) | (with_reducible refine Below.trans ?_ (Below.mono (by with_reducible assumption) ?_)) | omega | (simp; done) | (simp; omega) | (simp [World.setCell]; omega)))⟩

theorem c_fails1 (q : Nat) (x0 : Int) (w : World) (hq : q < w.heap.size) (h0 : w.cell? ⟨q, 0, none⟩ = some (.int .i64 x0)) :
    Calls Try.prog 97 #[.agg #[.int .i64 0, .int .i64 0, .int .i64 0, .int .i64 0, .int .i64 0, .int .i64 0], .int .i64 x0, .pointer (some ⟨q, 0, none⟩)] w fun e w' => e = .returned (.bool true) ∧ Below w.heap.size w w' := by
  have e0 : (x0 == x0) = true := by simp
  have hE : ∀ w : World, (binOp .eql 25 (.agg #[.int .i64 0, .int .i64 0, .int .i64 0, .int .i64 0, .int .i64 0, .int .i64 0]) (.agg #[.int .i64 0, .int .i64 0, .int .i64 0, .int .i64 0, .int .i64 0, .int .i64 0])).run Try.prog w = .ok (.bool true) w := fun w => by rw [eql_vec]; simp
  go_enter Try.func97, Try.ntmps97
  go_wp2
  refine bodyPost_ret (v := .bool true) (by simp [results, Try.results97, go_sem, *]) rfl ⟨rfl, by (repeat' (first | (with_reducible exact Below.refl _ _) | (with_reducible refine Below.setCell ?_ ?_ _) | (with_reducible refine Below.alloc ?_ ?_ _) | (with_reducible refine Below.drew ?_) | (with_reducible refine below_drewN ?_ _) | (with_reducible assumption) | (with_reducible refine Below.trans ?_ (Below.mono (by with_reducible assumption) ?_)) | omega | (simp; done) | (simp; omega) | (simp [World.setCell]; omega)))⟩

theorem c_refuses1 (q : Nat) (x0 : Int) (w : World) (hq : q < w.heap.size) (h0 : w.cell? ⟨q, 0, none⟩ = some (.int .i64 x0)) :
    Calls Try.prog 98 #[.agg #[.int .i64 0, .int .i64 0], .int .i64 x0, .pointer (some ⟨q, 0, none⟩)] w fun e w' => e = .returned (.bool true) ∧ Below w.heap.size w w' := by
  have e0 : (x0 == x0) = true := by simp
  go_enter Try.func98, Try.ntmps98
  go_wp2
  refine bodyPost_ret (v := .bool true) (by simp [results, Try.results98, go_sem, *]) rfl ⟨rfl, by (repeat' (first | (with_reducible exact Below.refl _ _) | (with_reducible refine Below.setCell ?_ ?_ _) | (with_reducible refine Below.alloc ?_ ?_ _) | (with_reducible refine Below.drew ?_) | (with_reducible refine below_drewN ?_ _) | (with_reducible assumption) | (with_reducible refine Below.trans ?_ (Below.mono (by with_reducible assumption) ?_)) | omega | (simp; done) | (simp; omega) | (simp [World.setCell]; omega)))⟩

end Go.Proofs.Ytpdaigenffecmaa

namespace Go.Proofs.Ytpdaigenffecmaa
open Go.RowKit Go.Shelf

theorem spSqrt_sq (S R : Nat) (h : S * 4294967296 = R * R) (hS : S ≤ 4503599627370496) (hR : R ≤ 4503599627370496) : spSqrt ((S : Int), (S : Int)) = ((R : Int), (R : Int), 0) := by
  have hi : isq (S * 4294967296) = R := isq_unique _ _ (by omega) (by rw [h]; exact Nat.mul_self_lt_mul_self (by omega))
  have hr : ∀ up, rt (S : Int) up = R := by
    intro up; unfold rt rtN
    simp only [Int.toNat_natCast]
    have hc : ¬ (up = true ∧ isq (S * 4294967296) * isq (S * 4294967296) ≠ S * 4294967296) := by rw [hi, h]; simp
    rw [if_neg hc, hi]; simp
  unfold spSqrt
  rw [if_pos (spChk_mk (by simp only; omega) (by simp only; omega) (by simp only; omega)), if_neg (by simp only; omega), hr, hr]
  unfold spTold; rw [if_neg (by omega)]
theorem norm_lit {E : Int} {a b c : Int × Int × Int} {S R : Int} (hs : sum3 a b c = (S, S, 0)) (hq : spSqrt (S, S) = (R, R, 0)) (he : sumE E a b c = 0) : normE E a b c = 0 ∧ norm3 a b c = (R, R, 0) := by
  unfold normE norm3
  rw [he, hs, show ivl (S, S, 0) = (S, S) from rfl, hq]; exact ⟨rfl, rfl⟩
theorem ev0 : vRes (errTo (chk3 (chk3 0 (4294967296) (4294967296) (8589934592) (8589934592) (12884901888) (12884901888) 3) (17179869184) (17179869184) (21474836480) (21474836480) (25769803776) (25769803776) 3) (spAdd ((4294967296), (4294967296)) ((17179869184), (17179869184))).2.2 (spAdd ((8589934592), (8589934592)) ((21474836480), (21474836480))).2.2 (spAdd ((12884901888), (12884901888)) ((25769803776), (25769803776))).2.2 3) (spAdd ((4294967296), (4294967296)) ((17179869184), (17179869184))) (spAdd ((8589934592), (8589934592)) ((21474836480), (21474836480))) (spAdd ((12884901888), (12884901888)) ((25769803776), (25769803776))) = .tuple #[.agg #[.int .i64 (21474836480), .int .i64 (21474836480), .int .i64 (30064771072), .int .i64 (30064771072), .int .i64 (38654705664), .int .i64 (38654705664)], .int .i64 0] := by
  kernel_rfl
theorem ev1 : vRes (errTo (chk3 (chk3 0 (4294967296) (4294967296) (8589934592) (8589934592) (12884901888) (12884901888) 3) (17179869184) (17179869184) (21474836480) (21474836480) (25769803776) (25769803776) 3) (spSub ((4294967296), (4294967296)) ((17179869184), (17179869184))).2.2 (spSub ((8589934592), (8589934592)) ((21474836480), (21474836480))).2.2 (spSub ((12884901888), (12884901888)) ((25769803776), (25769803776))).2.2 3) (spSub ((4294967296), (4294967296)) ((17179869184), (17179869184))) (spSub ((8589934592), (8589934592)) ((21474836480), (21474836480))) (spSub ((12884901888), (12884901888)) ((25769803776), (25769803776))) = .tuple #[.agg #[.int .i64 (-12884901888), .int .i64 (-12884901888), .int .i64 (-12884901888), .int .i64 (-12884901888), .int .i64 (-12884901888), .int .i64 (-12884901888)], .int .i64 0] := by
  kernel_rfl
theorem ev2 : vRes (errTo (chk3 0 (4294967296) (4294967296) (8589934592) (8589934592) (12884901888) (12884901888) 3) (spNeg ((4294967296), (4294967296))).2.2 (spNeg ((8589934592), (8589934592))).2.2 (spNeg ((12884901888), (12884901888))).2.2 3) (spNeg ((4294967296), (4294967296))) (spNeg ((8589934592), (8589934592))) (spNeg ((12884901888), (12884901888))) = .tuple #[.agg #[.int .i64 (-4294967296), .int .i64 (-4294967296), .int .i64 (-8589934592), .int .i64 (-8589934592), .int .i64 (-12884901888), .int .i64 (-12884901888)], .int .i64 0] := by
  kernel_rfl
theorem ev3 : vRes (errTo (chk3 (chk3 0 (4294967296) (4294967296) (8589934592) (8589934592) (12884901888) (12884901888) 3) (8589934592) (8589934592) (8589934592) (8589934592) (8589934592) (8589934592) 3) (spMul ((4294967296), (4294967296)) ((8589934592), (8589934592))).2.2 (spMul ((8589934592), (8589934592)) ((8589934592), (8589934592))).2.2 (spMul ((12884901888), (12884901888)) ((8589934592), (8589934592))).2.2 3) (spMul ((4294967296), (4294967296)) ((8589934592), (8589934592))) (spMul ((8589934592), (8589934592)) ((8589934592), (8589934592))) (spMul ((12884901888), (12884901888)) ((8589934592), (8589934592))) = .tuple #[.agg #[.int .i64 (8589934592), .int .i64 (8589934592), .int .i64 (17179869184), .int .i64 (17179869184), .int .i64 (25769803776), .int .i64 (25769803776)], .int .i64 0] := by
  kernel_rfl
theorem ev4 : iRes (sumE (chk3 (chk3 0 (4294967296) (4294967296) (8589934592) (8589934592) (12884901888) (12884901888) 3) (17179869184) (17179869184) (21474836480) (21474836480) (25769803776) (25769803776) 3) (spMul ((4294967296), (4294967296)) ((17179869184), (17179869184))) (spMul ((8589934592), (8589934592)) ((21474836480), (21474836480))) (spMul ((12884901888), (12884901888)) ((25769803776), (25769803776)))) (sum3 (spMul ((4294967296), (4294967296)) ((17179869184), (17179869184))) (spMul ((8589934592), (8589934592)) ((21474836480), (21474836480))) (spMul ((12884901888), (12884901888)) ((25769803776), (25769803776)))) = .tuple #[.agg #[.int .i64 (137438953472), .int .i64 (137438953472)], .int .i64 0] := by
  kernel_rfl
theorem ev5 : vRes (errTo (errTo (errTo (chk3 (chk3 0 (4294967296) (4294967296) (0) (0) (0) (0) 3) (0) (0) (4294967296) (4294967296) (0) (0) 3) (spMul ((0), (0)) ((0), (0))).2.2 (spMul ((0), (0)) ((0), (0))).2.2 (spMul ((4294967296), (4294967296)) ((4294967296), (4294967296))).2.2 3) (spMul ((0), (0)) ((4294967296), (4294967296))).2.2 (spMul ((4294967296), (4294967296)) ((0), (0))).2.2 (spMul ((0), (0)) ((0), (0))).2.2 3) (spSub (ivl (spMul ((0), (0)) ((0), (0)))) (ivl (spMul ((0), (0)) ((4294967296), (4294967296))))).2.2 (spSub (ivl (spMul ((0), (0)) ((0), (0)))) (ivl (spMul ((4294967296), (4294967296)) ((0), (0))))).2.2 (spSub (ivl (spMul ((4294967296), (4294967296)) ((4294967296), (4294967296)))) (ivl (spMul ((0), (0)) ((0), (0))))).2.2 3) (spSub (ivl (spMul ((0), (0)) ((0), (0)))) (ivl (spMul ((0), (0)) ((4294967296), (4294967296))))) (spSub (ivl (spMul ((0), (0)) ((0), (0)))) (ivl (spMul ((4294967296), (4294967296)) ((0), (0))))) (spSub (ivl (spMul ((4294967296), (4294967296)) ((4294967296), (4294967296)))) (ivl (spMul ((0), (0)) ((0), (0))))) = .tuple #[.agg #[.int .i64 (0), .int .i64 (0), .int .i64 (0), .int .i64 (0), .int .i64 (4294967296), .int .i64 (4294967296)], .int .i64 0] := by
  kernel_rfl
theorem ev6 : vRes (errTo (errTo (errTo (chk3 (chk3 0 (0) (0) (4294967296) (4294967296) (0) (0) 3) (4294967296) (4294967296) (0) (0) (0) (0) 3) (spMul ((4294967296), (4294967296)) ((0), (0))).2.2 (spMul ((0), (0)) ((4294967296), (4294967296))).2.2 (spMul ((0), (0)) ((0), (0))).2.2 3) (spMul ((0), (0)) ((0), (0))).2.2 (spMul ((0), (0)) ((0), (0))).2.2 (spMul ((4294967296), (4294967296)) ((4294967296), (4294967296))).2.2 3) (spSub (ivl (spMul ((4294967296), (4294967296)) ((0), (0)))) (ivl (spMul ((0), (0)) ((0), (0))))).2.2 (spSub (ivl (spMul ((0), (0)) ((4294967296), (4294967296)))) (ivl (spMul ((0), (0)) ((0), (0))))).2.2 (spSub (ivl (spMul ((0), (0)) ((0), (0)))) (ivl (spMul ((4294967296), (4294967296)) ((4294967296), (4294967296))))).2.2 3) (spSub (ivl (spMul ((4294967296), (4294967296)) ((0), (0)))) (ivl (spMul ((0), (0)) ((0), (0))))) (spSub (ivl (spMul ((0), (0)) ((4294967296), (4294967296)))) (ivl (spMul ((0), (0)) ((0), (0))))) (spSub (ivl (spMul ((0), (0)) ((0), (0)))) (ivl (spMul ((4294967296), (4294967296)) ((4294967296), (4294967296))))) = .tuple #[.agg #[.int .i64 (0), .int .i64 (0), .int .i64 (0), .int .i64 (0), .int .i64 (-4294967296), .int .i64 (-4294967296)], .int .i64 0] := by
  kernel_rfl
theorem ev7 : iRes (normE (chk3 0 (8589934592) (8589934592) (12884901888) (12884901888) (25769803776) (25769803776) 3) (spPow ((8589934592), (8589934592)) 2) (spPow ((12884901888), (12884901888)) 2) (spPow ((25769803776), (25769803776)) 2)) (norm3 (spPow ((8589934592), (8589934592)) 2) (spPow ((12884901888), (12884901888)) 2) (spPow ((25769803776), (25769803776)) 2)) = .tuple #[.agg #[.int .i64 (30064771072), .int .i64 (30064771072)], .int .i64 0] := by
  obtain ⟨h1, h2⟩ := norm_lit (E := chk3 0 (8589934592) (8589934592) (12884901888) (12884901888) (25769803776) (25769803776) 3) (a := spPow ((8589934592), (8589934592)) 2) (b := spPow ((12884901888), (12884901888)) 2) (c := spPow ((25769803776), (25769803776)) 2) (S := 210453397504) (R := 30064771072) (by kernel_rfl) (spSqrt_sq 210453397504 30064771072 (by decide) (by decide) (by decide)) (by kernel_rfl)
  rw [h1, h2]
  kernel_rfl
theorem ev8 : vRes (errTo (normE (chk3 0 (0) (0) (0) (0) (-17179869184) (-17179869184) 3) (spPow ((0), (0)) 2) (spPow ((0), (0)) 2) (spPow ((-17179869184), (-17179869184)) 2)) (spDiv ((0), (0)) (ivl (norm3 (spPow ((0), (0)) 2) (spPow ((0), (0)) 2) (spPow ((-17179869184), (-17179869184)) 2)))).2.2 (spDiv ((0), (0)) (ivl (norm3 (spPow ((0), (0)) 2) (spPow ((0), (0)) 2) (spPow ((-17179869184), (-17179869184)) 2)))).2.2 (spDiv ((-17179869184), (-17179869184)) (ivl (norm3 (spPow ((0), (0)) 2) (spPow ((0), (0)) 2) (spPow ((-17179869184), (-17179869184)) 2)))).2.2 3) (spDiv ((0), (0)) (ivl (norm3 (spPow ((0), (0)) 2) (spPow ((0), (0)) 2) (spPow ((-17179869184), (-17179869184)) 2)))) (spDiv ((0), (0)) (ivl (norm3 (spPow ((0), (0)) 2) (spPow ((0), (0)) 2) (spPow ((-17179869184), (-17179869184)) 2)))) (spDiv ((-17179869184), (-17179869184)) (ivl (norm3 (spPow ((0), (0)) 2) (spPow ((0), (0)) 2) (spPow ((-17179869184), (-17179869184)) 2)))) = .tuple #[.agg #[.int .i64 (0), .int .i64 (0), .int .i64 (0), .int .i64 (0), .int .i64 (-4294967296), .int .i64 (-4294967296)], .int .i64 0] := by
  obtain ⟨h1, h2⟩ := norm_lit (E := chk3 0 (0) (0) (0) (0) (-17179869184) (-17179869184) 3) (a := spPow ((0), (0)) 2) (b := spPow ((0), (0)) 2) (c := spPow ((-17179869184), (-17179869184)) 2) (S := 68719476736) (R := 17179869184) (by kernel_rfl) (spSqrt_sq 68719476736 17179869184 (by decide) (by decide) (by decide)) (by kernel_rfl)
  rw [h1, h2]
  kernel_rfl
theorem ev9 : vRes (errTo (normE (chk3 0 (0) (0) (0) (0) (0) (0) 3) (spPow ((0), (0)) 2) (spPow ((0), (0)) 2) (spPow ((0), (0)) 2)) (spDiv ((0), (0)) (ivl (norm3 (spPow ((0), (0)) 2) (spPow ((0), (0)) 2) (spPow ((0), (0)) 2)))).2.2 (spDiv ((0), (0)) (ivl (norm3 (spPow ((0), (0)) 2) (spPow ((0), (0)) 2) (spPow ((0), (0)) 2)))).2.2 (spDiv ((0), (0)) (ivl (norm3 (spPow ((0), (0)) 2) (spPow ((0), (0)) 2) (spPow ((0), (0)) 2)))).2.2 3) (spDiv ((0), (0)) (ivl (norm3 (spPow ((0), (0)) 2) (spPow ((0), (0)) 2) (spPow ((0), (0)) 2)))) (spDiv ((0), (0)) (ivl (norm3 (spPow ((0), (0)) 2) (spPow ((0), (0)) 2) (spPow ((0), (0)) 2)))) (spDiv ((0), (0)) (ivl (norm3 (spPow ((0), (0)) 2) (spPow ((0), (0)) 2) (spPow ((0), (0)) 2)))) = .tuple #[.agg #[.int .i64 (0), .int .i64 (0), .int .i64 (0), .int .i64 (0), .int .i64 (0), .int .i64 (0)], .int .i64 7] := by
  obtain ⟨h1, h2⟩ := norm_lit (E := chk3 0 (0) (0) (0) (0) (0) (0) 3) (a := spPow ((0), (0)) 2) (b := spPow ((0), (0)) 2) (c := spPow ((0), (0)) 2) (S := 0) (R := 0) (by kernel_rfl) (spSqrt_sq 0 0 (by decide) (by decide) (by decide)) (by kernel_rfl)
  rw [h1, h2]
  kernel_rfl
theorem ev10 : iRes (sumE (chk3 (chk3 0 (4398046511104) (4398046511104) (0) (0) (0) (0) 3) (4402341478400) (4402341478400) (0) (0) (0) (0) 3) (spMul ((4398046511104), (4398046511104)) ((4402341478400), (4402341478400))) (spMul ((0), (0)) ((0), (0))) (spMul ((0), (0)) ((0), (0)))) (sum3 (spMul ((4398046511104), (4398046511104)) ((4402341478400), (4402341478400))) (spMul ((0), (0)) ((0), (0))) (spMul ((0), (0)) ((0), (0)))) = .tuple #[.agg #[.int .i64 (0), .int .i64 (0)], .int .i64 6] := by
  kernel_rfl

end Go.Proofs.Ytpdaigenffecmaa

namespace Go.Proofs.Ytpdaigenffecmaa
open Go.RowKit Go.Shelf

theorem rt_sq (a r : Nat) (up : Bool) (h : a * 4294967296 = r * r) : rt (a : Int) up = r := by
  have hi : isq (a * 4294967296) = r := isq_unique _ _ (by omega) (by rw [h]; exact Nat.mul_self_lt_mul_self (by omega))
  unfold rt rtN
  simp only [Int.toNat_natCast]
  have hc : ¬ (up = true ∧ isq (a * 4294967296) * isq (a * 4294967296) ≠ a * 4294967296) := by rw [hi, h]; simp
  rw [if_neg hc, hi]; simp
theorem spSqrt_ends (a b r s : Nat) (h : a * 4294967296 = r * r) (k : b * 4294967296 = s * s) (hab : a ≤ b) (hb : b ≤ 4503599627370496) (hs : s ≤ 4503599627370496) : spSqrt ((a : Int), (b : Int)) = ((r : Int), (s : Int), 0) := by
  unfold spSqrt
  rw [if_pos (spChk_mk (by simp only; omega) (by simp only; omega) (by simp only; omega)), if_neg (by simp only; omega), rt_sq a r false h, rt_sq b s true k]
  unfold spTold; rw [if_neg (by omega)]
theorem norm_ends {E : Int} {a b c : Int × Int × Int} {S T R U : Int} (hs : sum3 a b c = (S, T, 0)) (hq : spSqrt (S, T) = (R, U, 0)) (he : sumE E a b c = 0) : normE E a b c = 0 ∧ norm3 a b c = (R, U, 0) := by
  unfold normE norm3
  rw [he, hs, show ivl (S, T, 0) = (S, T) from rfl, hq]; exact ⟨rfl, rfl⟩
theorem norm_bad {E e : Int} {a b c : Int × Int × Int} (he : sumE E a b c = e) (h : e ≠ 0) : normE E a b c = e := by
  unfold normE; rw [he, fst2_of h]
theorem iRes_err {e : Int} (h : e ≠ 0) (r : Int × Int × Int) : iRes e r = .tuple #[.agg #[.int .i64 0, .int .i64 0], .int .i64 e] := by unfold iRes; rw [if_neg h]
theorem vRes_err {e : Int} (h : e ≠ 0) (a b c : Int × Int × Int) : vRes e a b c = .tuple #[.agg #[.int .i64 0, .int .i64 0, .int .i64 0, .int .i64 0, .int .i64 0, .int .i64 0], .int .i64 e] := by unfold vRes; rw [if_neg h]
theorem evk0 : vRes (errTo (chk3 0 (-4503599627370496) (4503599627370496) (-4503599627370496) (4503599627370496) (-4503599627370496) (4503599627370496) 3) (spNeg ((-4503599627370496), (4503599627370496))).2.2 (spNeg ((-4503599627370496), (4503599627370496))).2.2 (spNeg ((-4503599627370496), (4503599627370496))).2.2 3) (spNeg ((-4503599627370496), (4503599627370496))) (spNeg ((-4503599627370496), (4503599627370496))) (spNeg ((-4503599627370496), (4503599627370496))) = .tuple #[.agg #[.int .i64 (-4503599627370496), .int .i64 (4503599627370496), .int .i64 (-4503599627370496), .int .i64 (4503599627370496), .int .i64 (-4503599627370496), .int .i64 (4503599627370496)], .int .i64 0] := by
  kernel_rfl
theorem evk1 : vRes (errTo (chk3 (chk3 0 (-4503599627370496) (4503599627370496) (-4503599627370496) (4503599627370496) (-4503599627370496) (4503599627370496) 3) (0) (0) (0) (0) (4294967296) (4294967296) 3) (spAdd ((-4503599627370496), (4503599627370496)) ((0), (0))).2.2 (spAdd ((-4503599627370496), (4503599627370496)) ((0), (0))).2.2 (spAdd ((-4503599627370496), (4503599627370496)) ((4294967296), (4294967296))).2.2 3) (spAdd ((-4503599627370496), (4503599627370496)) ((0), (0))) (spAdd ((-4503599627370496), (4503599627370496)) ((0), (0))) (spAdd ((-4503599627370496), (4503599627370496)) ((4294967296), (4294967296))) = .tuple #[.agg #[.int .i64 (0), .int .i64 (0), .int .i64 (0), .int .i64 (0), .int .i64 (0), .int .i64 (0)], .int .i64 6] := by
  kernel_rfl
theorem evk2 : vRes (errTo (chk3 (chk3 0 (-4503599627370496) (4503599627370496) (-4503599627370496) (4503599627370496) (-4503599627370496) (4503599627370496) 3) (0) (0) (0) (0) (1) (0) 3) (spAdd ((-4503599627370496), (4503599627370496)) ((0), (0))).2.2 (spAdd ((-4503599627370496), (4503599627370496)) ((0), (0))).2.2 (spAdd ((-4503599627370496), (4503599627370496)) ((1), (0))).2.2 3) (spAdd ((-4503599627370496), (4503599627370496)) ((0), (0))) (spAdd ((-4503599627370496), (4503599627370496)) ((0), (0))) (spAdd ((-4503599627370496), (4503599627370496)) ((1), (0))) = .tuple #[.agg #[.int .i64 (0), .int .i64 (0), .int .i64 (0), .int .i64 (0), .int .i64 (0), .int .i64 (0)], .int .i64 20] := by
  kernel_rfl
theorem evk3 : vRes (errTo (chk3 0 (0) (0) (0) (0) (1) (0) 3) (spNeg ((0), (0))).2.2 (spNeg ((0), (0))).2.2 (spNeg ((1), (0))).2.2 3) (spNeg ((0), (0))) (spNeg ((0), (0))) (spNeg ((1), (0))) = .tuple #[.agg #[.int .i64 (0), .int .i64 (0), .int .i64 (0), .int .i64 (0), .int .i64 (0), .int .i64 (0)], .int .i64 20] := by
  kernel_rfl
theorem evk4 : vRes (errTo (chk3 (chk3 0 (-4503599627370496) (4503599627370496) (-4503599627370496) (4503599627370496) (-4503599627370496) (4503599627370496) 3) (1) (0) (1) (0) (1) (0) 3) (spMul ((-4503599627370496), (4503599627370496)) ((1), (0))).2.2 (spMul ((-4503599627370496), (4503599627370496)) ((1), (0))).2.2 (spMul ((-4503599627370496), (4503599627370496)) ((1), (0))).2.2 3) (spMul ((-4503599627370496), (4503599627370496)) ((1), (0))) (spMul ((-4503599627370496), (4503599627370496)) ((1), (0))) (spMul ((-4503599627370496), (4503599627370496)) ((1), (0))) = .tuple #[.agg #[.int .i64 (0), .int .i64 (0), .int .i64 (0), .int .i64 (0), .int .i64 (0), .int .i64 (0)], .int .i64 20] := by
  kernel_rfl
theorem evk5 : vRes (errTo (chk3 (chk3 0 (-4503599627370496) (4503599627370496) (-4503599627370496) (4503599627370496) (-4503599627370496) (4503599627370496) 3) (0) (0) (0) (0) (0) (0) 3) (spMul ((-4503599627370496), (4503599627370496)) ((0), (0))).2.2 (spMul ((-4503599627370496), (4503599627370496)) ((0), (0))).2.2 (spMul ((-4503599627370496), (4503599627370496)) ((0), (0))).2.2 3) (spMul ((-4503599627370496), (4503599627370496)) ((0), (0))) (spMul ((-4503599627370496), (4503599627370496)) ((0), (0))) (spMul ((-4503599627370496), (4503599627370496)) ((0), (0))) = .tuple #[.agg #[.int .i64 (0), .int .i64 (0), .int .i64 (0), .int .i64 (0), .int .i64 (0), .int .i64 (0)], .int .i64 0] := by
  kernel_rfl
theorem evk6 : vRes (errTo (chk3 (chk3 0 (-4503599627370496) (4503599627370496) (-4503599627370496) (4503599627370496) (-4503599627370496) (4503599627370496) 3) (8589934592) (8589934592) (8589934592) (8589934592) (8589934592) (8589934592) 3) (spMul ((-4503599627370496), (4503599627370496)) ((8589934592), (8589934592))).2.2 (spMul ((-4503599627370496), (4503599627370496)) ((8589934592), (8589934592))).2.2 (spMul ((-4503599627370496), (4503599627370496)) ((8589934592), (8589934592))).2.2 3) (spMul ((-4503599627370496), (4503599627370496)) ((8589934592), (8589934592))) (spMul ((-4503599627370496), (4503599627370496)) ((8589934592), (8589934592))) (spMul ((-4503599627370496), (4503599627370496)) ((8589934592), (8589934592))) = .tuple #[.agg #[.int .i64 (0), .int .i64 (0), .int .i64 (0), .int .i64 (0), .int .i64 (0), .int .i64 (0)], .int .i64 6] := by
  kernel_rfl
theorem evk7 : iRes (normE (chk3 0 (4398046511104) (4398046511104) (4294967296) (4294967296) (0) (0) 3) (spPow ((4398046511104), (4398046511104)) 2) (spPow ((4294967296), (4294967296)) 2) (spPow ((0), (0)) 2)) (norm3 (spPow ((4398046511104), (4398046511104)) 2) (spPow ((4294967296), (4294967296)) 2) (spPow ((0), (0)) 2)) = .tuple #[.agg #[.int .i64 (0), .int .i64 (0)], .int .i64 6] := by
  rw [norm_bad (E := chk3 0 (4398046511104) (4398046511104) (4294967296) (4294967296) (0) (0) 3) (a := spPow ((4398046511104), (4398046511104)) 2) (b := spPow ((4294967296), (4294967296)) 2) (c := spPow ((0), (0)) 2) (e := 6) (by kernel_rfl) (by decide)]
  exact iRes_err (by decide) _
theorem evk8 : iRes (normE (chk3 0 (0) (0) (-4398046511104) (-4398046511104) (0) (0) 3) (spPow ((0), (0)) 2) (spPow ((-4398046511104), (-4398046511104)) 2) (spPow ((0), (0)) 2)) (norm3 (spPow ((0), (0)) 2) (spPow ((-4398046511104), (-4398046511104)) 2) (spPow ((0), (0)) 2)) = .tuple #[.agg #[.int .i64 (4398046511104), .int .i64 (4398046511104)], .int .i64 0] := by
  obtain ⟨h1, h2⟩ := norm_ends (E := chk3 0 (0) (0) (-4398046511104) (-4398046511104) (0) (0) 3) (a := spPow ((0), (0)) 2) (b := spPow ((-4398046511104), (-4398046511104)) 2) (c := spPow ((0), (0)) 2) (S := 4503599627370496) (T := 4503599627370496) (R := 4398046511104) (U := 4398046511104) (by kernel_rfl) (spSqrt_ends 4503599627370496 4503599627370496 4398046511104 4398046511104 (by decide) (by decide) (by decide) (by decide) (by decide)) (by kernel_rfl)
  rw [h1, h2]
  kernel_rfl
theorem evk9 : iRes (normE (chk3 0 (0) (0) (0) (0) (1) (0) 3) (spPow ((0), (0)) 2) (spPow ((0), (0)) 2) (spPow ((1), (0)) 2)) (norm3 (spPow ((0), (0)) 2) (spPow ((0), (0)) 2) (spPow ((1), (0)) 2)) = .tuple #[.agg #[.int .i64 (0), .int .i64 (0)], .int .i64 20] := by
  rw [norm_bad (E := chk3 0 (0) (0) (0) (0) (1) (0) 3) (a := spPow ((0), (0)) 2) (b := spPow ((0), (0)) 2) (c := spPow ((1), (0)) 2) (e := 20) (by kernel_rfl) (by decide)]
  exact iRes_err (by decide) _
theorem evk10 : iRes (sumE (chk3 (chk3 0 (0) (0) (0) (0) (1) (0) 3) (-4503599627370496) (4503599627370496) (-4503599627370496) (4503599627370496) (-4503599627370496) (4503599627370496) 3) (spMul ((0), (0)) ((-4503599627370496), (4503599627370496))) (spMul ((0), (0)) ((-4503599627370496), (4503599627370496))) (spMul ((1), (0)) ((-4503599627370496), (4503599627370496)))) (sum3 (spMul ((0), (0)) ((-4503599627370496), (4503599627370496))) (spMul ((0), (0)) ((-4503599627370496), (4503599627370496))) (spMul ((1), (0)) ((-4503599627370496), (4503599627370496)))) = .tuple #[.agg #[.int .i64 (0), .int .i64 (0)], .int .i64 20] := by
  kernel_rfl
theorem evk11 : vRes (errTo (normE (chk3 0 (0) (0) (0) (0) (8589934592000) (8589934592000) 3) (spPow ((0), (0)) 2) (spPow ((0), (0)) 2) (spPow ((8589934592000), (8589934592000)) 2)) (spDiv ((0), (0)) (ivl (norm3 (spPow ((0), (0)) 2) (spPow ((0), (0)) 2) (spPow ((8589934592000), (8589934592000)) 2)))).2.2 (spDiv ((0), (0)) (ivl (norm3 (spPow ((0), (0)) 2) (spPow ((0), (0)) 2) (spPow ((8589934592000), (8589934592000)) 2)))).2.2 (spDiv ((8589934592000), (8589934592000)) (ivl (norm3 (spPow ((0), (0)) 2) (spPow ((0), (0)) 2) (spPow ((8589934592000), (8589934592000)) 2)))).2.2 3) (spDiv ((0), (0)) (ivl (norm3 (spPow ((0), (0)) 2) (spPow ((0), (0)) 2) (spPow ((8589934592000), (8589934592000)) 2)))) (spDiv ((0), (0)) (ivl (norm3 (spPow ((0), (0)) 2) (spPow ((0), (0)) 2) (spPow ((8589934592000), (8589934592000)) 2)))) (spDiv ((8589934592000), (8589934592000)) (ivl (norm3 (spPow ((0), (0)) 2) (spPow ((0), (0)) 2) (spPow ((8589934592000), (8589934592000)) 2)))) = .tuple #[.agg #[.int .i64 (0), .int .i64 (0), .int .i64 (0), .int .i64 (0), .int .i64 (0), .int .i64 (0)], .int .i64 6] := by
  rw [norm_bad (E := chk3 0 (0) (0) (0) (0) (8589934592000) (8589934592000) 3) (a := spPow ((0), (0)) 2) (b := spPow ((0), (0)) 2) (c := spPow ((8589934592000), (8589934592000)) 2) (e := 6) (by kernel_rfl) (by decide)]
  rw [errTo3_of (by decide)]
  exact vRes_err (by decide) _ _ _
theorem evk12 : vRes (errTo (normE (chk3 0 (-1) (1) (0) (0) (0) (0) 3) (spPow ((-1), (1)) 2) (spPow ((0), (0)) 2) (spPow ((0), (0)) 2)) (spDiv ((-1), (1)) (ivl (norm3 (spPow ((-1), (1)) 2) (spPow ((0), (0)) 2) (spPow ((0), (0)) 2)))).2.2 (spDiv ((0), (0)) (ivl (norm3 (spPow ((-1), (1)) 2) (spPow ((0), (0)) 2) (spPow ((0), (0)) 2)))).2.2 (spDiv ((0), (0)) (ivl (norm3 (spPow ((-1), (1)) 2) (spPow ((0), (0)) 2) (spPow ((0), (0)) 2)))).2.2 3) (spDiv ((-1), (1)) (ivl (norm3 (spPow ((-1), (1)) 2) (spPow ((0), (0)) 2) (spPow ((0), (0)) 2)))) (spDiv ((0), (0)) (ivl (norm3 (spPow ((-1), (1)) 2) (spPow ((0), (0)) 2) (spPow ((0), (0)) 2)))) (spDiv ((0), (0)) (ivl (norm3 (spPow ((-1), (1)) 2) (spPow ((0), (0)) 2) (spPow ((0), (0)) 2)))) = .tuple #[.agg #[.int .i64 (0), .int .i64 (0), .int .i64 (0), .int .i64 (0), .int .i64 (0), .int .i64 (0)], .int .i64 7] := by
  obtain ⟨h1, h2⟩ := norm_ends (E := chk3 0 (-1) (1) (0) (0) (0) (0) 3) (a := spPow ((-1), (1)) 2) (b := spPow ((0), (0)) 2) (c := spPow ((0), (0)) 2) (S := 0) (T := 1) (R := 0) (U := 65536) (by kernel_rfl) (spSqrt_ends 0 1 0 65536 (by decide) (by decide) (by decide) (by decide) (by decide)) (by kernel_rfl)
  rw [h1, h2]
  kernel_rfl
theorem evk13 : vRes (errTo (normE (chk3 0 (0) (0) (0) (0) (1) (0) 3) (spPow ((0), (0)) 2) (spPow ((0), (0)) 2) (spPow ((1), (0)) 2)) (spDiv ((0), (0)) (ivl (norm3 (spPow ((0), (0)) 2) (spPow ((0), (0)) 2) (spPow ((1), (0)) 2)))).2.2 (spDiv ((0), (0)) (ivl (norm3 (spPow ((0), (0)) 2) (spPow ((0), (0)) 2) (spPow ((1), (0)) 2)))).2.2 (spDiv ((1), (0)) (ivl (norm3 (spPow ((0), (0)) 2) (spPow ((0), (0)) 2) (spPow ((1), (0)) 2)))).2.2 3) (spDiv ((0), (0)) (ivl (norm3 (spPow ((0), (0)) 2) (spPow ((0), (0)) 2) (spPow ((1), (0)) 2)))) (spDiv ((0), (0)) (ivl (norm3 (spPow ((0), (0)) 2) (spPow ((0), (0)) 2) (spPow ((1), (0)) 2)))) (spDiv ((1), (0)) (ivl (norm3 (spPow ((0), (0)) 2) (spPow ((0), (0)) 2) (spPow ((1), (0)) 2)))) = .tuple #[.agg #[.int .i64 (0), .int .i64 (0), .int .i64 (0), .int .i64 (0), .int .i64 (0), .int .i64 (0)], .int .i64 20] := by
  rw [norm_bad (E := chk3 0 (0) (0) (0) (0) (1) (0) 3) (a := spPow ((0), (0)) 2) (b := spPow ((0), (0)) 2) (c := spPow ((1), (0)) 2) (e := 20) (by kernel_rfl) (by decide)]
  rw [errTo3_of (by decide)]
  exact vRes_err (by decide) _ _ _
theorem evk14 : vRes (errTo (normE (chk3 0 (21474836480) (21474836480) (0) (0) (0) (0) 3) (spPow ((21474836480), (21474836480)) 2) (spPow ((0), (0)) 2) (spPow ((0), (0)) 2)) (spDiv ((21474836480), (21474836480)) (ivl (norm3 (spPow ((21474836480), (21474836480)) 2) (spPow ((0), (0)) 2) (spPow ((0), (0)) 2)))).2.2 (spDiv ((0), (0)) (ivl (norm3 (spPow ((21474836480), (21474836480)) 2) (spPow ((0), (0)) 2) (spPow ((0), (0)) 2)))).2.2 (spDiv ((0), (0)) (ivl (norm3 (spPow ((21474836480), (21474836480)) 2) (spPow ((0), (0)) 2) (spPow ((0), (0)) 2)))).2.2 3) (spDiv ((21474836480), (21474836480)) (ivl (norm3 (spPow ((21474836480), (21474836480)) 2) (spPow ((0), (0)) 2) (spPow ((0), (0)) 2)))) (spDiv ((0), (0)) (ivl (norm3 (spPow ((21474836480), (21474836480)) 2) (spPow ((0), (0)) 2) (spPow ((0), (0)) 2)))) (spDiv ((0), (0)) (ivl (norm3 (spPow ((21474836480), (21474836480)) 2) (spPow ((0), (0)) 2) (spPow ((0), (0)) 2)))) = .tuple #[.agg #[.int .i64 (4294967296), .int .i64 (4294967296), .int .i64 (0), .int .i64 (0), .int .i64 (0), .int .i64 (0)], .int .i64 0] := by
  obtain ⟨h1, h2⟩ := norm_ends (E := chk3 0 (21474836480) (21474836480) (0) (0) (0) (0) 3) (a := spPow ((21474836480), (21474836480)) 2) (b := spPow ((0), (0)) 2) (c := spPow ((0), (0)) 2) (S := 107374182400) (T := 107374182400) (R := 21474836480) (U := 21474836480) (by kernel_rfl) (spSqrt_ends 107374182400 107374182400 21474836480 21474836480 (by decide) (by decide) (by decide) (by decide) (by decide)) (by kernel_rfl)
  rw [h1, h2]
  kernel_rfl
theorem evk15 : iRes (sumE (chk3 (chk3 0 (-1) (1) (-1) (1) (0) (0) 3) (4294967296) (4294967296) (4294967296) (4294967296) (0) (0) 3) (spMul ((-1), (1)) ((4294967296), (4294967296))) (spMul ((-1), (1)) ((4294967296), (4294967296))) (spMul ((0), (0)) ((0), (0)))) (sum3 (spMul ((-1), (1)) ((4294967296), (4294967296))) (spMul ((-1), (1)) ((4294967296), (4294967296))) (spMul ((0), (0)) ((0), (0)))) = .tuple #[.agg #[.int .i64 (-2), .int .i64 (2)], .int .i64 0] := by
  kernel_rfl
theorem evk16 : vRes (errTo (errTo (errTo (chk3 (chk3 0 (4294967296) (4294967296) (8589934592) (8589934592) (12884901888) (12884901888) 3) (17179869184) (17179869184) (21474836480) (21474836480) (25769803776) (25769803776) 3) (spMul ((8589934592), (8589934592)) ((25769803776), (25769803776))).2.2 (spMul ((12884901888), (12884901888)) ((17179869184), (17179869184))).2.2 (spMul ((4294967296), (4294967296)) ((21474836480), (21474836480))).2.2 3) (spMul ((12884901888), (12884901888)) ((21474836480), (21474836480))).2.2 (spMul ((4294967296), (4294967296)) ((25769803776), (25769803776))).2.2 (spMul ((8589934592), (8589934592)) ((17179869184), (17179869184))).2.2 3) (spSub (ivl (spMul ((8589934592), (8589934592)) ((25769803776), (25769803776)))) (ivl (spMul ((12884901888), (12884901888)) ((21474836480), (21474836480))))).2.2 (spSub (ivl (spMul ((12884901888), (12884901888)) ((17179869184), (17179869184)))) (ivl (spMul ((4294967296), (4294967296)) ((25769803776), (25769803776))))).2.2 (spSub (ivl (spMul ((4294967296), (4294967296)) ((21474836480), (21474836480)))) (ivl (spMul ((8589934592), (8589934592)) ((17179869184), (17179869184))))).2.2 3) (spSub (ivl (spMul ((8589934592), (8589934592)) ((25769803776), (25769803776)))) (ivl (spMul ((12884901888), (12884901888)) ((21474836480), (21474836480))))) (spSub (ivl (spMul ((12884901888), (12884901888)) ((17179869184), (17179869184)))) (ivl (spMul ((4294967296), (4294967296)) ((25769803776), (25769803776))))) (spSub (ivl (spMul ((4294967296), (4294967296)) ((21474836480), (21474836480)))) (ivl (spMul ((8589934592), (8589934592)) ((17179869184), (17179869184))))) = .tuple #[.agg #[.int .i64 (-12884901888), .int .i64 (-12884901888), .int .i64 (25769803776), .int .i64 (25769803776), .int .i64 (-12884901888), .int .i64 (-12884901888)], .int .i64 0] := by
  kernel_rfl
theorem evk17 : vRes (errTo (errTo (errTo (chk3 (chk3 0 (-4294967296) (4294967296) (0) (0) (0) (0) 3) (0) (0) (8589934592) (8589934592) (0) (0) 3) (spMul ((0), (0)) ((0), (0))).2.2 (spMul ((0), (0)) ((0), (0))).2.2 (spMul ((-4294967296), (4294967296)) ((8589934592), (8589934592))).2.2 3) (spMul ((0), (0)) ((8589934592), (8589934592))).2.2 (spMul ((-4294967296), (4294967296)) ((0), (0))).2.2 (spMul ((0), (0)) ((0), (0))).2.2 3) (spSub (ivl (spMul ((0), (0)) ((0), (0)))) (ivl (spMul ((0), (0)) ((8589934592), (8589934592))))).2.2 (spSub (ivl (spMul ((0), (0)) ((0), (0)))) (ivl (spMul ((-4294967296), (4294967296)) ((0), (0))))).2.2 (spSub (ivl (spMul ((-4294967296), (4294967296)) ((8589934592), (8589934592)))) (ivl (spMul ((0), (0)) ((0), (0))))).2.2 3) (spSub (ivl (spMul ((0), (0)) ((0), (0)))) (ivl (spMul ((0), (0)) ((8589934592), (8589934592))))) (spSub (ivl (spMul ((0), (0)) ((0), (0)))) (ivl (spMul ((-4294967296), (4294967296)) ((0), (0))))) (spSub (ivl (spMul ((-4294967296), (4294967296)) ((8589934592), (8589934592)))) (ivl (spMul ((0), (0)) ((0), (0))))) = .tuple #[.agg #[.int .i64 (0), .int .i64 (0), .int .i64 (0), .int .i64 (0), .int .i64 (-8589934592), .int .i64 (8589934592)], .int .i64 0] := by
  kernel_rfl
theorem evc0 : chk3 0 (-4503599627370496) (4503599627370496) (-4503599627370496) (4503599627370496) (-4503599627370496) (4503599627370496) 3 = 0 := by kernel_rfl
theorem evc1 : chk3 0 (0) (0) (0) (0) (1) (0) 3 = 20 := by kernel_rfl
theorem evc2 : chk3 0 (0) (4503599627370497) (0) (0) (0) (0) 3 = 20 := by kernel_rfl

end Go.Proofs.Ytpdaigenffecmaa
