/-
  The statements' helpers: point, of, is, fails, says, refuses. The values of the chapter's examples. Drafts of intervals: what they answer, written out. Plain: orders of arguments and negatives of intervals and vectors. Plain: VecOrders of one pair of valid vectors. Plain: the small operations of intervals: lesser and greater, hull and common part, what an interval tells.
-/
import Derived.Test.YtpdaigenffecmaaM01
import Derived.Test.YtpdaigenffecmaaM30
set_option linter.all false
namespace Go.Proofs.Ytpdaigenffecmaa
open Go.RowKit Go.Shelf

theorem c_point (n N : Int) (h : n * 4294967296 = N) (h1 : -9223372036854775808 ≤ N) (h2 : N ≤ 9223372036854775807) (w : World) :
    Calls Try.prog 37 #[.int .i64 n] w fun e w' => e = .returned (.agg #[.int .i64 N, .int .i64 N]) ∧ Below w.heap.size w w' := by
  have hw : wrap64 (n * 4294967296) = N := by rw [h]; exact w64_id h1 h2
  clear h h1 h2
  go_enter Try.func37, Try.ntmps37
  go_wp2_with (fail)
  refine bodyPost_ret (v := .agg #[.int .i64 N, .int .i64 N]) (by simp [results, Try.results37, go_sem, *]) rfl ⟨rfl, by (repeat' (first | (with_reducible exact Below.refl _ _) | (with_reducible refine Below.setCell ?_ ?_ _) | (with_reducible refine Below.alloc ?_ ?_ _) | (with_reducible refine Below.drew ?_) | (with_reducible refine below_drewN ?_ _) | (with_reducible assumption) | (with_reducible refine Below.trans ?_ (Below.mono (by with_reducible assumption) ?_)) | omega | (simp; done) | (simp; omega) | (simp [World.setCell]; omega)))⟩

theorem c_of (x y z X Y Z : Int) (hx : x * 4294967296 = X) (hy : y * 4294967296 = Y) (hz : z * 4294967296 = Z)
    (h : -9223372036854775808 ≤ X ∧ X ≤ 9223372036854775807 ∧ -9223372036854775808 ≤ Y ∧ Y ≤ 9223372036854775807 ∧ -9223372036854775808 ≤ Z ∧ Z ≤ 9223372036854775807) (w : World) :
    Calls Try.prog 35 #[.int .i64 x, .int .i64 y, .int .i64 z] w fun e w' => e = .returned (.agg #[.int .i64 X, .int .i64 X, .int .i64 Y, .int .i64 Y, .int .i64 Z, .int .i64 Z]) ∧ Below w.heap.size w w' := by
  obtain ⟨h1, h2, h3, h4, h5, h6⟩ := h
  have cx := fun w => c_point x X hx h1 h2 w
  have cy := fun w => c_point y Y hy h3 h4 w
  have cz := fun w => c_point z Z hz h5 h6 w
  have HX := Lib.hid cx; have HY := Lib.hid cy; have HZ := Lib.hid cz
  clear hx hy hz h1 h2 h3 h4 h5 h6 cx cy cz
  obtain ⟨W, hW⟩ : ∃ W, W = w.alloc (Obj.cells #[Value.int IntKind.i64 0, Value.int IntKind.i64 0, Value.int IntKind.i64 0, Value.int IntKind.i64 0, Value.int IntKind.i64 0, Value.int IntKind.i64 0] 25) := ⟨_, rfl⟩
  have hsW : w.heap.size < W.heap.size := by rw [hW]; simp
  have hB : Hid (Below w.heap.size w W) := by rw [hW]; unfold Hid; (repeat' (first | (with_reducible exact Below.refl _ _) | (with_reducible refine Below.setCell ?_ ?_ _) | (with_reducible refine Below.alloc ?_ ?_ _) | (with_reducible refine Below.drew ?_) | (with_reducible refine below_drewN ?_ _) | (with_reducible assumption) | (with_reducible refine Below.trans ?_ (Below.mono (by with_reducible assumption) ?_)) | omega | (simp; done) | (simp; omega) | (simp [World.setCell]; omega)))
  have z0 : W.cell? ⟨w.heap.size, 0, none⟩ = some (.int .i64 0) := by rw [hW]; simp [go_sem]
  have z1 : W.cell? ⟨w.heap.size, 1, none⟩ = some (.int .i64 0) := by rw [hW]; simp [go_sem]
  have z2 : W.cell? ⟨w.heap.size, 2, none⟩ = some (.int .i64 0) := by rw [hW]; simp [go_sem]
  have z3 : W.cell? ⟨w.heap.size, 3, none⟩ = some (.int .i64 0) := by rw [hW]; simp [go_sem]
  have z4 : W.cell? ⟨w.heap.size, 4, none⟩ = some (.int .i64 0) := by rw [hW]; simp [go_sem]
  have z5 : W.cell? ⟨w.heap.size, 5, none⟩ = some (.int .i64 0) := by rw [hW]; simp [go_sem]
  have s0 : W.frozen? ⟨w.heap.size, 0, none⟩ = false := by rw [hW]; simp [go_sem]
  have s1 : W.frozen? ⟨w.heap.size, 1, none⟩ = false := by rw [hW]; simp [go_sem]
  have s2 : W.frozen? ⟨w.heap.size, 2, none⟩ = false := by rw [hW]; simp [go_sem]
  have s3 : W.frozen? ⟨w.heap.size, 3, none⟩ = false := by rw [hW]; simp [go_sem]
  have s4 : W.frozen? ⟨w.heap.size, 4, none⟩ = false := by rw [hW]; simp [go_sem]
  have s5 : W.frozen? ⟨w.heap.size, 5, none⟩ = false := by rw [hW]; simp [go_sem]
  go_enter Try.func35, Try.ntmps35
  go_wp2_with (fail)
  rw [← hW]
  clear hW
  go_at_call 37
  refine Calls.mono (HX.out _) ?_
  rintro e w1 ⟨rfl, hb1⟩
  have hs1 := hb1.size
  (replace z0 := kp hb1 (by omega) z0); (replace z1 := kp hb1 (by omega) z1); (replace z2 := kp hb1 (by omega) z2); (replace z3 := kp hb1 (by omega) z3); (replace z4 := kp hb1 (by omega) z4); (replace z5 := kp hb1 (by omega) z5); (replace s0 := kf hb1 (by omega) s0); (replace s1 := kf hb1 (by omega) s1); (replace s2 := kf hb1 (by omega) s2); (replace s3 := kf hb1 (by omega) s3); (replace s4 := kf hb1 (by omega) s4); (replace s5 := kf hb1 (by omega) s5)
  go_wp2_with (fail)
  go_at_call 37
  refine Calls.mono (HY.out _) ?_
  rintro e w2 ⟨rfl, hb2⟩
  have hs2 := hb2.size
  (replace z0 := kp hb2 (by omega) z0); (replace z1 := kp hb2 (by omega) z1); (replace z2 := kp hb2 (by omega) z2); (replace z3 := kp hb2 (by omega) z3); (replace z4 := kp hb2 (by omega) z4); (replace z5 := kp hb2 (by omega) z5); (replace s0 := kf hb2 (by omega) s0); (replace s1 := kf hb2 (by omega) s1); (replace s2 := kf hb2 (by omega) s2); (replace s3 := kf hb2 (by omega) s3); (replace s4 := kf hb2 (by omega) s4); (replace s5 := kf hb2 (by omega) s5)
  go_wp2_with (fail)
  go_at_call 37
  refine Calls.mono (HZ.out _) ?_
  rintro e w3 ⟨rfl, hb3⟩
  have hs3 := hb3.size
  (replace z0 := kp hb3 (by omega) z0); (replace z1 := kp hb3 (by omega) z1); (replace z2 := kp hb3 (by omega) z2); (replace z3 := kp hb3 (by omega) z3); (replace z4 := kp hb3 (by omega) z4); (replace z5 := kp hb3 (by omega) z5); (replace s0 := kf hb3 (by omega) s0); (replace s1 := kf hb3 (by omega) s1); (replace s2 := kf hb3 (by omega) s2); (replace s3 := kf hb3 (by omega) s3); (replace s4 := kf hb3 (by omega) s4); (replace s5 := kf hb3 (by omega) s5)
  go_wp2_with (fail)
  have HB := hB.out
  obtain ⟨F, hF⟩ : ∃ F, F = ((((((w3.setCell ⟨w.heap.size, 0, none⟩ (Value.int IntKind.i64 X)).setCell ⟨w.heap.size, 1, none⟩ (Value.int IntKind.i64 X)).setCell ⟨w.heap.size, 2, none⟩ (Value.int IntKind.i64 Y)).setCell ⟨w.heap.size, 3, none⟩ (Value.int IntKind.i64 Y)).setCell ⟨w.heap.size, 4, none⟩ (Value.int IntKind.i64 Z)).setCell ⟨w.heap.size, 5, none⟩ (Value.int IntKind.i64 Z)) := ⟨_, rfl⟩
  have g := st6 w3 (w.heap.size) (X) (X) (Y) (Y) (Z) (Z) z0 z1 z2 z3 z4 z5
  rw [← hF] at g
  have g0 : F.cell? ⟨w.heap.size, 0, none⟩ = some (.int .i64 (X)) := g 0 (by decide)
  have g1 : F.cell? ⟨w.heap.size, 1, none⟩ = some (.int .i64 (X)) := g 1 (by decide)
  have g2 : F.cell? ⟨w.heap.size, 2, none⟩ = some (.int .i64 (Y)) := g 2 (by decide)
  have g3 : F.cell? ⟨w.heap.size, 3, none⟩ = some (.int .i64 (Y)) := g 3 (by decide)
  have g4 : F.cell? ⟨w.heap.size, 4, none⟩ = some (.int .i64 (Z)) := g 4 (by decide)
  have g5 : F.cell? ⟨w.heap.size, 5, none⟩ = some (.int .i64 (Z)) := g 5 (by decide)
  clear g
  have hFB : Hid (Below w.heap.size w F) := by rw [hF]; unfold Hid; (repeat' (first | (with_reducible exact Below.refl _ _) | (with_reducible refine Below.setCell ?_ ?_ _) | (with_reducible refine Below.alloc ?_ ?_ _) | (with_reducible refine Below.drew ?_) | (with_reducible refine below_drewN ?_ _) | (with_reducible assumption) | (with_reducible refine Below.trans ?_ (Below.mono (by with_reducible assumption) ?_)) | omega | (simp; done) | (simp; omega) | (simp [World.setCell]; omega)))
  rw [← hF]
  clear hF
  refine bodyPost_ret (v := .agg #[.int .i64 X, .int .i64 X, .int .i64 Y, .int .i64 Y, .int .i64 Z, .int .i64 Z]) (by simp [results, Try.results35, go_sem, g0, g1, g2, g3, g4, g5]) rfl ⟨rfl, hFB.out⟩


theorem c_is (x0 x1 x2 x3 x4 x5 : Int) (w : World) :
    Calls Try.prog 33 #[.agg #[.int .i64 x0, .int .i64 x1, .int .i64 x2, .int .i64 x3, .int .i64 x4, .int .i64 x5]] w fun e w' => e = .returned (.func (.func 96) #[] #[.pointer (some ⟨w.heap.size, 0, none⟩)]) ∧ (w'.cell? ⟨w.heap.size, 0, none⟩ = some (.int .i64 x0) ∧ w'.cell? ⟨w.heap.size, 1, none⟩ = some (.int .i64 x1) ∧ w'.cell? ⟨w.heap.size, 2, none⟩ = some (.int .i64 x2) ∧ w'.cell? ⟨w.heap.size, 3, none⟩ = some (.int .i64 x3) ∧ w'.cell? ⟨w.heap.size, 4, none⟩ = some (.int .i64 x4) ∧ w'.cell? ⟨w.heap.size, 5, none⟩ = some (.int .i64 x5)) ∧ w.heap.size < w'.heap.size ∧ Below w.heap.size w w' := by
  go_enter Try.func33, Try.ntmps33
  go_wp2_with (fail)
  refine bodyPost_ret (v := .func (.func 96) #[] #[.pointer (some ⟨w.heap.size, 0, none⟩)]) (by simp [results, Try.results33, go_sem, *]) rfl ⟨rfl, by simp [go_sem], by simp, by (repeat' (first | (with_reducible exact Below.refl _ _) | (with_reducible refine Below.setCell ?_ ?_ _) | (with_reducible refine Below.alloc ?_ ?_ _) | (with_reducible refine Below.drew ?_) | (with_reducible refine below_drewN ?_ _) | (with_reducible assumption) | (with_reducible refine Below.trans ?_ (Below.mono (by with_reducible assumption) ?_)) | omega | (simp; done) | (simp; omega) | (simp [World.setCell]; omega)))⟩

theorem c_says (x0 x1 : Int) (w : World) :
    Calls Try.prog 39 #[.agg #[.int .i64 x0, .int .i64 x1]] w fun e w' => e = .returned (.func (.func 99) #[] #[.pointer (some ⟨w.heap.size, 0, none⟩)]) ∧ (w'.cell? ⟨w.heap.size, 0, none⟩ = some (.int .i64 x0) ∧ w'.cell? ⟨w.heap.size, 1, none⟩ = some (.int .i64 x1)) ∧ w.heap.size < w'.heap.size ∧ Below w.heap.size w w' := by
  go_enter Try.func39, Try.ntmps39
  go_wp2_with (fail)
  refine bodyPost_ret (v := .func (.func 99) #[] #[.pointer (some ⟨w.heap.size, 0, none⟩)]) (by simp [results, Try.results39, go_sem, *]) rfl ⟨rfl, by simp [go_sem], by simp, by (repeat' (first | (with_reducible exact Below.refl _ _) | (with_reducible refine Below.setCell ?_ ?_ _) | (with_reducible refine Below.alloc ?_ ?_ _) | (with_reducible refine Below.drew ?_) | (with_reducible refine below_drewN ?_ _) | (with_reducible assumption) | (with_reducible refine Below.trans ?_ (Below.mono (by with_reducible assumption) ?_)) | omega | (simp; done) | (simp; omega) | (simp [World.setCell]; omega)))⟩

theorem c_fails (x0 : Int) (w : World) :
    Calls Try.prog 34 #[.int .i64 x0] w fun e w' => e = .returned (.func (.func 97) #[] #[.pointer (some ⟨w.heap.size, 0, none⟩)]) ∧ (w'.cell? ⟨w.heap.size, 0, none⟩ = some (.int .i64 x0)) ∧ w.heap.size < w'.heap.size ∧ Below w.heap.size w w' := by
  go_enter Try.func34, Try.ntmps34
  go_wp2_with (fail)
  refine bodyPost_ret (v := .func (.func 97) #[] #[.pointer (some ⟨w.heap.size, 0, none⟩)]) (by simp [results, Try.results34, go_sem, *]) rfl ⟨rfl, by simp [go_sem], by simp, by (repeat' (first | (with_reducible exact Below.refl _ _) | (with_reducible refine Below.setCell ?_ ?_ _) | (with_reducible refine Below.alloc ?_ ?_ _) | (with_reducible refine Below.drew ?_) | (with_reducible refine below_drewN ?_ _) | (with_reducible assumption) | (with_reducible refine Below.trans ?_ (Below.mono (by with_reducible assumption) ?_)) | omega | (simp; done) | (simp; omega) | (simp [World.setCell]; omega)))⟩

theorem c_refuses (x0 : Int) (w : World) :
    Calls Try.prog 38 #[.int .i64 x0] w fun e w' => e = .returned (.func (.func 98) #[] #[.pointer (some ⟨w.heap.size, 0, none⟩)]) ∧ (w'.cell? ⟨w.heap.size, 0, none⟩ = some (.int .i64 x0)) ∧ w.heap.size < w'.heap.size ∧ Below w.heap.size w w' := by
  go_enter Try.func38, Try.ntmps38
  go_wp2_with (fail)
  refine bodyPost_ret (v := .func (.func 98) #[] #[.pointer (some ⟨w.heap.size, 0, none⟩)]) (by simp [results, Try.results38, go_sem, *]) rfl ⟨rfl, by simp [go_sem], by simp, by (repeat' (first | (with_reducible exact Below.refl _ _) | (with_reducible refine Below.setCell ?_ ?_ _) | (with_reducible refine Below.alloc ?_ ?_ _) | (with_reducible refine Below.drew ?_) | (with_reducible refine below_drewN ?_ _) | (with_reducible assumption) | (with_reducible refine Below.trans ?_ (Below.mono (by with_reducible assumption) ?_)) | omega | (simp; done) | (simp; omega) | (simp [World.setCell]; omega)))⟩

theorem c_is1 (q : Nat) (x0 x1 x2 x3 x4 x5 : Int) (w : World) (hq : q < w.heap.size) (h0 : w.cell? ⟨q, 0, none⟩ = some (.int .i64 x0)) (h1 : w.cell? ⟨q, 1, none⟩ = some (.int .i64 x1)) (h2 : w.cell? ⟨q, 2, none⟩ = some (.int .i64 x2)) (h3 : w.cell? ⟨q, 3, none⟩ = some (.int .i64 x3)) (h4 : w.cell? ⟨q, 4, none⟩ = some (.int .i64 x4)) (h5 : w.cell? ⟨q, 5, none⟩ = some (.int .i64 x5)) :
    Calls Try.prog 96 #[.agg #[.int .i64 x0, .int .i64 x1, .int .i64 x2, .int .i64 x3, .int .i64 x4, .int .i64 x5], .int .i64 0, .pointer (some ⟨q, 0, none⟩)] w fun e w' => e = .returned (.bool true) ∧ Below w.heap.size w w' := by
  have hE : ∀ w : World, (binOp .eql 25 (.agg #[.int .i64 x0, .int .i64 x1, .int .i64 x2, .int .i64 x3, .int .i64 x4, .int .i64 x5]) (.agg #[.int .i64 x0, .int .i64 x1, .int .i64 x2, .int .i64 x3, .int .i64 x4, .int .i64 x5])).run Try.prog w = .ok (.bool true) w := fun w => by rw [eql_vec]; simp
  go_enter Try.func96, Try.ntmps96
  go_wp2
  refine bodyPost_ret (v := .bool true) (by simp [results, Try.results96, go_sem, *]) rfl ⟨rfl, by (repeat' (first | (with_reducible exact Below.refl _ _) | (with_reducible refine Below.setCell ?_ ?_ _) | (with_reducible refine Below.alloc ?_ ?_ _) | (with_reducible refine Below.drew ?_) | (with_reducible refine below_drewN ?_ _) | (with_reducible assumption) | (with_reducible refine Below.trans ?_ (Below.mono (by with_reducible assumption) ?_)) | omega | (simp; done) | (simp; omega) | (simp [World.setCell]; omega)))⟩

theorem c_says1 (q : Nat) (x0 x1 y0 y1 : Int) (w : World) (hq : q < w.heap.size) (h0 : w.cell? ⟨q, 0, none⟩ = some (.int .i64 y0)) (h1 : w.cell? ⟨q, 1, none⟩ = some (.int .i64 y1)) (e0 : (x0 == y0) = true) (e1 : (x1 == y1) = true) :
    Calls Try.prog 99 #[.agg #[.int .i64 x0, .int .i64 x1], .int .i64 0, .pointer (some ⟨q, 0, none⟩)] w fun e w' => e = .returned (.bool true) ∧ Below w.heap.size w w' := by
  go_enter Try.func99, Try.ntmps99
  go_wp2
  refine bodyPost_ret (v := .bool true) (by simp [results, Try.results99, go_sem, *]) rfl ⟨rfl, by (repeat' (first | (with_reducible exact Below.refl _ _) | (with_reducible refine Below.setCell ?_ ?_ _) | (with_reducible refine Below.alloc ?_ ?_ _) | (with_reducible refine Below.drew ?_) | (with_reducible refine below_drewN ?_ _) | (with_reducible assumption) | (with_reducible refine Below.trans ?_ (Below.mono (by with_reducible assumption) ?_)) | omega | (simp; done) | (simp; omega) | (simp [World.setCell]; omega)))⟩

theorem c_fails1 (q : Nat) (x0 : Int) (w : World) (hq : q < w.heap.size) (h0 : w.cell? ⟨q, 0, none⟩ = some (.int .i64 x0)) :
    Calls Try.prog 97 #[.agg #[.int .i64 0, .int .i64 0, .int .i64 0, .int .i64 0, .int .i64 0, .int .i64 0], .int .i64 x0, .pointer (some ⟨q, 0, none⟩)] w fun e w' => e = .returned (.bool true) ∧ Below w.heap.size w w' := by
  have e0 : (x0 == x0) = true := by simp
  have hE : ∀ w : World, (binOp .eql 25 (.agg #[.int .i64 0, .int .i64 0, .int .i64 0, .int .i64 0, .int .i64 0, .int .i64 0]) (.agg #[.int .i64 0, .int .i64 0, .int .i64 0, .int .i64 0, .int .i64 0, .int .i64 0])).run Try.prog w = .ok (.bool true) w := fun w => by rw [eql_vec]; simp
  go_enter Try.func97, Try.ntmps97
  go_wp2
  refine bodyPost_ret (v := .bool true) (by simp [results, Try.results97, go_sem, *]) rfl ⟨rfl, by (repeat' (first | (with_reducible exact Below.refl _ _) | (with_reducible refine Below.setCell ?_ ?_ _) | (with_reducible refine Below.alloc ?_ ?_ _) | (with_reducible refine Below.drew ?_) | (with_reducible refine below_drewN ?_ _) | (with_reducible assumption) | (with_reducible refine Below.trans ?_ (Below.mono (by with_reducible assumption) ?_)) | omega | (simp; done) | (simp; omega) | (simp [World.setCell]; omega)))⟩

theorem c_refuses1 (q : Nat) (x0 : Int) (w : World) (hq : q < w.heap.size) (h0 : w.cell? ⟨q, 0, none⟩ = some (.int .i64 x0)) :
    Calls Try.prog 98 #[.agg #[.int .i64 0, .int .i64 0], .int .i64 x0, .pointer (some ⟨q, 0, none⟩)] w fun e w' => e = .returned (.bool true) ∧ Below w.heap.size w w' := by
  have e0 : (x0 == x0) = true := by simp
  go_enter Try.func98, Try.ntmps98
  go_wp2
  refine bodyPost_ret (v := .bool true) (by simp [results, Try.results98, go_sem, *]) rfl ⟨rfl, by (repeat' (first | (with_reducible exact Below.refl _ _) | (with_reducible refine Below.setCell ?_ ?_ _) | (with_reducible refine Below.alloc ?_ ?_ _) | (with_reducible refine Below.drew ?_) | (with_reducible refine below_drewN ?_ _) | (with_reducible assumption) | (with_reducible refine Below.trans ?_ (Below.mono (by with_reducible assumption) ?_)) | omega | (simp; done) | (simp; omega) | (simp [World.setCell]; omega)))⟩

end Go.Proofs.Ytpdaigenffecmaa

namespace Go.Proofs.Ytpdaigenffecmaa
open Go.RowKit Go.Shelf

theorem spSqrt_sq (S R : Nat) (h : S * 4294967296 = R * R) (hS : S ≤ 4503599627370496) (hR : R ≤ 4503599627370496) : spSqrt ((S : Int), (S : Int)) = ((R : Int), (R : Int), 0) := by
  have hi : isq (S * 4294967296) = R := isq_unique _ _ (by omega) (by rw [h]; exact Nat.mul_self_lt_mul_self (by omega))
  have hr : ∀ up, rt (S : Int) up = R := by
    intro up; unfold rt rtN
    simp only [Int.toNat_natCast]
    have hc : ¬ (up = true ∧ isq (S * 4294967296) * isq (S * 4294967296) ≠ S * 4294967296) := by rw [hi, h]; simp
    rw [if_neg hc, hi]; simp
  unfold spSqrt
  rw [if_pos (spChk_mk (by simp only; omega) (by simp only; omega) (by simp only; omega)), if_neg (by simp only; omega), hr, hr]
  unfold spTold; rw [if_neg (by omega)]
theorem norm_lit {E : Int} {a b c : Int × Int × Int} {S R : Int} (hs : sum3 a b c = (S, S, 0)) (hq : spSqrt (S, S) = (R, R, 0)) (he : sumE E a b c = 0) : normE E a b c = 0 ∧ norm3 a b c = (R, R, 0) := by
  unfold normE norm3
  rw [he, hs, show ivl (S, S, 0) = (S, S) from rfl, hq]; exact ⟨rfl, rfl⟩
theorem ev0 : vRes (errTo (chk3 (chk3 0 (4294967296) (4294967296) (8589934592) (8589934592) (12884901888) (12884901888) 3) (17179869184) (17179869184) (21474836480) (21474836480) (25769803776) (25769803776) 3) (spAdd ((4294967296), (4294967296)) ((17179869184), (17179869184))).2.2 (spAdd ((8589934592), (8589934592)) ((21474836480), (21474836480))).2.2 (spAdd ((12884901888), (12884901888)) ((25769803776), (25769803776))).2.2 3) (spAdd ((4294967296), (4294967296)) ((17179869184), (17179869184))) (spAdd ((8589934592), (8589934592)) ((21474836480), (21474836480))) (spAdd ((12884901888), (12884901888)) ((25769803776), (25769803776))) = .tuple #[.agg #[.int .i64 (21474836480), .int .i64 (21474836480), .int .i64 (30064771072), .int .i64 (30064771072), .int .i64 (38654705664), .int .i64 (38654705664)], .int .i64 0] := by
  kernel_rfl
theorem ev1 : vRes (errTo (chk3 (chk3 0 (4294967296) (4294967296) (8589934592) (8589934592) (12884901888) (12884901888) 3) (17179869184) (17179869184) (21474836480) (21474836480) (25769803776) (25769803776) 3) (spSub ((4294967296), (4294967296)) ((17179869184), (17179869184))).2.2 (spSub ((8589934592), (8589934592)) ((21474836480), (21474836480))).2.2 (spSub ((12884901888), (12884901888)) ((25769803776), (25769803776))).2.2 3) (spSub ((4294967296), (4294967296)) ((17179869184), (17179869184))) (spSub ((8589934592), (8589934592)) ((21474836480), (21474836480))) (spSub ((12884901888), (12884901888)) ((25769803776), (25769803776))) = .tuple #[.agg #[.int .i64 (-12884901888), .int .i64 (-12884901888), .int .i64 (-12884901888), .int .i64 (-12884901888), .int .i64 (-12884901888), .int .i64 (-12884901888)], .int .i64 0] := by
  kernel_rfl
theorem ev2 : vRes (errTo (chk3 0 (4294967296) (4294967296) (8589934592) (8589934592) (12884901888) (12884901888) 3) (spNeg ((4294967296), (4294967296))).2.2 (spNeg ((8589934592), (8589934592))).2.2 (spNeg ((12884901888), (12884901888))).2.2 3) (spNeg ((4294967296), (4294967296))) (spNeg ((8589934592), (8589934592))) (spNeg ((12884901888), (12884901888))) = .tuple #[.agg #[.int .i64 (-4294967296), .int .i64 (-4294967296), .int .i64 (-8589934592), .int .i64 (-8589934592), .int .i64 (-12884901888), .int .i64 (-12884901888)], .int .i64 0] := by
  kernel_rfl
theorem ev3 : vRes (errTo (chk3 (chk3 0 (4294967296) (4294967296) (8589934592) (8589934592) (12884901888) (12884901888) 3) (8589934592) (8589934592) (8589934592) (8589934592) (8589934592) (8589934592) 3) (spMul ((4294967296), (4294967296)) ((8589934592), (8589934592))).2.2 (spMul ((8589934592), (8589934592)) ((8589934592), (8589934592))).2.2 (spMul ((12884901888), (12884901888)) ((8589934592), (8589934592))).2.2 3) (spMul ((4294967296), (4294967296)) ((8589934592), (8589934592))) (spMul ((8589934592), (8589934592)) ((8589934592), (8589934592))) (spMul ((12884901888), (12884901888)) ((8589934592), (8589934592))) = .tuple #[.agg #[.int .i64 (8589934592), .int .i64 (8589934592), .int .i64 (17179869184), .int .i64 (17179869184), .int .i64 (25769803776), .int .i64 (25769803776)], .int .i64 0] := by
  kernel_rfl
theorem ev4 : iRes (sumE (chk3 (chk3 0 (4294967296) (4294967296) (8589934592) (8589934592) (12884901888) (12884901888) 3) (17179869184) (17179869184) (21474836480) (21474836480) (25769803776) (25769803776) 3) (spMul ((4294967296), (4294967296)) ((17179869184), (17179869184))) (spMul ((8589934592), (8589934592)) ((21474836480), (21474836480))) (spMul ((12884901888), (12884901888)) ((25769803776), (25769803776)))) (sum3 (spMul ((4294967296), (4294967296)) ((17179869184), (17179869184))) (spMul ((8589934592), (8589934592)) ((21474836480), (21474836480))) (spMul ((12884901888), (12884901888)) ((25769803776), (25769803776)))) = .tuple #[.agg #[.int .i64 (137438953472), .int .i64 (137438953472)], .int .i64 0] := by
  kernel_rfl
theorem ev5 : vRes (errTo (errTo (errTo (chk3 (chk3 0 (4294967296) (4294967296) (0) (0) (0) (0) 3) (0) (0) (4294967296) (4294967296) (0) (0) 3) (spMul ((0), (0)) ((0), (0))).2.2 (spMul ((0), (0)) ((0), (0))).2.2 (spMul ((4294967296), (4294967296)) ((4294967296), (4294967296))).2.2 3) (spMul ((0), (0)) ((4294967296), (4294967296))).2.2 (spMul ((4294967296), (4294967296)) ((0), (0))).2.2 (spMul ((0), (0)) ((0), (0))).2.2 3) (spSub (ivl (spMul ((0), (0)) ((0), (0)))) (ivl (spMul ((0), (0)) ((4294967296), (4294967296))))).2.2 (spSub (ivl (spMul ((0), (0)) ((0), (0)))) (ivl (spMul ((4294967296), (4294967296)) ((0), (0))))).2.2 (spSub (ivl (spMul ((4294967296), (4294967296)) ((4294967296), (4294967296)))) (ivl (spMul ((0), (0)) ((0), (0))))).2.2 3) (spSub (ivl (spMul ((0), (0)) ((0), (0)))) (ivl (spMul ((0), (0)) ((4294967296), (4294967296))))) (spSub (ivl (spMul ((0), (0)) ((0), (0)))) (ivl (spMul ((4294967296), (4294967296)) ((0), (0))))) (spSub (ivl (spMul ((4294967296), (4294967296)) ((4294967296), (4294967296)))) (ivl (spMul ((0), (0)) ((0), (0))))) = .tuple #[.agg #[.int .i64 (0), .int .i64 (0), .int .i64 (0), .int .i64 (0), .int .i64 (4294967296), .int .i64 (4294967296)], .int .i64 0] := by
  kernel_rfl
theorem ev6 : vRes (errTo (errTo (errTo (chk3 (chk3 0 (0) (0) (4294967296) (4294967296) (0) (0) 3) (4294967296) (4294967296) (0) (0) (0) (0) 3) (spMul ((4294967296), (4294967296)) ((0), (0))).2.2 (spMul ((0), (0)) ((4294967296), (4294967296))).2.2 (spMul ((0), (0)) ((0), (0))).2.2 3) (spMul ((0), (0)) ((0), (0))).2.2 (spMul ((0), (0)) ((0), (0))).2.2 (spMul ((4294967296), (4294967296)) ((4294967296), (4294967296))).2.2 3) (spSub (ivl (spMul ((4294967296), (4294967296)) ((0), (0)))) (ivl (spMul ((0), (0)) ((0), (0))))).2.2 (spSub (ivl (spMul ((0), (0)) ((4294967296), (4294967296)))) (ivl (spMul ((0), (0)) ((0), (0))))).2.2 (spSub (ivl (spMul ((0), (0)) ((0), (0)))) (ivl (spMul ((4294967296), (4294967296)) ((4294967296), (4294967296))))).2.2 3) (spSub (ivl (spMul ((4294967296), (4294967296)) ((0), (0)))) (ivl (spMul ((0), (0)) ((0), (0))))) (spSub (ivl (spMul ((0), (0)) ((4294967296), (4294967296)))) (ivl (spMul ((0), (0)) ((0), (0))))) (spSub (ivl (spMul ((0), (0)) ((0), (0)))) (ivl (spMul ((4294967296), (4294967296)) ((4294967296), (4294967296))))) = .tuple #[.agg #[.int .i64 (0), .int .i64 (0), .int .i64 (0), .int .i64 (0), .int .i64 (-4294967296), .int .i64 (-4294967296)], .int .i64 0] := by
  kernel_rfl
theorem ev7 : iRes (normE (chk3 0 (8589934592) (8589934592) (12884901888) (12884901888) (25769803776) (25769803776) 3) (spPow ((8589934592), (8589934592)) 2) (spPow ((12884901888), (12884901888)) 2) (spPow ((25769803776), (25769803776)) 2)) (norm3 (spPow ((8589934592), (8589934592)) 2) (spPow ((12884901888), (12884901888)) 2) (spPow ((25769803776), (25769803776)) 2)) = .tuple #[.agg #[.int .i64 (30064771072), .int .i64 (30064771072)], .int .i64 0] := by
  obtain ⟨h1, h2⟩ := norm_lit (E := chk3 0 (8589934592) (8589934592) (12884901888) (12884901888) (25769803776) (25769803776) 3) (a := spPow ((8589934592), (8589934592)) 2) (b := spPow ((12884901888), (12884901888)) 2) (c := spPow ((25769803776), (25769803776)) 2) (S := 210453397504) (R := 30064771072) (by kernel_rfl) (spSqrt_sq 210453397504 30064771072 (by decide) (by decide) (by decide)) (by kernel_rfl)
  rw [h1, h2]
  kernel_rfl
theorem ev8 : vRes (errTo (normE (chk3 0 (0) (0) (0) (0) (-17179869184) (-17179869184) 3) (spPow ((0), (0)) 2) (spPow ((0), (0)) 2) (spPow ((-17179869184), (-17179869184)) 2)) (spDiv ((0), (0)) (ivl (norm3 (spPow ((0), (0)) 2) (spPow ((0), (0)) 2) (spPow ((-17179869184), (-17179869184)) 2)))).2.2 (spDiv ((0), (0)) (ivl (norm3 (spPow ((0), (0)) 2) (spPow ((0), (0)) 2) (spPow ((-17179869184), (-17179869184)) 2)))).2.2 (spDiv ((-17179869184), (-17179869184)) (ivl (norm3 (spPow ((0), (0)) 2) (spPow ((0), (0)) 2) (spPow ((-17179869184), (-17179869184)) 2)))).2.2 3) (spDiv ((0), (0)) (ivl (norm3 (spPow ((0), (0)) 2) (spPow ((0), (0)) 2) (spPow ((-17179869184), (-17179869184)) 2)))) (spDiv ((0), (0)) (ivl (norm3 (spPow ((0), (0)) 2) (spPow ((0), (0)) 2) (spPow ((-17179869184), (-17179869184)) 2)))) (spDiv ((-17179869184), (-17179869184)) (ivl (norm3 (spPow ((0), (0)) 2) (spPow ((0), (0)) 2) (spPow ((-17179869184), (-17179869184)) 2)))) = .tuple #[.agg #[.int .i64 (0), .int .i64 (0), .int .i64 (0), .int .i64 (0), .int .i64 (-4294967296), .int .i64 (-4294967296)], .int .i64 0] := by
  obtain ⟨h1, h2⟩ := norm_lit (E := chk3 0 (0) (0) (0) (0) (-17179869184) (-17179869184) 3) (a := spPow ((0), (0)) 2) (b := spPow ((0), (0)) 2) (c := spPow ((-17179869184), (-17179869184)) 2) (S := 68719476736) (R := 17179869184) (by kernel_rfl) (spSqrt_sq 68719476736 17179869184 (by decide) (by decide) (by decide)) (by kernel_rfl)
  rw [h1, h2]
  kernel_rfl
theorem ev9 : vRes (errTo (normE (chk3 0 (0) (0) (0) (0) (0) (0) 3) (spPow ((0), (0)) 2) (spPow ((0), (0)) 2) (spPow ((0), (0)) 2)) (spDiv ((0), (0)) (ivl (norm3 (spPow ((0), (0)) 2) (spPow ((0), (0)) 2) (spPow ((0), (0)) 2)))).2.2 (spDiv ((0), (0)) (ivl (norm3 (spPow ((0), (0)) 2) (spPow ((0), (0)) 2) (spPow ((0), (0)) 2)))).2.2 (spDiv ((0), (0)) (ivl (norm3 (spPow ((0), (0)) 2) (spPow ((0), (0)) 2) (spPow ((0), (0)) 2)))).2.2 3) (spDiv ((0), (0)) (ivl (norm3 (spPow ((0), (0)) 2) (spPow ((0), (0)) 2) (spPow ((0), (0)) 2)))) (spDiv ((0), (0)) (ivl (norm3 (spPow ((0), (0)) 2) (spPow ((0), (0)) 2) (spPow ((0), (0)) 2)))) (spDiv ((0), (0)) (ivl (norm3 (spPow ((0), (0)) 2) (spPow ((0), (0)) 2) (spPow ((0), (0)) 2)))) = .tuple #[.agg #[.int .i64 (0), .int .i64 (0), .int .i64 (0), .int .i64 (0), .int .i64 (0), .int .i64 (0)], .int .i64 7] := by
  obtain ⟨h1, h2⟩ := norm_lit (E := chk3 0 (0) (0) (0) (0) (0) (0) 3) (a := spPow ((0), (0)) 2) (b := spPow ((0), (0)) 2) (c := spPow ((0), (0)) 2) (S := 0) (R := 0) (by kernel_rfl) (spSqrt_sq 0 0 (by decide) (by decide) (by decide)) (by kernel_rfl)
  rw [h1, h2]
  kernel_rfl
theorem ev10 : iRes (sumE (chk3 (chk3 0 (4398046511104) (4398046511104) (0) (0) (0) (0) 3) (4402341478400) (4402341478400) (0) (0) (0) (0) 3) (spMul ((4398046511104), (4398046511104)) ((4402341478400), (4402341478400))) (spMul ((0), (0)) ((0), (0))) (spMul ((0), (0)) ((0), (0)))) (sum3 (spMul ((4398046511104), (4398046511104)) ((4402341478400), (4402341478400))) (spMul ((0), (0)) ((0), (0))) (spMul ((0), (0)) ((0), (0)))) = .tuple #[.agg #[.int .i64 (0), .int .i64 (0)], .int .i64 6] := by
  kernel_rfl

end Go.Proofs.Ytpdaigenffecmaa

namespace Go.Proofs.Ytpdaigenffecmaa
open Go.RowKit Go.Shelf

/-- A draft's lower end. -/
def dLo (k a b : Int) : Int := a.tmod (wrap64 (2 ^ (b % k).toNat) + 1)
def dHi (a b wd : Int) : Int := min (dLo 52 a b + wd) 4503599627370496
def dHs (a b wd : Int) : Int := dLo 37 a b + wrap64 (wd / 2 ^ (b % 32).toNat)
theorem dsmall_valid (a b wd : Int) (hw : 0 ≤ wd ∧ wd ≤ 4294967295) : SmallI (dLo 37 a b) (dHs a b wd) := by
  obtain ⟨P, hp1, hp2, hp3, hp4⟩ := pow_code b 37 36 68719476736 (by decide) (by decide) (by decide) (by decide)
  obtain ⟨Q, hq1, hq2, hq3⟩ := shr_code wd (b % 32).toNat hw
  rw [show ((37 : Nat) : Int) = 37 from rfl] at hp1
  have ht := tmod_bounds a (P + 1) (by omega)
  unfold dHs dLo SmallI
  rw [hp1, hq1]
  omega
theorem dspan_valid (a b wd : Int) (hw : 0 ≤ wd ∧ wd ≤ 4294967295) : spChk (dLo 52 a b, dHi a b wd) = 0 := by
  obtain ⟨P, hp1, hp2, hp3, hp4⟩ := pow_code b 52 51 2251799813685248 (by decide) (by decide) (by decide) (by decide)
  rw [show ((52 : Nat) : Int) = 52 from rfl] at hp1
  have ht := tmod_bounds a (P + 1) (by omega)
  unfold dHi dLo
  rw [hp1]
  exact spChk_mk (by simp only; omega) (by simp only; omega) (by simp only; omega)

theorem c_dsmallD (at_ b wd : Int) (hb : 0 ≤ b ∧ b ≤ 255) (hw : 0 ≤ wd ∧ wd ≤ 4294967295) (w : World) :
    Calls Try.prog 101 #[.agg #[.int .i64 at_, .int .u8 b, .int .u32 wd]] w fun e w' => e = .returned (.agg #[.int .i64 (dLo 37 at_ b), .int .i64 (dHs at_ b wd)]) ∧ Below w.heap.size w w' := by
  obtain ⟨P, hp1, hp2, hp3, hp4⟩ := pow_code b 37 36 68719476736 (by decide) (by decide) (by decide) (by decide)
  obtain ⟨Q, hq1, hq2, hq3⟩ := shr_code wd (b % 32).toNat hw
  rw [show ((37 : Nat) : Int) = 37 from rfl] at hp1
  have ht := tmod_bounds at_ (P + 1) (by omega)
  obtain ⟨lo, hlo⟩ : ∃ lo, at_.tmod (P + 1) = lo := ⟨_, rfl⟩
  have e1 : dLo 37 at_ b = lo := by unfold dLo; rw [hp1, hlo]
  have e2 : dHs at_ b wd = lo + Q := by unfold dHs; rw [e1, hq1]
  rw [e1, e2]
  clear e1 e2
  rw [hlo] at ht
  have hz : ¬ P + 1 = 0 := by omega
  have hs : wrap64 (lo + Q) = lo + Q := w64_id (by omega) (by omega)
  clear ht hp3 hp4 hq2 hq3
  go_enter Try.func101, Try.ntmps101
  go_wp2_with (fail)
  refine bodyPost_ret (v := .agg #[.int .i64 lo, .int .i64 (lo + Q)]) (by simp [results, Try.results101, go_sem, *]) rfl ⟨rfl, by (repeat' (first | (with_reducible exact Below.refl _ _) | (with_reducible refine Below.setCell ?_ ?_ _) | (with_reducible refine Below.alloc ?_ ?_ _) | (with_reducible refine Below.drew ?_) | (with_reducible refine below_drewN ?_ _) | (with_reducible assumption) | (with_reducible refine Below.trans ?_ (Below.mono (by with_reducible assumption) ?_)) | omega | (simp; done) | (simp; omega) | (simp [World.setCell]; omega)))⟩

theorem c_dspanD (at_ b wd : Int) (hb : 0 ≤ b ∧ b ≤ 255) (hw : 0 ≤ wd ∧ wd ≤ 4294967295) (w : World) :
    Calls Try.prog 100 #[.agg #[.int .i64 at_, .int .u8 b, .int .u32 wd]] w fun e w' => e = .returned (.agg #[.int .i64 (dLo 52 at_ b), .int .i64 (dHi at_ b wd)]) ∧ Below w.heap.size w w' := by
  obtain ⟨P, hp1, hp2, hp3, hp4⟩ := pow_code b 52 51 2251799813685248 (by decide) (by decide) (by decide) (by decide)
  rw [show ((52 : Nat) : Int) = 52 from rfl] at hp1
  have ht := tmod_bounds at_ (P + 1) (by omega)
  obtain ⟨lo, hlo⟩ : ∃ lo, at_.tmod (P + 1) = lo := ⟨_, rfl⟩
  have e1 : dLo 52 at_ b = lo := by unfold dLo; rw [hp1, hlo]
  have e2 : dHi at_ b wd = min (lo + wd) 4503599627370496 := by unfold dHi; rw [e1]
  rw [e1, e2]
  clear e1 e2
  rw [hlo] at ht
  have hz : ¬ P + 1 = 0 := by omega
  have hq : wrap64 wd = wd := w64_id (by omega) (by omega)
  have hs : wrap64 (lo + wd) = lo + wd := w64_id (by omega) (by omega)
  clear ht hp3 hp4
  go_enter Try.func100, Try.ntmps100
  go_wp2_with (fail)
  refine bodyPost_ret (v := .agg #[.int .i64 lo, .int .i64 (min (lo + wd) 4503599627370496)]) (by simp [results, Try.results100, go_sem, *]) rfl ⟨rfl, by (repeat' (first | (with_reducible exact Below.refl _ _) | (with_reducible refine Below.setCell ?_ ?_ _) | (with_reducible refine Below.alloc ?_ ?_ _) | (with_reducible refine Below.drew ?_) | (with_reducible refine below_drewN ?_ _) | (with_reducible assumption) | (with_reducible refine Below.trans ?_ (Below.mono (by with_reducible assumption) ?_)) | omega | (simp; done) | (simp; omega) | (simp [World.setCell]; omega)))⟩

end Go.Proofs.Ytpdaigenffecmaa

namespace Go.Proofs.Ytpdaigenffecmaa
open Go.RowKit Go.Shelf

theorem spAll_comm (a b : Int × Int) : spAll a b = spAll b a := by
  unfold spAll
  rcases spChk_or a with h | h <;> rcases spChk_or b with k | k <;> simp [h, k]
theorem spAdd_comm (a b : Int × Int) : spAdd a b = spAdd b a := by
  unfold spAdd; rw [spAll_comm, Int.add_comm a.1, Int.add_comm a.2]
theorem fxChk_or (a : Int) : fxChk a = 0 ∨ fxChk a = 2 := by unfold fxChk; split <;> simp
theorem fxAll_comm (a b : Int) : fxAll a b = fxAll b a := by
  unfold fxAll
  rcases fxChk_or a with h | h <;> rcases fxChk_or b with k | k <;> simp [h, k]
theorem fxMul_comm (a b : Int) (up : Bool) : fxMul a b up = fxMul b a up := by
  unfold fxMul; rw [fxAll_comm, Int.mul_comm]
theorem spMul_comm (a b : Int × Int) : spMul a b = spMul b a := by
  unfold spMul; rw [spAll_comm]
  unfold spFour
  rw [fxMul_comm b.1 a.1, fxMul_comm b.1 a.1, fxMul_comm b.1 a.2, fxMul_comm b.1 a.2, fxMul_comm b.2 a.1, fxMul_comm b.2 a.1, fxMul_comm b.2 a.2, fxMul_comm b.2 a.2]
  split
  · by_cases h : (fxMul a.1 b.1 false).2 ≠ 0 ∨ (fxMul a.1 b.1 true).2 ≠ 0 ∨ (fxMul a.1 b.2 false).2 ≠ 0 ∨ (fxMul a.1 b.2 true).2 ≠ 0 ∨ (fxMul a.2 b.1 false).2 ≠ 0 ∨ (fxMul a.2 b.1 true).2 ≠ 0 ∨ (fxMul a.2 b.2 false).2 ≠ 0 ∨ (fxMul a.2 b.2 true).2 ≠ 0
    · rw [if_pos h, if_pos (by omega)]
    · rw [if_neg h, if_neg (by omega)]
      congr 1 <;> omega
  · rfl

/-- The negative of an interval. -/
def ngI (a : Int × Int) : Int × Int := (-a.2, -a.1)
theorem spNeg_is {a : Int × Int} (h : spChk a = 0) : spNeg a = (-a.2, -a.1, 0) := spNeg_ok a h
theorem ngI_ok {a : Int × Int} (h : spChk a = 0) : spChk (ngI a) = 0 := by
  obtain ⟨h1, h2, h3⟩ := spChk_ok h
  exact spChk_mk (by simp only [ngI]; omega) (by simp only [ngI]; omega) (by simp only [ngI]; omega)
theorem spAdd_neg {a b : Int × Int} (ha : spChk a = 0) (hb : spChk b = 0) : spAdd a (ngI b) = spSub a b := by
  unfold spAdd spSub
  rw [if_pos (by unfold spAll; rw [if_pos ha]; exact ngI_ok hb), if_pos (by unfold spAll; rw [if_pos ha]; exact hb)]
  simp only [ngI]; congr 1
theorem spTold_neg (lo hi : Int) : (spTold lo hi).2.2 = (spTold (-hi) (-lo)).2.2 ∧ ((spTold lo hi).2.2 = 0 → (spTold lo hi).1 = -(spTold (-hi) (-lo)).2.1 ∧ (spTold lo hi).2.1 = -(spTold (-hi) (-lo)).1) := by
  unfold spTold
  by_cases h : lo < -4503599627370496 ∨ 4503599627370496 < hi
  · rw [if_pos h, if_pos (by omega)]; simp
  · rw [if_neg h, if_neg (by omega)]; simp
theorem spSub_swap {a b : Int × Int} (ha : spChk a = 0) (hb : spChk b = 0) :
    (spSub a b).2.2 = (spSub b a).2.2 ∧ ((spSub a b).2.2 = 0 → (spSub a b).1 = -(spSub b a).2.1 ∧ (spSub a b).2.1 = -(spSub b a).1) := by
  unfold spSub
  rw [if_pos (by unfold spAll; rw [if_pos ha]; exact hb), if_pos (by unfold spAll; rw [if_pos hb]; exact ha)]
  have := spTold_neg (a.1 - b.2) (a.2 - b.1)
  rw [show -(a.2 - b.1) = b.1 - a.2 by omega, show -(a.1 - b.2) = b.2 - a.1 by omega] at this
  exact this

/-- What vec.Neg answers at a vector of valid intervals. -/
theorem neg_valid {x0 x1 x2 x3 x4 x5 : Int} (h0 : spChk (x0, x1) = 0) (h1 : spChk (x2, x3) = 0) (h2 : spChk (x4, x5) = 0) :
    vRes (errTo (chk3 0 x0 x1 x2 x3 x4 x5 3) (spNeg (x0, x1)).2.2 (spNeg (x2, x3)).2.2 (spNeg (x4, x5)).2.2 3) (spNeg (x0, x1)) (spNeg (x2, x3)) (spNeg (x4, x5)) =
    .tuple #[.agg #[.int .i64 (-x1), .int .i64 (-x0), .int .i64 (-x3), .int .i64 (-x2), .int .i64 (-x5), .int .i64 (-x4)], .int .i64 0] := by
  rw [chk3_ok ⟨h0, h1, h2⟩, spNeg_is h0, spNeg_is h1, spNeg_is h2]
  simp [errTo, fst2, vRes]
/-- Two results of which each is the other's negative. -/
theorem swap_form (e f : Int) (a b c a' b' c' : Int × Int × Int) (hef : e = f) (va : GoodR a') (vb : GoodR b') (vc : GoodR c')
    (ha : e = 0 → a.1 = -a'.2.1 ∧ a.2.1 = -a'.1) (hb : e = 0 → b.1 = -b'.2.1 ∧ b.2.1 = -b'.1) (hc : e = 0 → c.1 = -c'.2.1 ∧ c.2.1 = -c'.1) :
    ∃ n0 n1 n2 n3 n4 n5 m0 m1 m2 m3 m4 m5, vRes e a b c = .tuple #[.agg #[.int .i64 n0, .int .i64 n1, .int .i64 n2, .int .i64 n3, .int .i64 n4, .int .i64 n5], .int .i64 e] ∧
      vRes f a' b' c' = .tuple #[.agg #[.int .i64 m0, .int .i64 m1, .int .i64 m2, .int .i64 m3, .int .i64 m4, .int .i64 m5], .int .i64 f] ∧
      spChk (m0, m1) = 0 ∧ spChk (m2, m3) = 0 ∧ spChk (m4, m5) = 0 ∧
      (e = 0 → n0 = -m1 ∧ n1 = -m0 ∧ n2 = -m3 ∧ n3 = -m2 ∧ n4 = -m5 ∧ n5 = -m4) := by
  subst hef
  by_cases h : e = 0
  · refine ⟨a.1, a.2.1, b.1, b.2.1, c.1, c.2.1, a'.1, a'.2.1, b'.1, b'.2.1, c'.1, c'.2.1, ?_, ?_, va.val, vb.val, vc.val, fun _ => ⟨(ha h).1, (ha h).2, (hb h).1, (hb h).2, (hc h).1, (hc h).2⟩⟩
    · unfold vRes; rw [if_pos h, h]
    · unfold vRes; rw [if_pos h, h]
  · have z : spChk ((0 : Int), (0 : Int)) = 0 := spChk_mk (by decide) (by decide) (by decide)
    refine ⟨0, 0, 0, 0, 0, 0, 0, 0, 0, 0, 0, 0, ?_, ?_, z, z, z, fun h2 => absurd h2 h⟩
    · unfold vRes; rw [if_neg h]
    · unfold vRes; rw [if_neg h]

end Go.Proofs.Ytpdaigenffecmaa

namespace Go.Proofs.Ytpdaigenffecmaa
open Go.RowKit Go.Shelf

theorem errTo_zero {a b c : Int} (h : errTo 0 a b c 3 = 0) : a = 0 ∧ b = 0 ∧ c = 0 := by
  unfold errTo fst2 at h
  by_cases h1 : a = 0 <;> by_cases h2 : b = 0 <;> by_cases h3 : c = 0 <;> simp_all
theorem errTo_six {e a b c : Int} (he : e = 0 ∨ e = 6) (ha : a = 0 ∨ a = 6) (hb : b = 0 ∨ b = 6) (hc : c = 0 ∨ c = 6) : errTo e a b c 3 = if e = 0 ∧ a = 0 ∧ b = 0 ∧ c = 0 then 0 else 6 := by
  rcases he with rfl | rfl <;> rcases ha with rfl | rfl <;> rcases hb with rfl | rfl <;> rcases hc with rfl | rfl <;> simp [errTo, fst2]
theorem valid2 {x0 x1 x2 x3 x4 x5 y0 y1 y2 y3 y4 y5 : Int} (hx0 : spChk (x0, x1) = 0) (hx1 : spChk (x2, x3) = 0) (hx2 : spChk (x4, x5) = 0) (hy0 : spChk (y0, y1) = 0) (hy1 : spChk (y2, y3) = 0) (hy2 : spChk (y4, y5) = 0) : chk3 (chk3 0 x0 x1 x2 x3 x4 x5 3) y0 y1 y2 y3 y4 y5 3 = 0 ∧ chk3 (chk3 0 y0 y1 y2 y3 y4 y5 3) x0 x1 x2 x3 x4 x5 3 = 0 := by
  constructor
  · rw [chk3_ok ⟨hx0, hx1, hx2⟩]; exact chk3_ok ⟨hy0, hy1, hy2⟩
  · rw [chk3_ok ⟨hy0, hy1, hy2⟩]; exact chk3_ok ⟨hx0, hx1, hx2⟩
theorem ord_add {x0 x1 x2 x3 x4 x5 y0 y1 y2 y3 y4 y5 : Int} (hx0 : spChk (x0, x1) = 0) (hx1 : spChk (x2, x3) = 0) (hx2 : spChk (x4, x5) = 0) (hy0 : spChk (y0, y1) = 0) (hy1 : spChk (y2, y3) = 0) (hy2 : spChk (y4, y5) = 0) : vRes (errTo (chk3 (chk3 0 x0 x1 x2 x3 x4 x5 3) y0 y1 y2 y3 y4 y5 3) (spAdd (x0, x1) (y0, y1)).2.2 (spAdd (x2, x3) (y2, y3)).2.2 (spAdd (x4, x5) (y4, y5)).2.2 3) (spAdd (x0, x1) (y0, y1)) (spAdd (x2, x3) (y2, y3)) (spAdd (x4, x5) (y4, y5)) = vRes (errTo (chk3 (chk3 0 y0 y1 y2 y3 y4 y5 3) x0 x1 x2 x3 x4 x5 3) (spAdd (y0, y1) (x0, x1)).2.2 (spAdd (y2, y3) (x2, x3)).2.2 (spAdd (y4, y5) (x4, x5)).2.2 3) (spAdd (y0, y1) (x0, x1)) (spAdd (y2, y3) (x2, x3)) (spAdd (y4, y5) (x4, x5)) := by
  obtain ⟨h1, h2⟩ := valid2 hx0 hx1 hx2 hy0 hy1 hy2
  rw [h1, h2, spAdd_comm (x0, x1), spAdd_comm (x2, x3), spAdd_comm (x4, x5)]
theorem ord_dot {x0 x1 x2 x3 x4 x5 y0 y1 y2 y3 y4 y5 : Int} (hx0 : spChk (x0, x1) = 0) (hx1 : spChk (x2, x3) = 0) (hx2 : spChk (x4, x5) = 0) (hy0 : spChk (y0, y1) = 0) (hy1 : spChk (y2, y3) = 0) (hy2 : spChk (y4, y5) = 0) : iRes (sumE (chk3 (chk3 0 x0 x1 x2 x3 x4 x5 3) y0 y1 y2 y3 y4 y5 3) (spMul (x0, x1) (y0, y1)) (spMul (x2, x3) (y2, y3)) (spMul (x4, x5) (y4, y5))) (sum3 (spMul (x0, x1) (y0, y1)) (spMul (x2, x3) (y2, y3)) (spMul (x4, x5) (y4, y5))) = iRes (sumE (chk3 (chk3 0 y0 y1 y2 y3 y4 y5 3) x0 x1 x2 x3 x4 x5 3) (spMul (y0, y1) (x0, x1)) (spMul (y2, y3) (x2, x3)) (spMul (y4, y5) (x4, x5))) (sum3 (spMul (y0, y1) (x0, x1)) (spMul (y2, y3) (x2, x3)) (spMul (y4, y5) (x4, x5))) := by
  obtain ⟨h1, h2⟩ := valid2 hx0 hx1 hx2 hy0 hy1 hy2
  rw [h1, h2, spMul_comm (x0, x1), spMul_comm (x2, x3), spMul_comm (x4, x5)]
theorem ord_sub {x0 x1 x2 x3 x4 x5 y0 y1 y2 y3 y4 y5 : Int} (hx0 : spChk (x0, x1) = 0) (hx1 : spChk (x2, x3) = 0) (hx2 : spChk (x4, x5) = 0) (hy0 : spChk (y0, y1) = 0) (hy1 : spChk (y2, y3) = 0) (hy2 : spChk (y4, y5) = 0) : ∃ n0 n1 n2 n3 n4 n5 m0 m1 m2 m3 m4 m5 e, vRes (errTo (chk3 (chk3 0 x0 x1 x2 x3 x4 x5 3) y0 y1 y2 y3 y4 y5 3) (spSub (x0, x1) (y0, y1)).2.2 (spSub (x2, x3) (y2, y3)).2.2 (spSub (x4, x5) (y4, y5)).2.2 3) (spSub (x0, x1) (y0, y1)) (spSub (x2, x3) (y2, y3)) (spSub (x4, x5) (y4, y5)) = .tuple #[.agg #[.int .i64 n0, .int .i64 n1, .int .i64 n2, .int .i64 n3, .int .i64 n4, .int .i64 n5], .int .i64 e] ∧ vRes (errTo (chk3 (chk3 0 y0 y1 y2 y3 y4 y5 3) x0 x1 x2 x3 x4 x5 3) (spSub (y0, y1) (x0, x1)).2.2 (spSub (y2, y3) (x2, x3)).2.2 (spSub (y4, y5) (x4, x5)).2.2 3) (spSub (y0, y1) (x0, x1)) (spSub (y2, y3) (x2, x3)) (spSub (y4, y5) (x4, x5)) = .tuple #[.agg #[.int .i64 m0, .int .i64 m1, .int .i64 m2, .int .i64 m3, .int .i64 m4, .int .i64 m5], .int .i64 e] ∧ spChk (m0, m1) = 0 ∧ spChk (m2, m3) = 0 ∧ spChk (m4, m5) = 0 ∧ (e = 0 → n0 = -m1 ∧ n1 = -m0 ∧ n2 = -m3 ∧ n3 = -m2 ∧ n4 = -m5 ∧ n5 = -m4) := by
  obtain ⟨h1, h2⟩ := valid2 hx0 hx1 hx2 hy0 hy1 hy2
  obtain ⟨a1, a2⟩ := spSub_swap hx0 hy0
  obtain ⟨b1, b2⟩ := spSub_swap hx1 hy1
  obtain ⟨c1, c2⟩ := spSub_swap hx2 hy2
  rw [h1, h2]
  have hef : errTo 0 (spSub (x0, x1) (y0, y1)).2.2 (spSub (x2, x3) (y2, y3)).2.2 (spSub (x4, x5) (y4, y5)).2.2 3 = errTo 0 (spSub (y0, y1) (x0, x1)).2.2 (spSub (y2, y3) (x2, x3)).2.2 (spSub (y4, y5) (x4, x5)).2.2 3 := by rw [a1, b1, c1]
  obtain ⟨n0, n1, n2, n3, n4, n5, m0, m1, m2, m3, m4, m5, q1, q2, q3, q4, q5, q6⟩ := swap_form _ _ (spSub (x0, x1) (y0, y1)) (spSub (x2, x3) (y2, y3)) (spSub (x4, x5) (y4, y5)) (spSub (y0, y1) (x0, x1)) (spSub (y2, y3) (x2, x3)) (spSub (y4, y5) (x4, x5)) hef
    (spSub_good hy0 hx0) (spSub_good hy1 hx1) (spSub_good hy2 hx2) (fun h => a2 (errTo_zero h).1) (fun h => b2 (errTo_zero h).2.1) (fun h => c2 (errTo_zero h).2.2)
  rw [← hef] at q2
  exact ⟨n0, n1, n2, n3, n4, n5, m0, m1, m2, m3, m4, m5, _, q1, by rw [← hef]; exact q2, q3, q4, q5, q6⟩
theorem ord_cross {x0 x1 x2 x3 x4 x5 y0 y1 y2 y3 y4 y5 : Int} (hx0 : spChk (x0, x1) = 0) (hx1 : spChk (x2, x3) = 0) (hx2 : spChk (x4, x5) = 0) (hy0 : spChk (y0, y1) = 0) (hy1 : spChk (y2, y3) = 0) (hy2 : spChk (y4, y5) = 0) : ∃ n0 n1 n2 n3 n4 n5 m0 m1 m2 m3 m4 m5 e, vRes (errTo (errTo (errTo (chk3 (chk3 0 x0 x1 x2 x3 x4 x5 3) y0 y1 y2 y3 y4 y5 3) (spMul (x2, x3) (y4, y5)).2.2 (spMul (x4, x5) (y0, y1)).2.2 (spMul (x0, x1) (y2, y3)).2.2 3) (spMul (x4, x5) (y2, y3)).2.2 (spMul (x0, x1) (y4, y5)).2.2 (spMul (x2, x3) (y0, y1)).2.2 3) (spSub (ivl (spMul (x2, x3) (y4, y5))) (ivl (spMul (x4, x5) (y2, y3)))).2.2 (spSub (ivl (spMul (x4, x5) (y0, y1))) (ivl (spMul (x0, x1) (y4, y5)))).2.2 (spSub (ivl (spMul (x0, x1) (y2, y3))) (ivl (spMul (x2, x3) (y0, y1)))).2.2 3) (spSub (ivl (spMul (x2, x3) (y4, y5))) (ivl (spMul (x4, x5) (y2, y3)))) (spSub (ivl (spMul (x4, x5) (y0, y1))) (ivl (spMul (x0, x1) (y4, y5)))) (spSub (ivl (spMul (x0, x1) (y2, y3))) (ivl (spMul (x2, x3) (y0, y1)))) = .tuple #[.agg #[.int .i64 n0, .int .i64 n1, .int .i64 n2, .int .i64 n3, .int .i64 n4, .int .i64 n5], .int .i64 e] ∧ vRes (errTo (errTo (errTo (chk3 (chk3 0 y0 y1 y2 y3 y4 y5 3) x0 x1 x2 x3 x4 x5 3) (spMul (y2, y3) (x4, x5)).2.2 (spMul (y4, y5) (x0, x1)).2.2 (spMul (y0, y1) (x2, x3)).2.2 3) (spMul (y4, y5) (x2, x3)).2.2 (spMul (y0, y1) (x4, x5)).2.2 (spMul (y2, y3) (x0, x1)).2.2 3) (spSub (ivl (spMul (y2, y3) (x4, x5))) (ivl (spMul (y4, y5) (x2, x3)))).2.2 (spSub (ivl (spMul (y4, y5) (x0, x1))) (ivl (spMul (y0, y1) (x4, x5)))).2.2 (spSub (ivl (spMul (y0, y1) (x2, x3))) (ivl (spMul (y2, y3) (x0, x1)))).2.2 3) (spSub (ivl (spMul (y2, y3) (x4, x5))) (ivl (spMul (y4, y5) (x2, x3)))) (spSub (ivl (spMul (y4, y5) (x0, x1))) (ivl (spMul (y0, y1) (x4, x5)))) (spSub (ivl (spMul (y0, y1) (x2, x3))) (ivl (spMul (y2, y3) (x0, x1)))) = .tuple #[.agg #[.int .i64 m0, .int .i64 m1, .int .i64 m2, .int .i64 m3, .int .i64 m4, .int .i64 m5], .int .i64 e] ∧ spChk (m0, m1) = 0 ∧ spChk (m2, m3) = 0 ∧ spChk (m4, m5) = 0 ∧ (e = 0 → n0 = -m1 ∧ n1 = -m0 ∧ n2 = -m3 ∧ n3 = -m2 ∧ n4 = -m5 ∧ n5 = -m4) := by
  obtain ⟨h1, h2⟩ := valid2 hx0 hx1 hx2 hy0 hy1 hy2
  rw [h1, h2, spMul_comm (y2, y3) (x4, x5), spMul_comm (y4, y5) (x0, x1), spMul_comm (y0, y1) (x2, x3), spMul_comm (y4, y5) (x2, x3), spMul_comm (y0, y1) (x4, x5), spMul_comm (y2, y3) (x0, x1)]
  have gp0 := spMul_good hx1 hy2; have gp1 := spMul_good hx2 hy0; have gp2 := spMul_good hx0 hy1
  have gq0 := spMul_good hx2 hy1; have gq1 := spMul_good hx0 hy2; have gq2 := spMul_good hx1 hy0
  generalize spMul (x2, x3) (y4, y5) = p0 at *
  generalize spMul (x4, x5) (y0, y1) = p1 at *
  generalize spMul (x0, x1) (y2, y3) = p2 at *
  generalize spMul (x4, x5) (y2, y3) = q0 at *
  generalize spMul (x0, x1) (y4, y5) = q1 at *
  generalize spMul (x2, x3) (y0, y1) = q2 at *
  have vp0 : spChk (ivl p0) = 0 := gp0.val; have vp1 : spChk (ivl p1) = 0 := gp1.val; have vp2 : spChk (ivl p2) = 0 := gp2.val
  have vq0 : spChk (ivl q0) = 0 := gq0.val; have vq1 : spChk (ivl q1) = 0 := gq1.val; have vq2 : spChk (ivl q2) = 0 := gq2.val
  obtain ⟨a1, a2⟩ := spSub_swap vp0 vq0
  obtain ⟨b1, b2⟩ := spSub_swap vp1 vq1
  obtain ⟨c1, c2⟩ := spSub_swap vp2 vq2
  have s0 := (spSub_good vp0 vq0).err; have s1 := (spSub_good vp1 vq1).err; have s2 := (spSub_good vp2 vq2).err
  have i0 : ∀ {a b c : Int}, (a = 0 ∨ a = 6) → (b = 0 ∨ b = 6) → (c = 0 ∨ c = 6) → ∀ {e : Int}, (e = 0 ∨ e = 6) → (errTo e a b c 3 = 0 ∨ errTo e a b c 3 = 6) := by
    intro a b c ha hb hc e he; rw [errTo_six he ha hb hc]; split <;> simp
  have k1 := i0 gp0.err gp1.err gp2.err (Or.inl (rfl : (0 : Int) = 0))
  have k2 := i0 gq0.err gq1.err gq2.err k1
  have k3 := i0 gq0.err gq1.err gq2.err (Or.inl (rfl : (0 : Int) = 0))
  have k4 := i0 gp0.err gp1.err gp2.err k3
  have z1 : ∀ h : errTo (errTo (errTo 0 p0.2.2 p1.2.2 p2.2.2 3) q0.2.2 q1.2.2 q2.2.2 3) (spSub (ivl p0) (ivl q0)).2.2 (spSub (ivl p1) (ivl q1)).2.2 (spSub (ivl p2) (ivl q2)).2.2 3 = 0, (spSub (ivl p0) (ivl q0)).2.2 = 0 ∧ (spSub (ivl p1) (ivl q1)).2.2 = 0 ∧ (spSub (ivl p2) (ivl q2)).2.2 = 0 := by
    intro h; rw [errTo_six k2 s0 s1 s2] at h; split at h
    · rename_i g; exact ⟨g.2.1, g.2.2.1, g.2.2.2⟩
    · exact absurd h (by decide)
  have hef : errTo (errTo (errTo 0 p0.2.2 p1.2.2 p2.2.2 3) q0.2.2 q1.2.2 q2.2.2 3) (spSub (ivl p0) (ivl q0)).2.2 (spSub (ivl p1) (ivl q1)).2.2 (spSub (ivl p2) (ivl q2)).2.2 3 =
      errTo (errTo (errTo 0 q0.2.2 q1.2.2 q2.2.2 3) p0.2.2 p1.2.2 p2.2.2 3) (spSub (ivl q0) (ivl p0)).2.2 (spSub (ivl q1) (ivl p1)).2.2 (spSub (ivl q2) (ivl p2)).2.2 3 := by
    rw [← a1, ← b1, ← c1]
    have e12 : errTo (errTo 0 p0.2.2 p1.2.2 p2.2.2 3) q0.2.2 q1.2.2 q2.2.2 3 = errTo (errTo 0 q0.2.2 q1.2.2 q2.2.2 3) p0.2.2 p1.2.2 p2.2.2 3 := by
      rw [errTo_six k1 gq0.err gq1.err gq2.err, errTo_six k3 gp0.err gp1.err gp2.err, errTo_six (Or.inl rfl) gp0.err gp1.err gp2.err, errTo_six (Or.inl rfl) gq0.err gq1.err gq2.err]
      by_cases u : p0.2.2 = 0 ∧ p1.2.2 = 0 ∧ p2.2.2 = 0 <;> by_cases v : q0.2.2 = 0 ∧ q1.2.2 = 0 ∧ q2.2.2 = 0 <;> simp [u, v]
    rw [e12]
  obtain ⟨n0, n1, n2, n3, n4, n5, m0, m1, m2, m3, m4, m5, w1, w2, w3, w4, w5, w6⟩ := swap_form _ _ _ _ _ _ _ _ hef (spSub_good vq0 vp0) (spSub_good vq1 vp1) (spSub_good vq2 vp2) (fun h => a2 (z1 h).1) (fun h => b2 (z1 h).2.1) (fun h => c2 (z1 h).2.2)
  exact ⟨n0, n1, n2, n3, n4, n5, m0, m1, m2, m3, m4, m5, _, w1, by rw [w2, hef], w3, w4, w5, w6⟩
theorem ord_addneg {x0 x1 x2 x3 x4 x5 y0 y1 y2 y3 y4 y5 : Int} (hx0 : spChk (x0, x1) = 0) (hx1 : spChk (x2, x3) = 0) (hx2 : spChk (x4, x5) = 0) (hy0 : spChk (y0, y1) = 0) (hy1 : spChk (y2, y3) = 0) (hy2 : spChk (y4, y5) = 0) : vRes (errTo (chk3 (chk3 0 x0 x1 x2 x3 x4 x5 3) (-y1) (-y0) (-y3) (-y2) (-y5) (-y4) 3) (spAdd (x0, x1) (-y1, -y0)).2.2 (spAdd (x2, x3) (-y3, -y2)).2.2 (spAdd (x4, x5) (-y5, -y4)).2.2 3) (spAdd (x0, x1) (-y1, -y0)) (spAdd (x2, x3) (-y3, -y2)) (spAdd (x4, x5) (-y5, -y4)) = vRes (errTo (chk3 (chk3 0 x0 x1 x2 x3 x4 x5 3) y0 y1 y2 y3 y4 y5 3) (spSub (x0, x1) (y0, y1)).2.2 (spSub (x2, x3) (y2, y3)).2.2 (spSub (x4, x5) (y4, y5)).2.2 3) (spSub (x0, x1) (y0, y1)) (spSub (x2, x3) (y2, y3)) (spSub (x4, x5) (y4, y5)) := by
  obtain ⟨h1, h2⟩ := valid2 hx0 hx1 hx2 hy0 hy1 hy2
  have g0 := ngI_ok hy0; have g1 := ngI_ok hy1; have g2 := ngI_ok hy2
  obtain ⟨h3, _⟩ := valid2 hx0 hx1 hx2 (show spChk (-y1, -y0) = 0 from g0) (show spChk (-y3, -y2) = 0 from g1) (show spChk (-y5, -y4) = 0 from g2)
  rw [h1, h3, show spAdd (x0, x1) (-y1, -y0) = _ from spAdd_neg hx0 hy0, show spAdd (x2, x3) (-y3, -y2) = _ from spAdd_neg hx1 hy1, show spAdd (x4, x5) (-y5, -y4) = _ from spAdd_neg hx2 hy2]

end Go.Proofs.Ytpdaigenffecmaa

namespace Go.Proofs.Ytpdaigenffecmaa

def spMin (a b : Int × Int) : Int × Int × Int := if spAll a b = 0 then (min a.1 b.1, min a.2 b.2, 0) else (0, 0, 20)
def spMax (a b : Int × Int) : Int × Int × Int := if spAll a b = 0 then (max a.1 b.1, max a.2 b.2, 0) else (0, 0, 20)
def spHull (a b : Int × Int) : Int × Int × Int := if spAll a b = 0 then (min a.1 b.1, max a.2 b.2, 0) else (0, 0, 20)
def spMeet (a b : Int × Int) : Int × Int × Int :=
  if spAll a b = 0 then (if min a.2 b.2 < max a.1 b.1 then (0, 0, 4) else (max a.1 b.1, min a.2 b.2, 0)) else (0, 0, 20)
def spHas (a : Int × Int) (v : Int) : Bool × Int := if spChk a = 0 then (decide (a.1 ≤ v) && decide (v ≤ a.2), 0) else (false, 20)
def spMid (a : Int × Int) : Int × Int := if spChk a = 0 then ((a.1 + a.2) / 2, 0) else (0, 20)
def spWidth (a : Int × Int) : Int × Int := if spChk a = 0 then (a.2 - a.1, 0) else (0, 20)
def spSign (a : Int × Int) : Int × Int :=
  if spChk a = 0 then (if 0 < a.1 then (1, 0) else if a.2 < 0 then (-1, 0) else if a.1 = 0 ∧ a.2 = 0 then (0, 0) else (2, 0)) else (0, 20)
theorem spAll_eq {a b : Int × Int} (ha : spChk a = 0) (hb : spChk b = 0) : spAll a b = 0 := by unfold spAll; rw [if_pos ha, hb]
theorem spAll_ne {a b : Int × Int} (h : spChk a ≠ 0 ∨ spChk b ≠ 0) : ¬ spAll a b = 0 := fun e => by
  have := spAll_ok e; rcases h with h | h <;> omega
theorem spAbs_is {a : Int × Int} (h : spChk a = 0) : spAbs a = (max (max a.1 (-a.2)) 0, max a.2 (-a.1), 0) := by
  obtain ⟨h1, h2, h3⟩ := spChk_ok h
  unfold spAbs spTold; rw [if_pos h, if_neg (by omega)]

end Go.Proofs.Ytpdaigenffecmaa
