/-
  What the program and the reference answer is the same (Add, Sub, Neg, Scale, Check): results in two names, their comparisons decided.
-/
import Derived.Test.YtpdaigenffecmaaGreatM45
import Derived.Test.YtpdaigenffecmaaGreatM25
import Derived.Test.YtpdaigenffecmaaGreatM01
set_option linter.all false
namespace Go.Proofs.YtpdaigenffecmaaGreat
open Go.RowKit Go.Shelf

/-- One value under two names. -/
theorem two_names (a : Int) : ∃ b, a = b ∧ (a == b) = true ∧ (a != b) = false := ⟨a, rfl, by simp, by simp⟩

theorem pair_Add (x0 x1 x2 x3 x4 x5 y0 y1 y2 y3 y4 y5 : Int) : ∃ n0 n1 n2 n3 n4 n5 m0 m1 m2 m3 m4 m5 en em, (∀ w : World, (binOp .neq 25 (.agg #[.int .i64 n0, .int .i64 n1, .int .i64 n2, .int .i64 n3, .int .i64 n4, .int .i64 n5]) (.agg #[.int .i64 m0, .int .i64 m1, .int .i64 m2, .int .i64 m3, .int .i64 m4, .int .i64 m5])).run Tryz.prog w = .ok (.bool false) w) ∧ (en != em) = false ∧
    (∀ w, Calls Tryz.prog 11 #[.agg #[.int .i64 x0, .int .i64 x1, .int .i64 x2, .int .i64 x3, .int .i64 x4, .int .i64 x5], .agg #[.int .i64 y0, .int .i64 y1, .int .i64 y2, .int .i64 y3, .int .i64 y4, .int .i64 y5]] w fun e w' => e = .returned (.tuple #[.agg #[.int .i64 n0, .int .i64 n1, .int .i64 n2, .int .i64 n3, .int .i64 n4, .int .i64 n5], .int .i64 en]) ∧ Below w.heap.size w w') ∧
    (∀ w, Calls Tryz.prog 12 #[.agg #[.int .i64 x0, .int .i64 x1, .int .i64 x2, .int .i64 x3, .int .i64 x4, .int .i64 x5], .agg #[.int .i64 y0, .int .i64 y1, .int .i64 y2, .int .i64 y3, .int .i64 y4, .int .i64 y5]] w fun e w' => e = .returned (.tuple #[.agg #[.int .i64 m0, .int .i64 m1, .int .i64 m2, .int .i64 m3, .int .i64 m4, .int .i64 m5], .int .i64 em]) ∧ Below w.heap.size w w') := by
  obtain ⟨n0, n1, n2, n3, n4, n5, hn⟩ := vRes_form (errTo (chk3 (chk3 0 x0 x1 x2 x3 x4 x5 3) y0 y1 y2 y3 y4 y5 3) (spAdd (x0, x1) (y0, y1)).2.2 (spAdd (x2, x3) (y2, y3)).2.2 (spAdd (x4, x5) (y4, y5)).2.2 3) (spAdd (x0, x1) (y0, y1)) (spAdd (x2, x3) (y2, y3)) (spAdd (x4, x5) (y4, y5))
  obtain ⟨m0, q0, e0, _⟩ := two_names n0
  obtain ⟨m1, q1, e1, _⟩ := two_names n1
  obtain ⟨m2, q2, e2, _⟩ := two_names n2
  obtain ⟨m3, q3, e3, _⟩ := two_names n3
  obtain ⟨m4, q4, e4, _⟩ := two_names n4
  obtain ⟨m5, q5, e5, _⟩ := two_names n5
  obtain ⟨en, hen⟩ : ∃ e, e = (errTo (chk3 (chk3 0 x0 x1 x2 x3 x4 x5 3) y0 y1 y2 y3 y4 y5 3) (spAdd (x0, x1) (y0, y1)).2.2 (spAdd (x2, x3) (y2, y3)).2.2 (spAdd (x4, x5) (y4, y5)).2.2 3) := ⟨_, rfl⟩
  obtain ⟨em, qe, _, ee⟩ := two_names en
  have hm := hn
  rw [← hen] at hn hm
  refine ⟨n0, n1, n2, n3, n4, n5, m0, m1, m2, m3, m4, m5, en, em, ?_, ee, ?_, ?_⟩
  · intro w; rw [neq_vec, e0, e1, e2, e3, e4, e5]; simp
  · intro w; rw [← hn, hen]; exact c_vecAdd x0 x1 x2 x3 x4 x5 y0 y1 y2 y3 y4 y5 w
  · intro w; rw [← qe, ← q0, ← q1, ← q2, ← q3, ← q4, ← q5, ← hm, hen]; exact c_vAdd x0 x1 x2 x3 x4 x5 y0 y1 y2 y3 y4 y5 w

theorem pair_Sub (x0 x1 x2 x3 x4 x5 y0 y1 y2 y3 y4 y5 : Int) : ∃ n0 n1 n2 n3 n4 n5 m0 m1 m2 m3 m4 m5 en em, (∀ w : World, (binOp .neq 25 (.agg #[.int .i64 n0, .int .i64 n1, .int .i64 n2, .int .i64 n3, .int .i64 n4, .int .i64 n5]) (.agg #[.int .i64 m0, .int .i64 m1, .int .i64 m2, .int .i64 m3, .int .i64 m4, .int .i64 m5])).run Tryz.prog w = .ok (.bool false) w) ∧ (en != em) = false ∧
    (∀ w, Calls Tryz.prog 13 #[.agg #[.int .i64 x0, .int .i64 x1, .int .i64 x2, .int .i64 x3, .int .i64 x4, .int .i64 x5], .agg #[.int .i64 y0, .int .i64 y1, .int .i64 y2, .int .i64 y3, .int .i64 y4, .int .i64 y5]] w fun e w' => e = .returned (.tuple #[.agg #[.int .i64 n0, .int .i64 n1, .int .i64 n2, .int .i64 n3, .int .i64 n4, .int .i64 n5], .int .i64 en]) ∧ Below w.heap.size w w') ∧
    (∀ w, Calls Tryz.prog 14 #[.agg #[.int .i64 x0, .int .i64 x1, .int .i64 x2, .int .i64 x3, .int .i64 x4, .int .i64 x5], .agg #[.int .i64 y0, .int .i64 y1, .int .i64 y2, .int .i64 y3, .int .i64 y4, .int .i64 y5]] w fun e w' => e = .returned (.tuple #[.agg #[.int .i64 m0, .int .i64 m1, .int .i64 m2, .int .i64 m3, .int .i64 m4, .int .i64 m5], .int .i64 em]) ∧ Below w.heap.size w w') := by
  obtain ⟨n0, n1, n2, n3, n4, n5, hn⟩ := vRes_form (errTo (chk3 (chk3 0 x0 x1 x2 x3 x4 x5 3) y0 y1 y2 y3 y4 y5 3) (spSub (x0, x1) (y0, y1)).2.2 (spSub (x2, x3) (y2, y3)).2.2 (spSub (x4, x5) (y4, y5)).2.2 3) (spSub (x0, x1) (y0, y1)) (spSub (x2, x3) (y2, y3)) (spSub (x4, x5) (y4, y5))
  obtain ⟨m0, q0, e0, _⟩ := two_names n0
  obtain ⟨m1, q1, e1, _⟩ := two_names n1
  obtain ⟨m2, q2, e2, _⟩ := two_names n2
  obtain ⟨m3, q3, e3, _⟩ := two_names n3
  obtain ⟨m4, q4, e4, _⟩ := two_names n4
  obtain ⟨m5, q5, e5, _⟩ := two_names n5
  obtain ⟨en, hen⟩ : ∃ e, e = (errTo (chk3 (chk3 0 x0 x1 x2 x3 x4 x5 3) y0 y1 y2 y3 y4 y5 3) (spSub (x0, x1) (y0, y1)).2.2 (spSub (x2, x3) (y2, y3)).2.2 (spSub (x4, x5) (y4, y5)).2.2 3) := ⟨_, rfl⟩
  obtain ⟨em, qe, _, ee⟩ := two_names en
  have hm := hn
  rw [← hen] at hn hm
  refine ⟨n0, n1, n2, n3, n4, n5, m0, m1, m2, m3, m4, m5, en, em, ?_, ee, ?_, ?_⟩
  · intro w; rw [neq_vec, e0, e1, e2, e3, e4, e5]; simp
  · intro w; rw [← hn, hen]; exact c_vecSub x0 x1 x2 x3 x4 x5 y0 y1 y2 y3 y4 y5 w
  · intro w; rw [← qe, ← q0, ← q1, ← q2, ← q3, ← q4, ← q5, ← hm, hen]; exact c_vSub x0 x1 x2 x3 x4 x5 y0 y1 y2 y3 y4 y5 w

theorem pair_Neg (x0 x1 x2 x3 x4 x5 : Int) : ∃ n0 n1 n2 n3 n4 n5 m0 m1 m2 m3 m4 m5 en em, (∀ w : World, (binOp .neq 25 (.agg #[.int .i64 n0, .int .i64 n1, .int .i64 n2, .int .i64 n3, .int .i64 n4, .int .i64 n5]) (.agg #[.int .i64 m0, .int .i64 m1, .int .i64 m2, .int .i64 m3, .int .i64 m4, .int .i64 m5])).run Tryz.prog w = .ok (.bool false) w) ∧ (en != em) = false ∧
    (∀ w, Calls Tryz.prog 15 #[.agg #[.int .i64 x0, .int .i64 x1, .int .i64 x2, .int .i64 x3, .int .i64 x4, .int .i64 x5]] w fun e w' => e = .returned (.tuple #[.agg #[.int .i64 n0, .int .i64 n1, .int .i64 n2, .int .i64 n3, .int .i64 n4, .int .i64 n5], .int .i64 en]) ∧ Below w.heap.size w w') ∧
    (∀ w, Calls Tryz.prog 16 #[.agg #[.int .i64 x0, .int .i64 x1, .int .i64 x2, .int .i64 x3, .int .i64 x4, .int .i64 x5]] w fun e w' => e = .returned (.tuple #[.agg #[.int .i64 m0, .int .i64 m1, .int .i64 m2, .int .i64 m3, .int .i64 m4, .int .i64 m5], .int .i64 em]) ∧ Below w.heap.size w w') := by
  obtain ⟨n0, n1, n2, n3, n4, n5, hn⟩ := vRes_form (errTo (chk3 0 x0 x1 x2 x3 x4 x5 3) (spNeg (x0, x1)).2.2 (spNeg (x2, x3)).2.2 (spNeg (x4, x5)).2.2 3) (spNeg (x0, x1)) (spNeg (x2, x3)) (spNeg (x4, x5))
  obtain ⟨m0, q0, e0, _⟩ := two_names n0
  obtain ⟨m1, q1, e1, _⟩ := two_names n1
  obtain ⟨m2, q2, e2, _⟩ := two_names n2
  obtain ⟨m3, q3, e3, _⟩ := two_names n3
  obtain ⟨m4, q4, e4, _⟩ := two_names n4
  obtain ⟨m5, q5, e5, _⟩ := two_names n5
  obtain ⟨en, hen⟩ : ∃ e, e = (errTo (chk3 0 x0 x1 x2 x3 x4 x5 3) (spNeg (x0, x1)).2.2 (spNeg (x2, x3)).2.2 (spNeg (x4, x5)).2.2 3) := ⟨_, rfl⟩
  obtain ⟨em, qe, _, ee⟩ := two_names en
  have hm := hn
  rw [← hen] at hn hm
  refine ⟨n0, n1, n2, n3, n4, n5, m0, m1, m2, m3, m4, m5, en, em, ?_, ee, ?_, ?_⟩
  · intro w; rw [neq_vec, e0, e1, e2, e3, e4, e5]; simp
  · intro w; rw [← hn, hen]; exact c_vecNeg x0 x1 x2 x3 x4 x5 w
  · intro w; rw [← qe, ← q0, ← q1, ← q2, ← q3, ← q4, ← q5, ← hm, hen]; exact c_vNeg x0 x1 x2 x3 x4 x5 w

theorem pair_Scale (x0 x1 x2 x3 x4 x5 y0 y1 : Int) : ∃ n0 n1 n2 n3 n4 n5 m0 m1 m2 m3 m4 m5 en em, (∀ w : World, (binOp .neq 25 (.agg #[.int .i64 n0, .int .i64 n1, .int .i64 n2, .int .i64 n3, .int .i64 n4, .int .i64 n5]) (.agg #[.int .i64 m0, .int .i64 m1, .int .i64 m2, .int .i64 m3, .int .i64 m4, .int .i64 m5])).run Tryz.prog w = .ok (.bool false) w) ∧ (en != em) = false ∧
    (∀ w, Calls Tryz.prog 20 #[.agg #[.int .i64 x0, .int .i64 x1, .int .i64 x2, .int .i64 x3, .int .i64 x4, .int .i64 x5], .agg #[.int .i64 y0, .int .i64 y1]] w fun e w' => e = .returned (.tuple #[.agg #[.int .i64 n0, .int .i64 n1, .int .i64 n2, .int .i64 n3, .int .i64 n4, .int .i64 n5], .int .i64 en]) ∧ Below w.heap.size w w') ∧
    (∀ w, Calls Tryz.prog 21 #[.agg #[.int .i64 x0, .int .i64 x1, .int .i64 x2, .int .i64 x3, .int .i64 x4, .int .i64 x5], .agg #[.int .i64 y0, .int .i64 y1]] w fun e w' => e = .returned (.tuple #[.agg #[.int .i64 m0, .int .i64 m1, .int .i64 m2, .int .i64 m3, .int .i64 m4, .int .i64 m5], .int .i64 em]) ∧ Below w.heap.size w w') := by
  obtain ⟨n0, n1, n2, n3, n4, n5, hn⟩ := vRes_form (errTo (chk3 (chk3 0 x0 x1 x2 x3 x4 x5 3) y0 y1 y0 y1 y0 y1 3) (spMul (x0, x1) (y0, y1)).2.2 (spMul (x2, x3) (y0, y1)).2.2 (spMul (x4, x5) (y0, y1)).2.2 3) (spMul (x0, x1) (y0, y1)) (spMul (x2, x3) (y0, y1)) (spMul (x4, x5) (y0, y1))
  obtain ⟨m0, q0, e0, _⟩ := two_names n0
  obtain ⟨m1, q1, e1, _⟩ := two_names n1
  obtain ⟨m2, q2, e2, _⟩ := two_names n2
  obtain ⟨m3, q3, e3, _⟩ := two_names n3
  obtain ⟨m4, q4, e4, _⟩ := two_names n4
  obtain ⟨m5, q5, e5, _⟩ := two_names n5
  obtain ⟨en, hen⟩ : ∃ e, e = (errTo (chk3 (chk3 0 x0 x1 x2 x3 x4 x5 3) y0 y1 y0 y1 y0 y1 3) (spMul (x0, x1) (y0, y1)).2.2 (spMul (x2, x3) (y0, y1)).2.2 (spMul (x4, x5) (y0, y1)).2.2 3) := ⟨_, rfl⟩
  obtain ⟨em, qe, _, ee⟩ := two_names en
  have hm := hn
  rw [← hen] at hn hm
  refine ⟨n0, n1, n2, n3, n4, n5, m0, m1, m2, m3, m4, m5, en, em, ?_, ee, ?_, ?_⟩
  · intro w; rw [neq_vec, e0, e1, e2, e3, e4, e5]; simp
  · intro w; rw [← hn, hen]; exact c_vecScale x0 x1 x2 x3 x4 x5 y0 y1 w
  · intro w; rw [← qe, ← q0, ← q1, ← q2, ← q3, ← q4, ← q5, ← hm, hen]; exact c_vScale x0 x1 x2 x3 x4 x5 y0 y1 w

theorem pair_Check (x0 x1 x2 x3 x4 x5 : Int) : ∃ en em, (en != em) = false ∧
    (∀ w, Calls Tryz.prog 17 #[.agg #[.int .i64 x0, .int .i64 x1, .int .i64 x2, .int .i64 x3, .int .i64 x4, .int .i64 x5]] w fun e w' => e = .returned (.int .i64 en) ∧ Below w.heap.size w w') ∧
    (∀ w, Calls Tryz.prog 18 #[.agg #[.int .i64 x0, .int .i64 x1, .int .i64 x2, .int .i64 x3, .int .i64 x4, .int .i64 x5]] w fun e w' => e = .returned (.int .i64 em) ∧ Below w.heap.size w w') := by
  obtain ⟨em, qe, _, ee⟩ := two_names (chk3 0 x0 x1 x2 x3 x4 x5 3)
  exact ⟨_, em, ee, fun w => c_vecCheck x0 x1 x2 x3 x4 x5 w, fun w => by rw [← qe]; exact c_vCheck x0 x1 x2 x3 x4 x5 w⟩

end Go.Proofs.YtpdaigenffecmaaGreat
