/-
  What the program and the reference answer is the same (Norm, Unit): results in two names, their comparisons decided.
-/
import Derived.Test.YtpdaigenffecmaaGreatS05
import Derived.Test.YtpdaigenffecmaaGreatM48
import Derived.Test.YtpdaigenffecmaaGreatS12
set_option linter.all false
namespace Go.Proofs.YtpdaigenffecmaaGreat
open Go.RowKit Go.Shelf

theorem pair_Norm (x0 x1 x2 x3 x4 x5 : Int) : ∃ n0 n1 m0 m1 en em, ((n0 == m0) = true ∧ (n1 == m1) = true) ∧ (en != em) = false ∧
    (∀ w, Calls Tryz.prog 26 #[.agg #[.int .i64 x0, .int .i64 x1, .int .i64 x2, .int .i64 x3, .int .i64 x4, .int .i64 x5]] w fun e w' => e = .returned (.tuple #[.agg #[.int .i64 n0, .int .i64 n1], .int .i64 en]) ∧ Below w.heap.size w w') ∧
    (∀ w, Calls Tryz.prog 27 #[.agg #[.int .i64 x0, .int .i64 x1, .int .i64 x2, .int .i64 x3, .int .i64 x4, .int .i64 x5]] w fun e w' => e = .returned (.tuple #[.agg #[.int .i64 m0, .int .i64 m1], .int .i64 em]) ∧ Below w.heap.size w w') := by
  obtain ⟨n0, n1, hn⟩ := iRes_form (normE (chk3 0 x0 x1 x2 x3 x4 x5 3) (spPow (x0, x1) 2) (spPow (x2, x3) 2) (spPow (x4, x5) 2)) (norm3 (spPow (x0, x1) 2) (spPow (x2, x3) 2) (spPow (x4, x5) 2))
  obtain ⟨m0, q0, e0, _⟩ := two_names n0
  obtain ⟨m1, q1, e1, _⟩ := two_names n1
  obtain ⟨en, hen⟩ : ∃ e, e = (normE (chk3 0 x0 x1 x2 x3 x4 x5 3) (spPow (x0, x1) 2) (spPow (x2, x3) 2) (spPow (x4, x5) 2)) := ⟨_, rfl⟩
  obtain ⟨em, qe, _, ee⟩ := two_names en
  have hm := hn
  rw [← hen] at hn hm
  refine ⟨n0, n1, m0, m1, en, em, ?_, ee, ?_, ?_⟩
  · exact ⟨e0, e1⟩
  · intro w; rw [← hn, hen]; exact c_vecNorm x0 x1 x2 x3 x4 x5 w
  · intro w; rw [← qe, ← q0, ← q1, ← hm, hen]; exact c_vNorm x0 x1 x2 x3 x4 x5 w

theorem pair_Unit (x0 x1 x2 x3 x4 x5 : Int) : ∃ n0 n1 n2 n3 n4 n5 m0 m1 m2 m3 m4 m5 en em, (∀ w : World, (binOp .neq 25 (.agg #[.int .i64 n0, .int .i64 n1, .int .i64 n2, .int .i64 n3, .int .i64 n4, .int .i64 n5]) (.agg #[.int .i64 m0, .int .i64 m1, .int .i64 m2, .int .i64 m3, .int .i64 m4, .int .i64 m5])).run Tryz.prog w = .ok (.bool false) w) ∧ (en != em) = false ∧
    (∀ w, Calls Tryz.prog 28 #[.agg #[.int .i64 x0, .int .i64 x1, .int .i64 x2, .int .i64 x3, .int .i64 x4, .int .i64 x5]] w fun e w' => e = .returned (.tuple #[.agg #[.int .i64 n0, .int .i64 n1, .int .i64 n2, .int .i64 n3, .int .i64 n4, .int .i64 n5], .int .i64 en]) ∧ Below w.heap.size w w') ∧
    (∀ w, Calls Tryz.prog 29 #[.agg #[.int .i64 x0, .int .i64 x1, .int .i64 x2, .int .i64 x3, .int .i64 x4, .int .i64 x5]] w fun e w' => e = .returned (.tuple #[.agg #[.int .i64 m0, .int .i64 m1, .int .i64 m2, .int .i64 m3, .int .i64 m4, .int .i64 m5], .int .i64 em]) ∧ Below w.heap.size w w') := by
  obtain ⟨n0, n1, n2, n3, n4, n5, hn⟩ := vRes_form (errTo (normE (chk3 0 x0 x1 x2 x3 x4 x5 3) (spPow (x0, x1) 2) (spPow (x2, x3) 2) (spPow (x4, x5) 2)) (spDiv (x0, x1) (ivl (norm3 (spPow (x0, x1) 2) (spPow (x2, x3) 2) (spPow (x4, x5) 2)))).2.2 (spDiv (x2, x3) (ivl (norm3 (spPow (x0, x1) 2) (spPow (x2, x3) 2) (spPow (x4, x5) 2)))).2.2 (spDiv (x4, x5) (ivl (norm3 (spPow (x0, x1) 2) (spPow (x2, x3) 2) (spPow (x4, x5) 2)))).2.2 3) (spDiv (x0, x1) (ivl (norm3 (spPow (x0, x1) 2) (spPow (x2, x3) 2) (spPow (x4, x5) 2)))) (spDiv (x2, x3) (ivl (norm3 (spPow (x0, x1) 2) (spPow (x2, x3) 2) (spPow (x4, x5) 2)))) (spDiv (x4, x5) (ivl (norm3 (spPow (x0, x1) 2) (spPow (x2, x3) 2) (spPow (x4, x5) 2))))
  obtain ⟨m0, q0, e0, _⟩ := two_names n0
  obtain ⟨m1, q1, e1, _⟩ := two_names n1
  obtain ⟨m2, q2, e2, _⟩ := two_names n2
  obtain ⟨m3, q3, e3, _⟩ := two_names n3
  obtain ⟨m4, q4, e4, _⟩ := two_names n4
  obtain ⟨m5, q5, e5, _⟩ := two_names n5
  obtain ⟨en, hen⟩ : ∃ e, e = (errTo (normE (chk3 0 x0 x1 x2 x3 x4 x5 3) (spPow (x0, x1) 2) (spPow (x2, x3) 2) (spPow (x4, x5) 2)) (spDiv (x0, x1) (ivl (norm3 (spPow (x0, x1) 2) (spPow (x2, x3) 2) (spPow (x4, x5) 2)))).2.2 (spDiv (x2, x3) (ivl (norm3 (spPow (x0, x1) 2) (spPow (x2, x3) 2) (spPow (x4, x5) 2)))).2.2 (spDiv (x4, x5) (ivl (norm3 (spPow (x0, x1) 2) (spPow (x2, x3) 2) (spPow (x4, x5) 2)))).2.2 3) := ⟨_, rfl⟩
  obtain ⟨em, qe, _, ee⟩ := two_names en
  have hm := hn
  rw [← hen] at hn hm
  refine ⟨n0, n1, n2, n3, n4, n5, m0, m1, m2, m3, m4, m5, en, em, ?_, ee, ?_, ?_⟩
  · intro w; rw [neq_vec, e0, e1, e2, e3, e4, e5]; simp
  · intro w; rw [← hn, hen]; exact c_vecUnit x0 x1 x2 x3 x4 x5 w
  · intro w; rw [← qe, ← q0, ← q1, ← q2, ← q3, ← q4, ← q5, ← hm, hen]; exact c_vUnit x0 x1 x2 x3 x4 x5 w

end Go.Proofs.YtpdaigenffecmaaGreat
