/-
  Package vec: told, with and without an error.
-/
import Derived.Test.YtpdaigenffecmaaGreatM15
import Derived.Test.YtpdaigenffecmaaGreatM24
import Derived.Test.YtpdaigenffecmaaGreatM31
set_option linter.all false
namespace Go.Proofs.YtpdaigenffecmaaGreat
open Go.RowKit Go.Shelf

theorem c_toldV (p : Nat) (a b c : Int × Int × Int) (e0 : Int) (w : World) (hp : p < w.heap.size) (hc : w.cell? ⟨p, 0, none⟩ = some (.int .i64 e0)) :
    Calls Tryz.prog 53 #[.pointer (some ⟨p, 0, none⟩), .agg #[.int .i64 a.1, .int .i64 a.2.1, .int .i64 b.1, .int .i64 b.2.1, .int .i64 c.1, .int .i64 c.2.1]] w fun e w' => e = .returned (vRes e0 a b c) ∧ Below w.heap.size w w' := by
  by_cases h : e0 = 0
  · subst h
    refine (c_toldV_ok p a.1 a.2.1 b.1 b.2.1 c.1 c.2.1 w hp hc).mono ?_
    rintro e w' ⟨rfl, hb⟩
    exact ⟨by unfold vRes; rw [if_pos rfl], hb⟩
  · refine (c_toldV_bad p a.1 a.2.1 b.1 b.2.1 c.1 c.2.1 e0 w hp hc h).mono ?_
    rintro e w' ⟨rfl, hb⟩
    exact ⟨by unfold vRes; rw [if_neg h], hb⟩

theorem c_toldS (p : Nat) (a : Int × Int × Int) (e0 : Int) (w : World) (hp : p < w.heap.size) (hc : w.cell? ⟨p, 0, none⟩ = some (.int .i64 e0)) :
    Calls Tryz.prog 67 #[.pointer (some ⟨p, 0, none⟩), .agg #[.int .i64 a.1, .int .i64 a.2.1]] w fun e w' => e = .returned (iRes e0 a) ∧ Below w.heap.size w w' := by
  by_cases h : e0 = 0
  · subst h
    refine (c_toldS_ok p a.1 a.2.1 w hp hc).mono ?_
    rintro e w' ⟨rfl, hb⟩
    exact ⟨by unfold iRes; rw [if_pos rfl], hb⟩
  · refine (c_toldS_bad p a.1 a.2.1 e0 w hp hc h).mono ?_
    rintro e w' ⟨rfl, hb⟩
    exact ⟨by unfold iRes; rw [if_neg h], hb⟩

end Go.Proofs.YtpdaigenffecmaaGreat
