/-
  '==' at intervals and vectors, for the executor.
-/
import Derived.Test.YtpdaigenffecmaaM01
import Derived.Test.YtpdaigenffecmaaM37
set_option linter.all false
namespace Go.Proofs.Ytpdaigenffecmaa
open Go Go.RowKit

theorem eqOk_span : EqOk Try.prog 23 2 := by
  intro xs ys w hx hy
  match xs, ys, hx, hy with
  | [a, b], [c, d], _, _ =>
    have e : ((a == c) && (b == d)) = decide ([a, b] = [c, d]) := by
      by_cases h1 : a = c <;> by_cases h2 : b = d <;> simp [h1, h2]
    refine ⟨?_, ?_, fun op x y => guard_span w op x y _ _⟩
    · rw [← e]; exact eql_span w a b c d
    · rw [← e]; exact neq_span w a b c d
theorem eqOk_vec : EqOk Try.prog 25 6 := by
  intro xs ys w hx hy
  match xs, ys, hx, hy with
  | [a, b, c, d, e, f], [a', b', c', d', e', f'], _, _ =>
    have q : (((a == a') && (b == b')) && (((c == c') && (d == d')) && ((e == e') && (f == f')))) = decide ([a, b, c, d, e, f] = [a', b', c', d', e', f']) := by
      rw [Bool.eq_iff_iff]; simp only [Bool.and_eq_true, beq_iff_eq, decide_eq_true_eq, List.cons.injEq, and_true]
      constructor
      · rintro ⟨⟨h1, h2⟩, ⟨h3, h4⟩, h5, h6⟩; exact ⟨h1, h2, h3, h4, h5, h6⟩
      · rintro ⟨h1, h2, h3, h4, h5, h6⟩; exact ⟨⟨h1, h2⟩, ⟨h3, h4⟩, h5, h6⟩
    refine ⟨?_, ?_, fun op x y => guard_vec w op x y _ _⟩
    · rw [← q]; exact eql_vec w a b c d e f a' b' c' d' e' f'
    · rw [← q]; exact neq_vec w a b c d e f a' b' c' d' e' f'
/-- Numbers and rows as they are. -/
def N1 (i : Int) : AV := .v (.one (.int .i64 (.lit i)))
def row (l : List Int) : TV := .agg (l.map fun i => .int .i64 (.lit i))
def Rw (l : List Int) : AV := .v (row l)
/-- A row and an error. -/
def RE (l : List Int) (e : Int) : AV := .tup [row l, .one (.int .i64 (.lit e))]
/-- Letters. -/
def ρL (l : List Int) (n : Nat) : Int := l.getD n 0
def S1 (n : Nat) : CV := .int .i64 (.sym n)
def SR (l : List Nat) : TV := .agg (l.map S1)
def SV (l : List Nat) : AV := .v (SR l)
def SE (l : List Nat) (e : Nat) : AV := .tup [SR l, .one (S1 e)]
def SE0 (l : List Nat) : AV := .tup [SR l, .one (.int .i64 (.lit 0))]
def rg (a n : Nat) : List Nat := (List.range n).map (a + ·)
/-- A draft by letters from a on. -/
def dr (a : Nat) : List CV := [.int .i64 (.sym a), .int .u8 (.sym (a + 1)), .int .u32 (.sym (a + 2))]
theorem wf_N1 (i : Int) (m : Mem) : (N1 i).wf m = true := rfl
end Go.Proofs.Ytpdaigenffecmaa
