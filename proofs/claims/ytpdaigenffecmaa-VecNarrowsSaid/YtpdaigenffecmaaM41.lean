/-
  '==' at intervals and vectors, for the executor. Words for small contracts by the executor.
-/
import Derived.Test.YtpdaigenffecmaaM01
import Derived.Test.YtpdaigenffecmaaM40
set_option linter.all false
namespace Go.Proofs.Ytpdaigenffecmaa
open Go Go.RowKit

theorem eqOk_span : EqOk Try.prog 23 2 := by
  intro xs ys w hx hy
  match xs, ys, hx, hy with
  | [a, b], [c, d], _, _ =>
    have e : ((a == c) && (b == d)) = decide ([a, b] = [c, d]) := by
      by_cases h1 : a = c <;> by_cases h2 : b = d <;> simp [h1, h2]
    refine ⟨?_, ?_, fun op x y => guard_span w op x y _ _⟩
    · rw [← e]; exact eql_span w a b c d
    · rw [← e]; exact neq_span w a b c d
theorem eqOk_vec : EqOk Try.prog 25 6 := by
  intro xs ys w hx hy
  match xs, ys, hx, hy with
  | [a, b, c, d, e, f], [a', b', c', d', e', f'], _, _ =>
    have q : (((a == a') && (b == b')) && (((c == c') && (d == d')) && ((e == e') && (f == f')))) = decide ([a, b, c, d, e, f] = [a', b', c', d', e', f']) := by
      rw [Bool.eq_iff_iff]; simp only [Bool.and_eq_true, beq_iff_eq, decide_eq_true_eq, List.cons.injEq, and_true]
      constructor
      · rintro ⟨⟨h1, h2⟩, ⟨h3, h4⟩, h5, h6⟩; exact ⟨h1, h2, h3, h4, h5, h6⟩
      · rintro ⟨h1, h2, h3, h4, h5, h6⟩; exact ⟨⟨h1, h2⟩, ⟨h3, h4⟩, h5, h6⟩
    refine ⟨?_, ?_, fun op x y => guard_vec w op x y _ _⟩
    · rw [← q]; exact eql_vec w a b c d e f a' b' c' d' e' f'
    · rw [← q]; exact neq_vec w a b c d e f a' b' c' d' e' f'
/-- Numbers and rows as they are. -/
def N1 (i : Int) : AV := .v (.one (.int .i64 (.lit i)))
def row (l : List Int) : TV := .agg (l.map fun i => .int .i64 (.lit i))
def Rw (l : List Int) : AV := .v (row l)
/-- A row and an error. -/
def RE (l : List Int) (e : Int) : AV := .tup [row l, .one (.int .i64 (.lit e))]
/-- Letters. -/
def ρL (l : List Int) (n : Nat) : Int := l.getD n 0
def S1 (n : Nat) : CV := .int .i64 (.sym n)
def SR (l : List Nat) : TV := .agg (l.map S1)
def SV (l : List Nat) : AV := .v (SR l)
def SE (l : List Nat) (e : Nat) : AV := .tup [SR l, .one (S1 e)]
def SE0 (l : List Nat) : AV := .tup [SR l, .one (.int .i64 (.lit 0))]
def rg (a n : Nat) : List Nat := (List.range n).map (a + ·)
/-- A draft by letters from a on. -/
def dr (a : Nat) : List CV := [.int .i64 (.sym a), .int .u8 (.sym (a + 1)), .int .u32 (.sym (a + 2))]
theorem wf_N1 (i : Int) (m : Mem) : (N1 i).wf m = true := rfl
end Go.Proofs.Ytpdaigenffecmaa

namespace Go.Proofs.Ytpdaigenffecmaa
open Go.RowKit

theorem wI {x : Int} (h1 : -9223372036854775808 ≤ x) (h2 : x ≤ 9223372036854775807) : IntKind.i64.wrap x = x := IntWalk.i64_in x ⟨h1, h2⟩
theorem wI0 {x : Int} (h1 : -9223372036854775807 ≤ x) (h2 : x ≤ 9223372036854775807) : IntKind.i64.wrap (0 - x) = -x := by rw [wI (by omega) (by omega)]; omega
theorem ar_shr1 (x : Int) : ArOk .shr .i64 x .u64 1 (x / 2) := by
  intro P t w
  show (Op.shift .shr .i64 x .u64 1).run P w = _
  unfold Op.shift
  rw [if_neg (by decide)]
  show Result.ok (Value.int .i64 (x.fdiv (2 ^ (min (1 : Int).toNat IntKind.i64.bits)))) w = _
  have e : x.fdiv (2 ^ (min (1 : Int).toNat IntKind.i64.bits)) = x / 2 := by
    rw [show (2 : Int) ^ (min (1 : Int).toNat IntKind.i64.bits) = 2 from by decide]
    exact Int.fdiv_eq_ediv_of_nonneg x (by decide)
  rw [e]
theorem ar_rem2 (x : Int) : ArOk .rem .i64 x .i64 2 (x.tmod 2) := by
  intro P t w
  show (Op.intDiv .rem .i64 x 2).run P w = _
  unfold Op.intDiv
  rw [if_neg (by decide)]; rfl
theorem ar_rem (x : Int) {y : Int} {k : IntKind} (hy : y ≠ 0) : ArOk .rem k x k y (x.tmod y) := by
  intro P t w
  unfold binOp
  simp only [ne_eq, not_true_eq_false, if_false]
  show (Op.intDiv .rem k x y).run P w = _
  unfold Op.intDiv
  rw [if_neg hy]; rfl
theorem ar_quo2 {x r : Int} (h : IntKind.i64.wrap (x.tdiv 2) = r) : ArOk .quo .i64 x .i64 2 r := by
  intro P t w
  show (Op.intDiv .quo .i64 x 2).run P w = _
  unfold Op.intDiv
  rw [if_neg (by decide), ← h]; rfl
theorem beq_dec (x : Int) : (x == 0) = decide (x = 0) := by rw [Bool.eq_iff_iff]; simp
theorem bne_dec (x : Int) : (x != 0) = decide (x ≠ 0) := by rw [Bool.eq_iff_iff]; simp
theorem mid_div (n : Int) : (if n < 0 ∧ n.tmod 2 ≠ 0 then (n - 1).tdiv 2 else n.tdiv 2) = n / 2 := by
  rcases Int.lt_or_le n 0 with h | h
  · obtain ⟨m, rfl⟩ : ∃ m, n = -m := ⟨-n, by omega⟩
    have e1 : (-m).tdiv 2 = -(m / 2) := by rw [Int.neg_tdiv, Int.tdiv_eq_ediv_of_nonneg (by omega)]
    have e2 : (-m).tmod 2 = -(m % 2) := by rw [Int.neg_tmod, Int.tmod_eq_emod_of_nonneg (by omega)]
    have e3 : (-m - 1).tdiv 2 = -((m + 1) / 2) := by rw [show -m - 1 = -(m + 1) by omega, Int.neg_tdiv, Int.tdiv_eq_ediv_of_nonneg (by omega)]
    rw [e1, e2, e3]
    split <;> omega
  · rw [if_neg (by omega), Int.tdiv_eq_ediv_of_nonneg h]
theorem mid_quo {al ah : Int} {vn vo : Bool} (hn : vn = decide (al + ah < 0)) (ho : vo = decide ((al + ah).tmod 2 ≠ 0)) (h1 : -9223372036854775807 ≤ al + ah) (h2 : al + ah ≤ 9223372036854775807) :
    ArOk .quo .i64 (γI (ρL [al, ah, al + ah, (al + ah) / 2, (al + ah).tmod 2, al + ah - 1]) (if vn && vo then .sym 5 else .sym 2)) .i64 2 ((al + ah) / 2) := by
  have h := mid_div (al + ah)
  by_cases q : al + ah < 0 ∧ (al + ah).tmod 2 ≠ 0
  · rw [if_pos q] at h
    have e : (vn && vo) = true := by rw [hn, ho, decide_eq_true q.1, decide_eq_true q.2]; rfl
    rw [e]
    refine ar_quo2 (x := al + ah - 1) ?_
    rw [h]
    exact wI (by omega) (by omega)
  · rw [if_neg q] at h
    have e : (vn && vo) = false := by
      rw [hn, ho]
      by_cases q1 : al + ah < 0
      · rw [decide_eq_false (fun q2 => q ⟨q1, q2⟩)]; simp
      · rw [decide_eq_false q1]; rfl
    rw [e]
    refine ar_quo2 (x := al + ah) ?_
    rw [h]
    exact wI (by omega) (by omega)

end Go.Proofs.Ytpdaigenffecmaa
