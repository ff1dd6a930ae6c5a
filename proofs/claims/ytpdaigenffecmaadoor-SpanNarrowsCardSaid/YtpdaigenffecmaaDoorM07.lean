/-
  '==' at intervals and vectors, for the executor. Package fix's table of powers of ten: what the executor knows of it.
-/
import Derived.Test.YtpdaigenffecmaaDoorM05
import Derived.Test.YtpdaigenffecmaaDoorM06
set_option linter.all false
namespace Go.Proofs.YtpdaigenffecmaaDoor
open Go Go.RowKit

theorem eqOk_span : EqOk Tryd.prog 23 2 := by
  intro xs ys w hx hy
  match xs, ys, hx, hy with
  | [a, b], [c, d], _, _ =>
    have e : ((a == c) && (b == d)) = decide ([a, b] = [c, d]) := by
      by_cases h1 : a = c <;> by_cases h2 : b = d <;> simp [h1, h2]
    refine ⟨?_, ?_, fun op x y => guard_span w op x y _ _⟩
    · rw [← e]; exact eql_span w a b c d
    · rw [← e]; exact neq_span w a b c d
/-- Numbers and rows as they are. -/
def N1 (i : Int) : AV := .v (.one (.int .i64 (.lit i)))
def row (l : List Int) : TV := .agg (l.map fun i => .int .i64 (.lit i))
def Rw (l : List Int) : AV := .v (row l)
/-- A row and an error. -/
def RE (l : List Int) (e : Int) : AV := .tup [row l, .one (.int .i64 (.lit e))]
/-- Letters. -/
def ρL (l : List Int) (n : Nat) : Int := l.getD n 0
def S1 (n : Nat) : CV := .int .i64 (.sym n)
def SR (l : List Nat) : TV := .agg (l.map S1)
def SV (l : List Nat) : AV := .v (SR l)
def SE (l : List Nat) (e : Nat) : AV := .tup [SR l, .one (S1 e)]
def SE0 (l : List Nat) : AV := .tup [SR l, .one (.int .i64 (.lit 0))]
def rg (a n : Nat) : List Nat := (List.range n).map (a + ·)
/-- A draft by letters from a on. -/
def dr (a : Nat) : List CV := [.int .i64 (.sym a), .int .u8 (.sym (a + 1)), .int .u32 (.sym (a + 2))]
theorem wf_N1 (i : Int) (m : Mem) : (N1 i).wf m = true := rfl
end Go.Proofs.YtpdaigenffecmaaDoor

namespace Go.Proofs.YtpdaigenffecmaaDoor
open Go Go.RowKit

def pwCs : List CV := (List.range 13).map fun i => .int .u64 (.lit ((10 : Int) ^ i))
def pwM : Mem := [⟨1000000 + 0, false, pwCs⟩]
/-- The table lies in the memory. -/
def Pow10 (w : World) : Prop := ∀ j, j < 13 → w.cell? ⟨0, j, none⟩ = some (.int .u64 ((10 : Int) ^ j))
theorem Pow10.lt {w : World} (h : Pow10 w) : 0 < w.heap.size := World.block_lt_of_cell? w _ (h 0 (by decide))
theorem Pow10.below {w0 w : World} (h : Pow10 w0) (hb : Below w0.heap.size w0 w) : Pow10 w :=
  fun j hj => (hb.cell (p := ⟨0, j, none⟩) h.lt).trans (h j hj)
theorem pw_get {b : Nat} {x : Blk} (h : pwM.get b = some x) : b = 1000000 + 0 ∧ x = ⟨1000000 + 0, false, pwCs⟩ := by
  simp only [pwM, Mem.get] at h
  split at h
  · rename_i e; cases h; exact ⟨(Nat.eq_of_beq_eq_true e).symm, rfl⟩
  · cases h
theorem pw_rel (ρ : Nat → Int) {w : World} (h : Pow10 w) : Rel ρ w.heap.size w s0 pwM w := by
  have hs : s0 (1000000 + 0) = 0 := s0_gl _
  refine ⟨?_, ?_, ?_, ?_, ?_, Below.refl _ _, Nat.le_refl _, s0_gl⟩
  · intro b x hx j c hj
    obtain ⟨rfl, rfl⟩ := pw_get hx
    rw [hs]
    simp only [pwCs, List.getElem?_map, Option.map_eq_some_iff] at hj
    obtain ⟨i, hi, rfl⟩ := hj
    have hlt : j < 13 := by have := (List.getElem?_eq_some_iff.1 hi).1; simpa using this
    have e : i = j := by rw [List.getElem?_range hlt] at hi; cases hi; rfl
    subst e
    exact h i hlt
  · intro b x hx
    obtain ⟨rfl, rfl⟩ := pw_get hx
    rw [hs]; exact h.lt
  · intro b x hx hw
    obtain ⟨rfl, rfl⟩ := pw_get hx
    cases hw
  · intro b b' x x' hx hx' _
    obtain ⟨rfl, _⟩ := pw_get hx; obtain ⟨rfl, _⟩ := pw_get hx'
    rfl
  · intro b x hx
    obtain ⟨rfl, rfl⟩ := pw_get hx
    kernel_rfl

end Go.Proofs.YtpdaigenffecmaaDoor
