/-
  Package vec: told, with and without an error. Stores of a whole interval or vector into a block: what the block holds then.
-/
import Derived.Test.YtpdaigenffecmaaM15
import Derived.Test.YtpdaigenffecmaaM16
set_option linter.all false
namespace Go.Proofs.Ytpdaigenffecmaa
open Go.RowKit Go.Shelf

theorem c_toldV (p : Nat) (a b c : Int × Int × Int) (e0 : Int) (w : World) (hp : p < w.heap.size) (hc : w.cell? ⟨p, 0, none⟩ = some (.int .i64 e0)) :
    Calls Try.prog 63 #[.pointer (some ⟨p, 0, none⟩), .agg #[.int .i64 a.1, .int .i64 a.2.1, .int .i64 b.1, .int .i64 b.2.1, .int .i64 c.1, .int .i64 c.2.1]] w fun e w' => e = .returned (vRes e0 a b c) ∧ Below w.heap.size w w' := by
  by_cases h : e0 = 0
  · subst h
    refine (c_toldV_ok p a.1 a.2.1 b.1 b.2.1 c.1 c.2.1 w hp hc).mono ?_
    rintro e w' ⟨rfl, hb⟩
    exact ⟨by unfold vRes; rw [if_pos rfl], hb⟩
  · refine (c_toldV_bad p a.1 a.2.1 b.1 b.2.1 c.1 c.2.1 e0 w hp hc h).mono ?_
    rintro e w' ⟨rfl, hb⟩
    exact ⟨by unfold vRes; rw [if_neg h], hb⟩

theorem c_toldS (p : Nat) (a : Int × Int × Int) (e0 : Int) (w : World) (hp : p < w.heap.size) (hc : w.cell? ⟨p, 0, none⟩ = some (.int .i64 e0)) :
    Calls Try.prog 72 #[.pointer (some ⟨p, 0, none⟩), .agg #[.int .i64 a.1, .int .i64 a.2.1]] w fun e w' => e = .returned (iRes e0 a) ∧ Below w.heap.size w w' := by
  by_cases h : e0 = 0
  · subst h
    refine (c_toldS_ok p a.1 a.2.1 w hp hc).mono ?_
    rintro e w' ⟨rfl, hb⟩
    exact ⟨by unfold iRes; rw [if_pos rfl], hb⟩
  · refine (c_toldS_bad p a.1 a.2.1 e0 w hp hc h).mono ?_
    rintro e w' ⟨rfl, hb⟩
    exact ⟨by unfold iRes; rw [if_neg h], hb⟩

end Go.Proofs.Ytpdaigenffecmaa

namespace Go.Proofs.Ytpdaigenffecmaa
open Go.RowKit Go.Shelf

theorem st2 (w : World) (b : Nat) (n0 n1 : Int) {v0 v1 : Value} (h0 : w.cell? ⟨b, 0, none⟩ = some v0) (h1 : w.cell? ⟨b, 1, none⟩ = some v1) :
    ((w.setCell ⟨b, 0, none⟩ (.int .i64 n0)).setCell ⟨b, 1, none⟩ (.int .i64 n1)).cell? ⟨b, 0, none⟩ = some (.int .i64 n0) ∧
    ((w.setCell ⟨b, 0, none⟩ (.int .i64 n0)).setCell ⟨b, 1, none⟩ (.int .i64 n1)).cell? ⟨b, 1, none⟩ = some (.int .i64 n1) := by
  have e1 : (w.setCell ⟨b, 0, none⟩ (.int .i64 n0)).cell? ⟨b, 1, none⟩ = some v1 := by rw [World.cell?_setCell_other _ _ _ _ (by simp)]; exact h1
  refine ⟨?_, ?_⟩
  · rw [World.cell?_setCell_other _ _ _ _ (by simp), World.cell?_setCell_same _ _ _ h0]
  · rw [World.cell?_setCell_same _ _ _ e1]

theorem st1 (w : World) (b k : Nat) (n : Int) {f : Nat → Int} (h : ∀ j, j < 6 → w.cell? ⟨b, j, none⟩ = some (.int .i64 (f j))) (hk : k < 6) :
    ∀ j, j < 6 → (w.setCell ⟨b, k, none⟩ (.int .i64 n)).cell? ⟨b, j, none⟩ = some (.int .i64 (if j = k then n else f j)) := fun j hj => by
  by_cases e : j = k
  · subst e; rw [World.cell?_setCell_same _ _ _ (h j hj)]; simp
  · rw [World.cell?_setCell_other _ _ _ _ (by intro h2; exact e (by injection h2 with _ h3 _; exact h3.symm)), if_neg e]; exact h j hj
theorem st6 (w : World) (b : Nat) (n0 n1 n2 n3 n4 n5 : Int) {z0 z1 z2 z3 z4 z5 : Int} (h0 : w.cell? ⟨b, 0, none⟩ = some (.int .i64 z0)) (h1 : w.cell? ⟨b, 1, none⟩ = some (.int .i64 z1)) (h2 : w.cell? ⟨b, 2, none⟩ = some (.int .i64 z2))
    (h3 : w.cell? ⟨b, 3, none⟩ = some (.int .i64 z3)) (h4 : w.cell? ⟨b, 4, none⟩ = some (.int .i64 z4)) (h5 : w.cell? ⟨b, 5, none⟩ = some (.int .i64 z5)) :
    ∀ j, j < 6 → ((((((w.setCell ⟨b, 0, none⟩ (.int .i64 n0)).setCell ⟨b, 1, none⟩ (.int .i64 n1)).setCell ⟨b, 2, none⟩ (.int .i64 n2)).setCell ⟨b, 3, none⟩ (.int .i64 n3)).setCell ⟨b, 4, none⟩ (.int .i64 n4)).setCell ⟨b, 5, none⟩ (.int .i64 n5)).cell? ⟨b, j, none⟩ = some (.int .i64 (six n0 n1 n2 n3 n4 n5 j)) := by
  have g0 : ∀ j, j < 6 → w.cell? ⟨b, j, none⟩ = some (.int .i64 (six z0 z1 z2 z3 z4 z5 j)) := by
    intro j hj
    rcases (by omega : j = 0 ∨ j = 1 ∨ j = 2 ∨ j = 3 ∨ j = 4 ∨ j = 5) with rfl | rfl | rfl | rfl | rfl | rfl <;> simp [six, h0, h1, h2, h3, h4, h5]
  have g := st1 _ b 5 n5 (st1 _ b 4 n4 (st1 _ b 3 n3 (st1 _ b 2 n2 (st1 _ b 1 n1 (st1 _ b 0 n0 g0 (by decide)) (by decide)) (by decide)) (by decide)) (by decide)) (by decide)
  intro j hj
  rw [g j hj]
  rcases (by omega : j = 0 ∨ j = 1 ∨ j = 2 ∨ j = 3 ∨ j = 4 ∨ j = 5) with rfl | rfl | rfl | rfl | rfl | rfl <;> simp [six]

/-! What an old block holds behind a call, with none, one or two new blocks laid ahead of it. -/
section
variable {n b o p : Nat} {w w' : World} {v : Option Value} {f : Bool} {x y : Obj}
theorem kp (hb : Below n w w') (hn : b < n) (h : w.cell? ⟨b, o, none⟩ = v) : w'.cell? ⟨b, o, none⟩ = v := ((bcell hb).1 _ _ hn).trans h
theorem kp1 (hb : Below (w.alloc x).heap.size (w.alloc x) w') (hn : b < w.heap.size) (h : w.cell? ⟨b, o, none⟩ = v) : w'.cell? ⟨b, o, none⟩ = v :=
  kp hb (by simp; omega) ((World.cell?_alloc_past _ _ _ hn).trans h)
theorem kp2 (hb : Below ((w.alloc x).alloc y).heap.size ((w.alloc x).alloc y) w') (hn : b < w.heap.size) (h : w.cell? ⟨b, o, none⟩ = v) : w'.cell? ⟨b, o, none⟩ = v :=
  kp1 hb (by simp; omega) ((World.cell?_alloc_past _ _ _ hn).trans h)
theorem kf (hb : Below n w w') (hn : b < n) (h : w.frozen? ⟨b, o, none⟩ = f) : w'.frozen? ⟨b, o, none⟩ = f := ((bcell hb).2 _ _ hn).trans h
theorem kf1 (hb : Below (w.alloc x).heap.size (w.alloc x) w') (hn : b < w.heap.size) (h : w.frozen? ⟨b, o, none⟩ = f) : w'.frozen? ⟨b, o, none⟩ = f :=
  kf hb (by simp; omega) ((World.frozen?_alloc_past _ _ _ hn).trans h)
theorem kf2 (hb : Below ((w.alloc x).alloc y).heap.size ((w.alloc x).alloc y) w') (hn : b < w.heap.size) (h : w.frozen? ⟨b, o, none⟩ = f) : w'.frozen? ⟨b, o, none⟩ = f :=
  kf1 hb (by simp; omega) ((World.frozen?_alloc_past _ _ _ hn).trans h)
theorem ko (ho : OnlyB p w w') (hn : b < w.heap.size) (hp : b ≠ p) (h : w.cell? ⟨b, o, none⟩ = v) : w'.cell? ⟨b, o, none⟩ = v := (ho.cell hn hp).trans h
theorem kof (ho : OnlyB p w w') (hn : b < w.heap.size) (hp : b ≠ p) (h : w.frozen? ⟨b, o, none⟩ = f) : w'.frozen? ⟨b, o, none⟩ = f := (ho.frozen hn hp).trans h
theorem kfar {q : Addr} {z : Value} (hq : q.block ≠ b) (h : w.cell? ⟨b, o, none⟩ = v) : (w.setCell q z).cell? ⟨b, o, none⟩ = v := (World.cell?_setCell_far _ _ _ _ hq).trans h
/-- What the block laid just ahead of the call holds. -/
theorem kn {c : Array Value} {t : TypeId} (hb : Below (w.alloc (.cells c t)).heap.size (w.alloc (.cells c t)) w') (i : Nat) : w'.cell? ⟨w.heap.size, i, none⟩ = c[i]? :=
  kp hb (by simp) (World.cell?_alloc_at _ _ _ _ rfl)
end

end Go.Proofs.Ytpdaigenffecmaa
