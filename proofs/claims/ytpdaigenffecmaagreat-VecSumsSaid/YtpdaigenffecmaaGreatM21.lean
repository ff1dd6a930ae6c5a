/-
  The walk of the reference's 'four'. What the reference's product and quotient of intervals keep in their tables of four.
-/
import Derived.Deep.QuietTactic
import Derived.BigQuiet
import Derived.Test.YtpdaigenffecmaaGreatM01
import Derived.Test.YtpdaigenffecmaaGreatM15
import Derived.Test.YtpdaigenffecmaaGreatM20
set_option linter.all false
namespace Go.Proofs.YtpdaigenffecmaaGreat
open Go.RowKit Go.Shelf

set_option maxHeartbeats 1000000 in
theorem c_four (l0 l1 l2 l3 h0 h1 h2 h3 : Int) (fits : Bool) (w : World) :
    Calls Tryz.prog 128 #[.agg #[.int .i64 l0, .int .i64 l1, .int .i64 l2, .int .i64 l3], .agg #[.int .i64 h0, .int .i64 h1, .int .i64 h2, .int .i64 h3], .bool fits] w fun e w' => e = .returned (.tuple #[.agg #[.int .i64 (spFourRes l0 l1 l2 l3 h0 h1 h2 h3 fits).1, .int .i64 (spFourRes l0 l1 l2 l3 h0 h1 h2 h3 fits).2.1], .int .i64 (spFourRes l0 l1 l2 l3 h0 h1 h2 h3 fits).2.2]) ∧ Below w.heap.size w w' := by
  go_enter Tryz.func128, Tryz.ntmps128
  go_wp2_with (first | (with_reducible refine wp_rounds 4 ?_) | (with_reducible refine rounds_step _ ?_; intro _ _) | (go_quiet (fail)) | (go_at_call 122; refine (c_sresult _ _ _ _).mono ?_; rintro e w3 ⟨rfl, hb3⟩; (obtain ⟨hc3, hf3⟩ := bcell hb3; have hs3 := hb3.size; (try simp only [World.size_alloc, World.drew_heap, World.heap_drewN, World.size_setCell] at hs3); try (have z3_0 : w.heap.size < w3.heap.size := (by omega)); try (have z3_1 : w.heap.size + 1 < w3.heap.size := (by omega)); try (have z3_2 : w.heap.size + 1 + 1 < w3.heap.size := (by omega)); try (have z3_3 : w.heap.size + 1 + 1 + 1 < w3.heap.size := (by omega)); try (have z3_4 : w.heap.size + 1 + 1 + 1 + 1 < w3.heap.size := (by omega)); try (have z3_5 : w.heap.size + 1 + 1 + 1 + 1 + 1 < w3.heap.size := (by omega)))))
  refine bodyPost_ret (v := .tuple #[.agg #[.int .i64 (spFourRes l0 l1 l2 l3 h0 h1 h2 h3 fits).1, .int .i64 (spFourRes l0 l1 l2 l3 h0 h1 h2 h3 fits).2.1], .int .i64 (spFourRes l0 l1 l2 l3 h0 h1 h2 h3 fits).2.2]) (by simp [results, Tryz.results128, spFourRes, go_sem, *]) rfl ⟨rfl, by (repeat' (first | (with_reducible exact Below.refl _ _) | assumption | (with_reducible refine Below.setCell ?_ ?_ _) | (with_reducible refine Below.alloc ?_ ?_ _) | (with_reducible refine Below.drew ?_) | (with_reducible refine below_drewN ?_ _) | (with_reducible refine Below.trans ?_ (Below.mono (by assumption) ?_)) | omega | (simp; done) | (simp; omega) | (simp [World.setCell]; omega)))⟩

end Go.Proofs.YtpdaigenffecmaaGreat

namespace Go.Proofs.YtpdaigenffecmaaGreat
open Go.RowKit Go.Shelf

/-- The ends at the four corners. -/
def cx (al ah : Int) (k : Nat) : Int := if k < 2 then al else ah
def cy (bl bh : Int) (k : Nat) : Int := if k % 2 = 0 then bl else bh

/-- Block b holds a table of four numbers. -/
def TabAt (w : World) (b : Nat) (f : Nat → Int) : Prop := ∀ j, j < 4 → w.cell? ⟨b, j, none⟩ = some (.int .i64 (f j))
def Soft (w : World) (b : Nat) : Prop := ∀ j, w.frozen? ⟨b, j, none⟩ = false

theorem TabAt.other {w : World} {b : Nat} {f : Nat → Int} (h : TabAt w b f) (p : Addr) (v : Value) (hp : p.block ≠ b) : TabAt (w.setCell p v) b f := fun j hj => by
  rw [World.cell?_setCell_far _ _ _ _ hp]; exact h j hj
theorem TabAt.set {w : World} {b : Nat} {f : Nat → Int} (h : TabAt w b f) (k : Nat) (x : Int) (hk : k < 4) : TabAt (w.setCell ⟨b, k, none⟩ (.int .i64 x)) b (fun j => if j = k then x else f j) := fun j hj => by
  by_cases e : j = k
  · subst e; rw [World.cell?_setCell_same _ _ _ (h j hj)]; simp
  · rw [World.cell?_setCell_other _ _ _ _ (by intro h2; exact e (by injection h2 with _ h3 _; exact h3.symm))]
    simp only [if_neg e]; exact h j hj
theorem TabAt.congr {w : World} {b : Nat} {f g : Nat → Int} (h : TabAt w b f) (hf : ∀ j, j < 4 → f j = g j) : TabAt w b g := fun j hj => by rw [← hf j hj]; exact h j hj
theorem TabAt.below {w w' : World} {b n : Nat} {f : Nat → Int} (h : TabAt w b f) (hb : Below n w w') (hn : b < n) : TabAt w' b f := fun j hj => by
  rw [hb.cell (p := ⟨b, j, none⟩) hn]; exact h j hj
theorem TabAt.drew {w : World} {b : Nat} {f : Nat → Int} (h : TabAt w b f) : TabAt w.drew b f := h
theorem Soft.set {w : World} {b : Nat} (h : Soft w b) (p : Addr) (v : Value) : Soft (w.setCell p v) b := fun j => by rw [World.frozen?_setCell]; exact h j
theorem Soft.below {w w' : World} {b n : Nat} (h : Soft w b) (hb : Below n w w') (hn : b < n) : Soft w' b := fun j => by
  rw [(bcell hb).2 b j hn]; exact h j

/-- A table that is filled as far as k. -/
def upto (g : Nat → Int) (k : Nat) : Nat → Int := fun j => if j < k then g j else 0
theorem upto_zero (g : Nat → Int) : upto g 0 = fun _ => 0 := by funext j; simp [upto]
theorem upto_step (g : Nat → Int) (k : Nat) : (fun j => if j = k then g k else upto g k j) = upto g (k + 1) := by
  funext j; unfold upto
  by_cases e : j = k
  · subst e; simp
  · by_cases h : j < k
    · simp [e, h, show j < k + 1 by omega]
    · simp [e, h, show ¬ j < k + 1 by omega]

/-- Whether all fits so far. -/
def fitTo (g h : Nat → Bool) : Nat → Bool
  | 0 => true
  | k + 1 => (fitTo g h k && g k) && h k

theorem cx_ok (al ah : Int) (k : Nat) (h1 : fxChk al = 0) (h2 : fxChk ah = 0) : fxChk (cx al ah k) = 0 := by unfold cx; split <;> assumption
theorem cy_ok (bl bh : Int) (k : Nat) (h1 : fxChk bl = 0) (h2 : fxChk bh = 0) : fxChk (cy bl bh k) = 0 := by unfold cy; split <;> assumption
theorem cy_ne (bl bh : Int) (k : Nat) (h1 : bl ≠ 0) (h2 : bh ≠ 0) : cy bl bh k ≠ 0 := by unfold cy; split <;> assumption

end Go.Proofs.YtpdaigenffecmaaGreat
