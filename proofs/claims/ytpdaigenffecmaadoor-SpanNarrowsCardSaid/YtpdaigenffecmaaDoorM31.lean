/-
  Layer 2: 'inside' answers true; contracts under other names.
-/
import Derived.Test.YtpdaigenffecmaaDoorM07
import Derived.Test.YtpdaigenffecmaaDoorM30
set_option linter.all false
namespace Go.Proofs.YtpdaigenffecmaaDoor
open Go.RowKit

def yiF (z : Bool) : Facts := { cmp := if z then [(.neq, .sym 5, .lit 0, false), (.eql, .sym 2, .lit 0, true), (.leq, .sym 3, .sym 0, true), (.leq, .sym 1, .sym 4, true)] else [(.neq, .sym 5, .lit 0, true)] }
def yiA : List AV := [SV [0, 1], .v (.one (S1 2)), SV [3, 4], .v (.one (S1 5))]
theorem yi_run (z : Bool) : runA Tryd.prog (tab Tryd.prog (yiF z) [(23, 2)] [] []) 4 48 yiA = some (.v (.one (.bool true))) := by cases z <;> kernel_rfl
theorem c_inside (al ah e bl bh f : Int) (h : f = 0 → e = 0 ∧ bl ≤ al ∧ ah ≤ bh) (w : World) :
    Calls Tryd.prog 48 #[.agg #[.int .i64 al, .int .i64 ah], .int .i64 e, .agg #[.int .i64 bl, .int .i64 bh], .int .i64 f] w fun x w' => x = .returned (.bool true) ∧ Below w.heap.size w w' := by
  obtain ⟨ρ, hρ⟩ : ∃ ρ, ρ = ρL [al, ah, e, bl, bh, f] := ⟨_, rfl⟩
  have hF : FactsOk ρ (yiF (decide (f = 0))) := by
    refine ⟨?_, by simp [yiF], by simp [yiF], by simp [yiF]⟩
    intro x hx
    by_cases h0 : f = 0
    · obtain ⟨h1, h2, h3⟩ := h h0
      rw [decide_eq_true h0] at hx
      simp only [yiF, if_true, List.mem_cons, List.not_mem_nil, or_false] at hx
      rw [hρ]
      rcases hx with rfl | rfl | rfl | rfl
      · show some (f != 0) = some false; rw [h0]; rfl
      · show some (e == 0) = some true; rw [h1]; rfl
      · show some (decide (bl ≤ al)) = some true; rw [decide_eq_true h2]
      · show some (decide (ah ≤ bh)) = some true; rw [decide_eq_true h3]
    · rw [decide_eq_false h0] at hx
      simp only [yiF, Bool.false_eq_true, if_false, List.mem_cons, List.not_mem_nil, or_false] at hx
      rw [hρ]
      subst hx
      show some (f != 0) = some true
      simp [h0]
  have h := calls_run (yi_run (decide (f = 0))) hF (by intro e he; simp only [List.mem_cons, List.not_mem_nil, or_false] at he; subst he; exact eqOk_span) (by simp) (by simp) rfl w
  rw [hρ] at h
  refine (show Calls Tryd.prog 48 #[.agg #[.int .i64 al, .int .i64 ah], .int .i64 e, .agg #[.int .i64 bl, .int .i64 bh], .int .i64 f] w _ from h).mono ?_
  rintro e w' ⟨⟨s, he⟩, hb⟩
  exact ⟨he, hb⟩

/-- A contract's result under another name. -/
theorem tri_eq {f : FuncId} {args : Array Value} {w : World} {X Y : Int × Int × Int} (h : Calls Tryd.prog f args w fun x w' => x = .returned (.tuple #[.agg #[.int .i64 X.1, .int .i64 X.2.1], .int .i64 X.2.2]) ∧ Below w.heap.size w w') (e : X = Y) :
    Calls Tryd.prog f args w fun x w' => x = .returned (.tuple #[.agg #[.int .i64 Y.1, .int .i64 Y.2.1], .int .i64 Y.2.2]) ∧ Below w.heap.size w w' := e ▸ h
theorem int_eq {f : FuncId} {args : Array Value} {w : World} {X Y : Int} (h : Calls Tryd.prog f args w fun x w' => x = .returned (.int .i64 X) ∧ Below w.heap.size w w') (e : X = Y) :
    Calls Tryd.prog f args w fun x w' => x = .returned (.int .i64 Y) ∧ Below w.heap.size w w' := e ▸ h
theorem chk_bad {a : Int × Int} (h : spChk a ≠ 0) : spChk a = 20 := (spChk_or a).resolve_left h
end Go.Proofs.YtpdaigenffecmaaDoor
