/-
  Layer 6: 'part' and 'inside'.
-/
import Derived.Test.YtpdaigenffecmaaM34
import Derived.Test.YtpdaigenffecmaaM41
set_option linter.all false
namespace Go.Proofs.Ytpdaigenffecmaa
open Go.RowKit

def nuF : Facts := { ar := [(.sub, .i64, .sym 1, .i64, .sym 0, .sym 4), (.add, .i64, .sym 4, .i64, .lit 1, .sym 5), (.rem, .u64, .sym 2, .u64, .sym 5, .sym 6), (.rem, .u64, .sym 3, .u64, .sym 5, .sym 7), (.add, .i64, .sym 0, .i64, .sym 6, .sym 8), (.add, .i64, .sym 0, .i64, .sym 7, .sym 9)], cv := [(.u64, .sym 5, .sym 5), (.i64, .sym 6, .sym 6), (.i64, .sym 7, .sym 7)], mm := [(false, .sym 8, .sym 9, .sym 10), (true, .sym 8, .sym 9, .sym 11)] }
def nuA : List AV := [SV [0, 1], .v (.one (.int .u64 (.sym 2))), .v (.one (.int .u64 (.sym 3)))]
theorem nu_run : runA Try.prog (tab Try.prog nuF [] [] []) 4 61 nuA = some (SV [10, 11]) := by kernel_rfl
theorem c_part (lo hi v u : Int) (ha : spChk (lo, hi) = 0) (hv : 0 ≤ v) (hu : 0 ≤ u) (w : World) :
    Calls Try.prog 61 #[.agg #[.int .i64 lo, .int .i64 hi], .int .u64 v, .int .u64 u] w fun x w' => x = .returned (.agg #[.int .i64 (min (atI lo hi v) (atI lo hi u)), .int .i64 (max (atI lo hi v) (atI lo hi u))]) ∧ Below w.heap.size w w' := by
  obtain ⟨h1, h2, h3⟩ := spChk_ok ha
  simp only at h1 h2 h3
  have hr : ∀ n : Int, 0 ≤ n → 0 ≤ n.tmod (hi - lo + 1) ∧ n.tmod (hi - lo + 1) < hi - lo + 1 := fun n hn => by
    rw [Int.tmod_eq_emod_of_nonneg hn]
    exact ⟨Int.emod_nonneg n (by omega), Int.emod_lt_of_pos n (by omega)⟩
  have r1 := hr v hv
  have r2 := hr u hu
  obtain ⟨ρ, hρ⟩ : ∃ ρ, ρ = ρL [lo, hi, v, u, hi - lo, hi - lo + 1, v.tmod (hi - lo + 1), u.tmod (hi - lo + 1), atI lo hi v, atI lo hi u, min (atI lo hi v) (atI lo hi u), max (atI lo hi v) (atI lo hi u)] := ⟨_, rfl⟩
  have hF : FactsOk ρ nuF := by
    refine ⟨by simp [nuF], ?_, ?_, ?_⟩
    · intro e he
      simp only [nuF, List.mem_cons, List.not_mem_nil, or_false] at he
      rw [hρ]
      rcases he with rfl | rfl | rfl | rfl | rfl | rfl
      · exact (ar_sub (wI (by omega) (by omega)) : ArOk .sub .i64 hi .i64 lo (hi - lo))
      · exact (ar_add (wI (by omega) (by omega)) : ArOk .add .i64 (hi - lo) .i64 1 (hi - lo + 1))
      · exact (ar_rem v (by omega) : ArOk .rem .u64 v .u64 (hi - lo + 1) (v.tmod (hi - lo + 1)))
      · exact (ar_rem u (by omega) : ArOk .rem .u64 u .u64 (hi - lo + 1) (u.tmod (hi - lo + 1)))
      · exact (ar_add (wI (by omega) (by omega)) : ArOk .add .i64 lo .i64 (v.tmod (hi - lo + 1)) (atI lo hi v))
      · exact (ar_add (wI (by omega) (by omega)) : ArOk .add .i64 lo .i64 (u.tmod (hi - lo + 1)) (atI lo hi u))
    · intro e he
      simp only [nuF, List.mem_cons, List.not_mem_nil, or_false] at he
      rw [hρ]
      rcases he with rfl | rfl | rfl
      · exact (IntWalk.u64_in (hi - lo + 1) ⟨by omega, by omega⟩ : IntKind.u64.wrap (hi - lo + 1) = hi - lo + 1)
      · exact (wI (by omega) (by omega) : IntKind.i64.wrap (v.tmod (hi - lo + 1)) = v.tmod (hi - lo + 1))
      · exact (wI (by omega) (by omega) : IntKind.i64.wrap (u.tmod (hi - lo + 1)) = u.tmod (hi - lo + 1))
    · intro e he
      simp only [nuF, List.mem_cons, List.not_mem_nil, or_false] at he
      rw [hρ]
      rcases he with rfl | rfl <;> rfl
  have h := calls_run nu_run hF (by simp) (by simp) (by simp) rfl w
  rw [hρ] at h
  refine (show Calls Try.prog 61 #[.agg #[.int .i64 lo, .int .i64 hi], .int .u64 v, .int .u64 u] w _ from h).mono ?_
  rintro e w' ⟨⟨s, he⟩, hb⟩
  exact ⟨he, hb⟩

def nvF (z : Bool) : Facts := { cmp := if z then [(.neq, .sym 13, .lit 0, false), (.eql, .sym 6, .lit 0, true), (.leq, .sym 7, .sym 0, true), (.leq, .sym 1, .sym 8, true), (.leq, .sym 9, .sym 2, true), (.leq, .sym 3, .sym 10, true), (.leq, .sym 11, .sym 4, true), (.leq, .sym 5, .sym 12, true)] else [(.neq, .sym 13, .lit 0, true)] }
def nvA : List AV := [SV (rg 0 6), .v (.one (S1 6)), SV (rg 7 6), .v (.one (S1 13))]
theorem nv_run (z : Bool) : runA Try.prog (tab Try.prog (nvF z) [] [] []) 4 16 nvA = some (.v (.one (.bool true))) := by cases z <;> kernel_rfl
theorem c_vinside (r0 r1 r2 r3 r4 r5 e s0 s1 s2 s3 s4 s5 f : Int) (h : f = 0 → e = 0 ∧ (s0 ≤ r0 ∧ r1 ≤ s1) ∧ (s2 ≤ r2 ∧ r3 ≤ s3) ∧ (s4 ≤ r4 ∧ r5 ≤ s5)) (w : World) :
    Calls Try.prog 16 #[.agg #[.int .i64 r0, .int .i64 r1, .int .i64 r2, .int .i64 r3, .int .i64 r4, .int .i64 r5], .int .i64 e, .agg #[.int .i64 s0, .int .i64 s1, .int .i64 s2, .int .i64 s3, .int .i64 s4, .int .i64 s5], .int .i64 f] w fun x w' => x = .returned (.bool true) ∧ Below w.heap.size w w' := by
  obtain ⟨ρ, hρ⟩ : ∃ ρ, ρ = ρL [r0, r1, r2, r3, r4, r5, e, s0, s1, s2, s3, s4, s5, f] := ⟨_, rfl⟩
  have hF : FactsOk ρ (nvF (decide (f = 0))) := by
    refine ⟨?_, by simp [nvF], by simp [nvF], by simp [nvF]⟩
    intro x hx
    by_cases h0 : f = 0
    · obtain ⟨h1, ⟨h2, h3⟩, ⟨h4, h5⟩, h6, h7⟩ := h h0
      rw [decide_eq_true h0] at hx
      simp only [nvF, if_true, List.mem_cons, List.not_mem_nil, or_false] at hx
      rw [hρ]
      rcases hx with rfl | rfl | rfl | rfl | rfl | rfl | rfl | rfl
      · show some (f != 0) = some false; rw [h0]; rfl
      · show some (e == 0) = some true; rw [h1]; rfl
      · show some (decide (s0 ≤ r0)) = some true; rw [decide_eq_true h2]
      · show some (decide (r1 ≤ s1)) = some true; rw [decide_eq_true h3]
      · show some (decide (s2 ≤ r2)) = some true; rw [decide_eq_true h4]
      · show some (decide (r3 ≤ s3)) = some true; rw [decide_eq_true h5]
      · show some (decide (s4 ≤ r4)) = some true; rw [decide_eq_true h6]
      · show some (decide (r5 ≤ s5)) = some true; rw [decide_eq_true h7]
    · rw [decide_eq_false h0] at hx
      simp only [nvF, Bool.false_eq_true, if_false, List.mem_cons, List.not_mem_nil, or_false] at hx
      rw [hρ]
      subst hx
      show some (f != 0) = some true
      simp [h0]
  have h := calls_run (nv_run (decide (f = 0))) hF (by simp) (by simp) (by simp) rfl w
  rw [hρ] at h
  refine (show Calls Try.prog 16 #[.agg #[.int .i64 r0, .int .i64 r1, .int .i64 r2, .int .i64 r3, .int .i64 r4, .int .i64 r5], .int .i64 e, .agg #[.int .i64 s0, .int .i64 s1, .int .i64 s2, .int .i64 s3, .int .i64 s4, .int .i64 s5], .int .i64 f] w _ from h).mono ?_
  rintro e w' ⟨⟨s, he⟩, hb⟩
  exact ⟨he, hb⟩
theorem cond_mem {α : Type} {b : Bool} {l : List α} {e : α} (h : e ∈ cond b l []) : b = true ∧ e ∈ l := by
  cases b
  · cases h
  · exact ⟨rfl, h⟩
end Go.Proofs.Ytpdaigenffecmaa
