/-
  The reference's small functions, run by the executor.
-/
import Derived.Test.YtpdaigenffecmaaDoorM22
import Derived.Test.YtpdaigenffecmaaDoorM26
set_option linter.all false
namespace Go.Proofs.YtpdaigenffecmaaDoor
open Go.RowKit


/-! ### monocleref02.Min -/
def rMinL (va vb : Bool) : List Ent := [⟨65, [SV [0, 1]], .v (.one (.bool va))⟩, ⟨65, [SV [2, 3]], .v (.one (.bool vb))⟩]
def rMinF (va vb : Bool) : Facts := if va && vb then { cmp := [], ar := [], mm := [(false, .sym 0, .sym 2, .sym 4), (false, .sym 1, .sym 3, .sym 5)] } else {}
theorem rMin_run (va vb : Bool) : runA Tryd.prog (tab Tryd.prog (rMinF va vb) [(23, 2)] (rMinL va vb) []) 4 39 [SV [0, 1], SV [2, 3]] = some (if va && vb then SE0 [4, 5] else RE [0, 0] 20) := by
  cases va <;> cases vb <;> kernel_rfl
theorem c_sMin (al ah bl bh : Int) (w : World) :
    Calls Tryd.prog 39 #[.agg #[.int .i64 al, .int .i64 ah], .agg #[.int .i64 bl, .int .i64 bh]] w fun e w' => e = .returned (.tuple #[.agg #[.int .i64 (spMin (al, ah) (bl, bh)).1, .int .i64 (spMin (al, ah) (bl, bh)).2.1], .int .i64 (spMin (al, ah) (bl, bh)).2.2]) ∧ Below w.heap.size w w' := by
  obtain ⟨va, hva⟩ : ∃ b, b = decide (spChk (al, ah) = 0) := ⟨_, rfl⟩
  obtain ⟨vb, hvb⟩ : ∃ b, b = decide (spChk (bl, bh) = 0) := ⟨_, rfl⟩
  obtain ⟨ρ, hρ⟩ : ∃ ρ, ρ = ρL [al, ah, bl, bh, (min al bl), (min ah bh)] := ⟨_, rfl⟩
  have hL : ∀ e ∈ rMinL va vb, EntOk Tryd.prog ρ e := by
    intro e he
    simp only [rMinL, List.mem_cons, List.not_mem_nil, or_false] at he
    rcases he with rfl | rfl
    · rw [hρ]; intro s w; have h := c_sRight al ah w; rw [← hva] at h; exact h
    · rw [hρ]; intro s w; have h := c_sRight bl bh w; rw [← hvb] at h; exact h
  have hF : FactsOk ρ (rMinF va vb) := by
    unfold rMinF
    split
    · rename_i hg
      simp only [Bool.and_eq_true] at hg
      obtain ⟨ga, gb⟩ := hg
      rw [hva] at ga; rw [hvb] at gb
      obtain ⟨a1, a2, a3⟩ := spChk_ok (of_decide_eq_true ga); obtain ⟨b1, b2, b3⟩ := spChk_ok (of_decide_eq_true gb)
      simp only at a1 a2 a3 b1 b2 b3
      refine ⟨?_, ?_, ?_, ?_⟩
      · simp
      · simp
      · simp
      · intro e he
        simp only [List.mem_cons, List.not_mem_nil, or_false] at he
        rcases he with rfl | rfl
        · rw [hρ]; rfl
        · rw [hρ]; rfl
    · exact ⟨by simp, by simp, by simp, by simp⟩
  have h := calls_run (rMin_run va vb) hF (by intro e he; simp only [List.mem_cons, List.not_mem_nil, or_false] at he; subst he; exact eqOk_span) hL (by simp) rfl w
  rw [hρ] at h
  refine (show Calls Tryd.prog 39 #[.agg #[.int .i64 al, .int .i64 ah], .agg #[.int .i64 bl, .int .i64 bh]] w _ from h).mono ?_
  rintro e w' ⟨⟨s, rfl⟩, hb⟩
  refine ⟨?_, hb⟩
  by_cases qa : spChk (al, ah) = 0
  · by_cases qb : spChk (bl, bh) = 0
    · have ea : va = true := by rw [hva]; exact decide_eq_true qa
      have eb : vb = true := by rw [hvb]; exact decide_eq_true qb
      subst ea; subst eb
      rw [show spMin (al, ah) (bl, bh) = (min al bl, min ah bh, 0) from by unfold spMin; rw [if_pos (spAll_eq qa qb)]]
      rfl
    · have eb : vb = false := by rw [hvb]; exact decide_eq_false qb
      subst eb
      rw [show spMin (al, ah) (bl, bh) = (0, 0, 20) from by unfold spMin; rw [if_neg (spAll_ne (.inr qb))]]
      cases va <;> rfl
  · have ea : va = false := by rw [hva]; exact decide_eq_false qa
    subst ea
    rw [show spMin (al, ah) (bl, bh) = (0, 0, 20) from by unfold spMin; rw [if_neg (spAll_ne (.inl qa))]]
    rfl

/-! ### monocleref02.Max -/
def rMaxL (va vb : Bool) : List Ent := [⟨65, [SV [0, 1]], .v (.one (.bool va))⟩, ⟨65, [SV [2, 3]], .v (.one (.bool vb))⟩]
def rMaxF (va vb : Bool) : Facts := if va && vb then { cmp := [], ar := [], mm := [(true, .sym 0, .sym 2, .sym 4), (true, .sym 1, .sym 3, .sym 5)] } else {}
theorem rMax_run (va vb : Bool) : runA Tryd.prog (tab Tryd.prog (rMaxF va vb) [(23, 2)] (rMaxL va vb) []) 4 41 [SV [0, 1], SV [2, 3]] = some (if va && vb then SE0 [4, 5] else RE [0, 0] 20) := by
  cases va <;> cases vb <;> kernel_rfl
theorem c_sMax (al ah bl bh : Int) (w : World) :
    Calls Tryd.prog 41 #[.agg #[.int .i64 al, .int .i64 ah], .agg #[.int .i64 bl, .int .i64 bh]] w fun e w' => e = .returned (.tuple #[.agg #[.int .i64 (spMax (al, ah) (bl, bh)).1, .int .i64 (spMax (al, ah) (bl, bh)).2.1], .int .i64 (spMax (al, ah) (bl, bh)).2.2]) ∧ Below w.heap.size w w' := by
  obtain ⟨va, hva⟩ : ∃ b, b = decide (spChk (al, ah) = 0) := ⟨_, rfl⟩
  obtain ⟨vb, hvb⟩ : ∃ b, b = decide (spChk (bl, bh) = 0) := ⟨_, rfl⟩
  obtain ⟨ρ, hρ⟩ : ∃ ρ, ρ = ρL [al, ah, bl, bh, (max al bl), (max ah bh)] := ⟨_, rfl⟩
  have hL : ∀ e ∈ rMaxL va vb, EntOk Tryd.prog ρ e := by
    intro e he
    simp only [rMaxL, List.mem_cons, List.not_mem_nil, or_false] at he
    rcases he with rfl | rfl
    · rw [hρ]; intro s w; have h := c_sRight al ah w; rw [← hva] at h; exact h
    · rw [hρ]; intro s w; have h := c_sRight bl bh w; rw [← hvb] at h; exact h
  have hF : FactsOk ρ (rMaxF va vb) := by
    unfold rMaxF
    split
    · rename_i hg
      simp only [Bool.and_eq_true] at hg
      obtain ⟨ga, gb⟩ := hg
      rw [hva] at ga; rw [hvb] at gb
      obtain ⟨a1, a2, a3⟩ := spChk_ok (of_decide_eq_true ga); obtain ⟨b1, b2, b3⟩ := spChk_ok (of_decide_eq_true gb)
      simp only at a1 a2 a3 b1 b2 b3
      refine ⟨?_, ?_, ?_, ?_⟩
      · simp
      · simp
      · simp
      · intro e he
        simp only [List.mem_cons, List.not_mem_nil, or_false] at he
        rcases he with rfl | rfl
        · rw [hρ]; rfl
        · rw [hρ]; rfl
    · exact ⟨by simp, by simp, by simp, by simp⟩
  have h := calls_run (rMax_run va vb) hF (by intro e he; simp only [List.mem_cons, List.not_mem_nil, or_false] at he; subst he; exact eqOk_span) hL (by simp) rfl w
  rw [hρ] at h
  refine (show Calls Tryd.prog 41 #[.agg #[.int .i64 al, .int .i64 ah], .agg #[.int .i64 bl, .int .i64 bh]] w _ from h).mono ?_
  rintro e w' ⟨⟨s, rfl⟩, hb⟩
  refine ⟨?_, hb⟩
  by_cases qa : spChk (al, ah) = 0
  · by_cases qb : spChk (bl, bh) = 0
    · have ea : va = true := by rw [hva]; exact decide_eq_true qa
      have eb : vb = true := by rw [hvb]; exact decide_eq_true qb
      subst ea; subst eb
      rw [show spMax (al, ah) (bl, bh) = (max al bl, max ah bh, 0) from by unfold spMax; rw [if_pos (spAll_eq qa qb)]]
      rfl
    · have eb : vb = false := by rw [hvb]; exact decide_eq_false qb
      subst eb
      rw [show spMax (al, ah) (bl, bh) = (0, 0, 20) from by unfold spMax; rw [if_neg (spAll_ne (.inr qb))]]
      cases va <;> rfl
  · have ea : va = false := by rw [hva]; exact decide_eq_false qa
    subst ea
    rw [show spMax (al, ah) (bl, bh) = (0, 0, 20) from by unfold spMax; rw [if_neg (spAll_ne (.inl qa))]]
    rfl

/-! ### monocleref02.Hull -/
def rHullL (va vb : Bool) : List Ent := [⟨65, [SV [0, 1]], .v (.one (.bool va))⟩, ⟨65, [SV [2, 3]], .v (.one (.bool vb))⟩]
def rHullF (va vb : Bool) : Facts := if va && vb then { cmp := [], ar := [], mm := [(false, .sym 0, .sym 2, .sym 4), (true, .sym 1, .sym 3, .sym 5)] } else {}
theorem rHull_run (va vb : Bool) : runA Tryd.prog (tab Tryd.prog (rHullF va vb) [(23, 2)] (rHullL va vb) []) 4 43 [SV [0, 1], SV [2, 3]] = some (if va && vb then SE0 [4, 5] else RE [0, 0] 20) := by
  cases va <;> cases vb <;> kernel_rfl
theorem c_sHull (al ah bl bh : Int) (w : World) :
    Calls Tryd.prog 43 #[.agg #[.int .i64 al, .int .i64 ah], .agg #[.int .i64 bl, .int .i64 bh]] w fun e w' => e = .returned (.tuple #[.agg #[.int .i64 (spHull (al, ah) (bl, bh)).1, .int .i64 (spHull (al, ah) (bl, bh)).2.1], .int .i64 (spHull (al, ah) (bl, bh)).2.2]) ∧ Below w.heap.size w w' := by
  obtain ⟨va, hva⟩ : ∃ b, b = decide (spChk (al, ah) = 0) := ⟨_, rfl⟩
  obtain ⟨vb, hvb⟩ : ∃ b, b = decide (spChk (bl, bh) = 0) := ⟨_, rfl⟩
  obtain ⟨ρ, hρ⟩ : ∃ ρ, ρ = ρL [al, ah, bl, bh, (min al bl), (max ah bh)] := ⟨_, rfl⟩
  have hL : ∀ e ∈ rHullL va vb, EntOk Tryd.prog ρ e := by
    intro e he
    simp only [rHullL, List.mem_cons, List.not_mem_nil, or_false] at he
    rcases he with rfl | rfl
    · rw [hρ]; intro s w; have h := c_sRight al ah w; rw [← hva] at h; exact h
    · rw [hρ]; intro s w; have h := c_sRight bl bh w; rw [← hvb] at h; exact h
  have hF : FactsOk ρ (rHullF va vb) := by
    unfold rHullF
    split
    · rename_i hg
      simp only [Bool.and_eq_true] at hg
      obtain ⟨ga, gb⟩ := hg
      rw [hva] at ga; rw [hvb] at gb
      obtain ⟨a1, a2, a3⟩ := spChk_ok (of_decide_eq_true ga); obtain ⟨b1, b2, b3⟩ := spChk_ok (of_decide_eq_true gb)
      simp only at a1 a2 a3 b1 b2 b3
      refine ⟨?_, ?_, ?_, ?_⟩
      · simp
      · simp
      · simp
      · intro e he
        simp only [List.mem_cons, List.not_mem_nil, or_false] at he
        rcases he with rfl | rfl
        · rw [hρ]; rfl
        · rw [hρ]; rfl
    · exact ⟨by simp, by simp, by simp, by simp⟩
  have h := calls_run (rHull_run va vb) hF (by intro e he; simp only [List.mem_cons, List.not_mem_nil, or_false] at he; subst he; exact eqOk_span) hL (by simp) rfl w
  rw [hρ] at h
  refine (show Calls Tryd.prog 43 #[.agg #[.int .i64 al, .int .i64 ah], .agg #[.int .i64 bl, .int .i64 bh]] w _ from h).mono ?_
  rintro e w' ⟨⟨s, rfl⟩, hb⟩
  refine ⟨?_, hb⟩
  by_cases qa : spChk (al, ah) = 0
  · by_cases qb : spChk (bl, bh) = 0
    · have ea : va = true := by rw [hva]; exact decide_eq_true qa
      have eb : vb = true := by rw [hvb]; exact decide_eq_true qb
      subst ea; subst eb
      rw [show spHull (al, ah) (bl, bh) = (min al bl, max ah bh, 0) from by unfold spHull; rw [if_pos (spAll_eq qa qb)]]
      rfl
    · have eb : vb = false := by rw [hvb]; exact decide_eq_false qb
      subst eb
      rw [show spHull (al, ah) (bl, bh) = (0, 0, 20) from by unfold spHull; rw [if_neg (spAll_ne (.inr qb))]]
      cases va <;> rfl
  · have ea : va = false := by rw [hva]; exact decide_eq_false qa
    subst ea
    rw [show spHull (al, ah) (bl, bh) = (0, 0, 20) from by unfold spHull; rw [if_neg (spAll_ne (.inl qa))]]
    rfl

/-! ### monocleref02.Meet -/
def rMeetL (va vb vn : Bool) : List Ent := [⟨65, [SV [0, 1]], .v (.one (.bool va))⟩, ⟨65, [SV [2, 3]], .v (.one (.bool vb))⟩]
def rMeetF (va vb vn : Bool) : Facts := if va && vb then { cmp := [(.gtr, .sym 4, .sym 5, vn)], ar := [], mm := [(true, .sym 0, .sym 2, .sym 4), (false, .sym 1, .sym 3, .sym 5)] } else {}
theorem rMeet_run (va vb vn : Bool) : runA Tryd.prog (tab Tryd.prog (rMeetF va vb vn) [(23, 2)] (rMeetL va vb vn) []) 4 45 [SV [0, 1], SV [2, 3]] = some (if va && vb then (if vn then RE [0, 0] 4 else SE0 [4, 5]) else RE [0, 0] 20) := by
  cases va <;> cases vb <;> cases vn <;> kernel_rfl
theorem c_sMeet (al ah bl bh : Int) (w : World) :
    Calls Tryd.prog 45 #[.agg #[.int .i64 al, .int .i64 ah], .agg #[.int .i64 bl, .int .i64 bh]] w fun e w' => e = .returned (.tuple #[.agg #[.int .i64 (spMeet (al, ah) (bl, bh)).1, .int .i64 (spMeet (al, ah) (bl, bh)).2.1], .int .i64 (spMeet (al, ah) (bl, bh)).2.2]) ∧ Below w.heap.size w w' := by
  obtain ⟨va, hva⟩ : ∃ b, b = decide (spChk (al, ah) = 0) := ⟨_, rfl⟩
  obtain ⟨vb, hvb⟩ : ∃ b, b = decide (spChk (bl, bh) = 0) := ⟨_, rfl⟩
  obtain ⟨vn, hvn⟩ : ∃ b, b = decide (max al bl > min ah bh) := ⟨_, rfl⟩
  obtain ⟨ρ, hρ⟩ : ∃ ρ, ρ = ρL [al, ah, bl, bh, (max al bl), (min ah bh)] := ⟨_, rfl⟩
  have hL : ∀ e ∈ rMeetL va vb vn, EntOk Tryd.prog ρ e := by
    intro e he
    simp only [rMeetL, List.mem_cons, List.not_mem_nil, or_false] at he
    rcases he with rfl | rfl
    · rw [hρ]; intro s w; have h := c_sRight al ah w; rw [← hva] at h; exact h
    · rw [hρ]; intro s w; have h := c_sRight bl bh w; rw [← hvb] at h; exact h
  have hF : FactsOk ρ (rMeetF va vb vn) := by
    unfold rMeetF
    split
    · rename_i hg
      simp only [Bool.and_eq_true] at hg
      obtain ⟨ga, gb⟩ := hg
      rw [hva] at ga; rw [hvb] at gb
      obtain ⟨a1, a2, a3⟩ := spChk_ok (of_decide_eq_true ga); obtain ⟨b1, b2, b3⟩ := spChk_ok (of_decide_eq_true gb)
      simp only at a1 a2 a3 b1 b2 b3
      refine ⟨?_, ?_, ?_, ?_⟩
      · intro e he
        simp only [List.mem_cons, List.not_mem_nil, or_false] at he
        rcases he with rfl
        · rw [hρ]; rw [hvn]; rfl
      · simp
      · simp
      · intro e he
        simp only [List.mem_cons, List.not_mem_nil, or_false] at he
        rcases he with rfl | rfl
        · rw [hρ]; rfl
        · rw [hρ]; rfl
    · exact ⟨by simp, by simp, by simp, by simp⟩
  have h := calls_run (rMeet_run va vb vn) hF (by intro e he; simp only [List.mem_cons, List.not_mem_nil, or_false] at he; subst he; exact eqOk_span) hL (by simp) rfl w
  rw [hρ] at h
  refine (show Calls Tryd.prog 45 #[.agg #[.int .i64 al, .int .i64 ah], .agg #[.int .i64 bl, .int .i64 bh]] w _ from h).mono ?_
  rintro e w' ⟨⟨s, rfl⟩, hb⟩
  refine ⟨?_, hb⟩
  by_cases qa : spChk (al, ah) = 0
  · by_cases qb : spChk (bl, bh) = 0
    · have ea : va = true := by rw [hva]; exact decide_eq_true qa
      have eb : vb = true := by rw [hvb]; exact decide_eq_true qb
      subst ea; subst eb
      rw [show spMeet (al, ah) (bl, bh) = if min ah bh < max al bl then (0, 0, 4) else (max al bl, min ah bh, 0) from by unfold spMeet; rw [if_pos (spAll_eq qa qb)]]
      by_cases qn : min ah bh < max al bl
      · have en : vn = true := by rw [hvn]; exact decide_eq_true qn
        subst en; rw [if_pos qn]; rfl
      · have en : vn = false := by rw [hvn]; exact decide_eq_false qn
        subst en; rw [if_neg qn]; rfl
    · have eb : vb = false := by rw [hvb]; exact decide_eq_false qb
      subst eb
      rw [show spMeet (al, ah) (bl, bh) = (0, 0, 20) from by unfold spMeet; rw [if_neg (spAll_ne (.inr qb))]]
      cases va <;> cases vn <;> rfl
  · have ea : va = false := by rw [hva]; exact decide_eq_false qa
    subst ea
    rw [show spMeet (al, ah) (bl, bh) = (0, 0, 20) from by unfold spMeet; rw [if_neg (spAll_ne (.inl qa))]]
    cases vb <;> cases vn <;> rfl

/-! ### monocleref02.Has -/
def rHasL (va vl vu : Bool) : List Ent := [⟨65, [SV [0, 1]], .v (.one (.bool va))⟩]
def rHasF (va vl vu : Bool) : Facts := if va then { cmp := [(.leq, .sym 0, .sym 2, vl), (.leq, .sym 2, .sym 1, vu)], ar := [], mm := [] } else {}
theorem rHas_run (va vl vu : Bool) : runA Tryd.prog (tab Tryd.prog (rHasF va vl vu) [(23, 2)] (rHasL va vl vu) []) 4 50 [SV [0, 1], .v (.one (S1 2))] = some (.tup [.one (.bool (va && (vl && vu))), .one (.int .i64 (.lit (if va then 0 else 20)))]) := by
  cases va <;> cases vl <;> cases vu <;> kernel_rfl
theorem c_sHas (al ah v : Int) (w : World) :
    Calls Tryd.prog 50 #[.agg #[.int .i64 al, .int .i64 ah], .int .i64 v] w fun e w' => e = .returned (.tuple #[.bool (spHas (al, ah) v).1, .int .i64 (spHas (al, ah) v).2]) ∧ Below w.heap.size w w' := by
  obtain ⟨va, hva⟩ : ∃ b, b = decide (spChk (al, ah) = 0) := ⟨_, rfl⟩
  obtain ⟨vl, hvl⟩ : ∃ b, b = decide (al ≤ v) := ⟨_, rfl⟩
  obtain ⟨vu, hvu⟩ : ∃ b, b = decide (v ≤ ah) := ⟨_, rfl⟩
  obtain ⟨ρ, hρ⟩ : ∃ ρ, ρ = ρL [al, ah, v] := ⟨_, rfl⟩
  have hL : ∀ e ∈ rHasL va vl vu, EntOk Tryd.prog ρ e := by
    intro e he
    simp only [rHasL, List.mem_cons, List.not_mem_nil, or_false] at he
    rcases he with rfl
    · rw [hρ]; intro s w; have h := c_sRight al ah w; rw [← hva] at h; exact h
  have hF : FactsOk ρ (rHasF va vl vu) := by
    unfold rHasF
    split
    · rename_i hg
      rw [hva] at hg
      obtain ⟨a1, a2, a3⟩ := spChk_ok (of_decide_eq_true hg)
      simp only at a1 a2 a3
      refine ⟨?_, ?_, ?_, ?_⟩
      · intro e he
        simp only [List.mem_cons, List.not_mem_nil, or_false] at he
        rcases he with rfl | rfl
        · rw [hρ]; rw [hvl]; rfl
        · rw [hρ]; rw [hvu]; rfl
      · simp
      · simp
      · simp
    · exact ⟨by simp, by simp, by simp, by simp⟩
  have h := calls_run (rHas_run va vl vu) hF (by intro e he; simp only [List.mem_cons, List.not_mem_nil, or_false] at he; subst he; exact eqOk_span) hL (by simp) rfl w
  rw [hρ] at h
  refine (show Calls Tryd.prog 50 #[.agg #[.int .i64 al, .int .i64 ah], .int .i64 v] w _ from h).mono ?_
  rintro e w' ⟨⟨s, rfl⟩, hb⟩
  refine ⟨?_, hb⟩
  by_cases qa : spChk (al, ah) = 0
  · have ea : va = true := by rw [hva]; exact decide_eq_true qa
    subst ea
    rw [show spHas (al, ah) v = (decide (al ≤ v) && decide (v ≤ ah), 0) from by unfold spHas; rw [if_pos qa]]
    rw [← hvl, ← hvu]; rfl
  · have ea : va = false := by rw [hva]; exact decide_eq_false qa
    subst ea
    rw [show spHas (al, ah) v = (false, 20) from by unfold spHas; rw [if_neg qa]]
    rfl

/-! ### monocleref02.Width -/
def rWidthL (va : Bool) : List Ent := [⟨65, [SV [0, 1]], .v (.one (.bool va))⟩]
def rWidthF (va : Bool) : Facts := if va then { cmp := [], ar := [(.sub, .i64, .sym 1, .i64, .sym 0, .sym 2)], mm := [] } else {}
theorem rWidth_run (va : Bool) : runA Tryd.prog (tab Tryd.prog (rWidthF va) [(23, 2)] (rWidthL va) []) 4 54 [SV [0, 1]] = some (if va then .tup [.one (S1 2), .one (.int .i64 (.lit 0))] else .tup [.one (.int .i64 (.lit 0)), .one (.int .i64 (.lit 20))]) := by
  cases va <;> kernel_rfl
theorem c_sWidth (al ah : Int) (w : World) :
    Calls Tryd.prog 54 #[.agg #[.int .i64 al, .int .i64 ah]] w fun e w' => e = .returned (.tuple #[.int .i64 (spWidth (al, ah)).1, .int .i64 (spWidth (al, ah)).2]) ∧ Below w.heap.size w w' := by
  obtain ⟨va, hva⟩ : ∃ b, b = decide (spChk (al, ah) = 0) := ⟨_, rfl⟩
  obtain ⟨ρ, hρ⟩ : ∃ ρ, ρ = ρL [al, ah, (ah - al)] := ⟨_, rfl⟩
  have hL : ∀ e ∈ rWidthL va, EntOk Tryd.prog ρ e := by
    intro e he
    simp only [rWidthL, List.mem_cons, List.not_mem_nil, or_false] at he
    rcases he with rfl
    · rw [hρ]; intro s w; have h := c_sRight al ah w; rw [← hva] at h; exact h
  have hF : FactsOk ρ (rWidthF va) := by
    unfold rWidthF
    split
    · rename_i hg
      rw [hva] at hg
      obtain ⟨a1, a2, a3⟩ := spChk_ok (of_decide_eq_true hg)
      simp only at a1 a2 a3
      refine ⟨?_, ?_, ?_, ?_⟩
      · simp
      · intro e he
        simp only [List.mem_cons, List.not_mem_nil, or_false] at he
        rcases he with rfl
        · rw [hρ]; exact (ar_sub (wI (by omega) (by omega)) : ArOk .sub .i64 ah .i64 al (ah - al))
      · simp
      · simp
    · exact ⟨by simp, by simp, by simp, by simp⟩
  have h := calls_run (rWidth_run va) hF (by intro e he; simp only [List.mem_cons, List.not_mem_nil, or_false] at he; subst he; exact eqOk_span) hL (by simp) rfl w
  rw [hρ] at h
  refine (show Calls Tryd.prog 54 #[.agg #[.int .i64 al, .int .i64 ah]] w _ from h).mono ?_
  rintro e w' ⟨⟨s, rfl⟩, hb⟩
  refine ⟨?_, hb⟩
  by_cases qa : spChk (al, ah) = 0
  · have ea : va = true := by rw [hva]; exact decide_eq_true qa
    subst ea
    rw [show spWidth (al, ah) = (ah - al, 0) from by unfold spWidth; rw [if_pos qa]]
    rfl
  · have ea : va = false := by rw [hva]; exact decide_eq_false qa
    subst ea
    rw [show spWidth (al, ah) = (0, 20) from by unfold spWidth; rw [if_neg qa]]
    rfl

/-! ### monocleref02.Mid -/
def rMidL (va vn vo : Bool) : List Ent := [⟨65, [SV [0, 1]], .v (.one (.bool va))⟩]
def rMidF (va vn vo : Bool) : Facts := if va then { cmp := [(.lss, .sym 2, .lit 0, vn), (.neq, .sym 4, .lit 0, vo)], ar := [(.add, .i64, .sym 0, .i64, .sym 1, .sym 2), (.rem, .i64, .sym 2, .i64, .lit 2, .sym 4), (.sub, .i64, .sym 2, .i64, .lit 1, .sym 5), (.quo, .i64, if vn && vo then .sym 5 else .sym 2, .i64, .lit 2, .sym 3)], mm := [] } else {}
theorem rMid_run (va vn vo : Bool) : runA Tryd.prog (tab Tryd.prog (rMidF va vn vo) [(23, 2)] (rMidL va vn vo) []) 4 52 [SV [0, 1]] = some (if va then .tup [.one (S1 3), .one (.int .i64 (.lit 0))] else .tup [.one (.int .i64 (.lit 0)), .one (.int .i64 (.lit 20))]) := by
  cases va <;> cases vn <;> cases vo <;> kernel_rfl
theorem c_sMid (al ah : Int) (w : World) :
    Calls Tryd.prog 52 #[.agg #[.int .i64 al, .int .i64 ah]] w fun e w' => e = .returned (.tuple #[.int .i64 (spMid (al, ah)).1, .int .i64 (spMid (al, ah)).2]) ∧ Below w.heap.size w w' := by
  obtain ⟨va, hva⟩ : ∃ b, b = decide (spChk (al, ah) = 0) := ⟨_, rfl⟩
  obtain ⟨vn, hvn⟩ : ∃ b, b = decide (al + ah < 0) := ⟨_, rfl⟩
  obtain ⟨vo, hvo⟩ : ∃ b, b = decide ((al + ah).tmod 2 ≠ 0) := ⟨_, rfl⟩
  obtain ⟨ρ, hρ⟩ : ∃ ρ, ρ = ρL [al, ah, (al + ah), ((al + ah) / 2), ((al + ah).tmod 2), (al + ah - 1)] := ⟨_, rfl⟩
  have hL : ∀ e ∈ rMidL va vn vo, EntOk Tryd.prog ρ e := by
    intro e he
    simp only [rMidL, List.mem_cons, List.not_mem_nil, or_false] at he
    rcases he with rfl
    · rw [hρ]; intro s w; have h := c_sRight al ah w; rw [← hva] at h; exact h
  have hF : FactsOk ρ (rMidF va vn vo) := by
    unfold rMidF
    split
    · rename_i hg
      rw [hva] at hg
      obtain ⟨a1, a2, a3⟩ := spChk_ok (of_decide_eq_true hg)
      simp only at a1 a2 a3
      refine ⟨?_, ?_, ?_, ?_⟩
      · intro e he
        simp only [List.mem_cons, List.not_mem_nil, or_false] at he
        rcases he with rfl | rfl
        · rw [hρ]; rw [hvn]; rfl
        · rw [hρ]; rw [hvo]; exact congrArg some (bne_dec _)
      · intro e he
        simp only [List.mem_cons, List.not_mem_nil, or_false] at he
        rcases he with rfl | rfl | rfl | rfl
        · rw [hρ]; exact (ar_add (wI (by omega) (by omega)) : ArOk .add .i64 al .i64 ah (al + ah))
        · rw [hρ]; exact ar_rem2 _
        · rw [hρ]; exact (ar_sub (wI (by omega) (by omega)) : ArOk .sub .i64 (al + ah) .i64 1 (al + ah - 1))
        · rw [hρ]; exact mid_quo hvn hvo (by omega) (by omega)
      · simp
      · simp
    · exact ⟨by simp, by simp, by simp, by simp⟩
  have h := calls_run (rMid_run va vn vo) hF (by intro e he; simp only [List.mem_cons, List.not_mem_nil, or_false] at he; subst he; exact eqOk_span) hL (by simp) rfl w
  rw [hρ] at h
  refine (show Calls Tryd.prog 52 #[.agg #[.int .i64 al, .int .i64 ah]] w _ from h).mono ?_
  rintro e w' ⟨⟨s, rfl⟩, hb⟩
  refine ⟨?_, hb⟩
  by_cases qa : spChk (al, ah) = 0
  · have ea : va = true := by rw [hva]; exact decide_eq_true qa
    subst ea
    rw [show spMid (al, ah) = ((al + ah) / 2, 0) from by unfold spMid; rw [if_pos qa]]
    rfl
  · have ea : va = false := by rw [hva]; exact decide_eq_false qa
    subst ea
    rw [show spMid (al, ah) = (0, 20) from by unfold spMid; rw [if_neg qa]]
    rfl

/-! ### monocleref02.Sign -/
def rSignL (va vp vn vz vy : Bool) : List Ent := [⟨65, [SV [0, 1]], .v (.one (.bool va))⟩]
def rSignF (va vp vn vz vy : Bool) : Facts := if va then { cmp := [(.gtr, .sym 0, .lit 0, vp), (.lss, .sym 1, .lit 0, vn), (.eql, .sym 0, .lit 0, vz), (.eql, .sym 1, .lit 0, vy)], ar := [], mm := [] } else {}
theorem rSign_run (va vp vn vz vy : Bool) : runA Tryd.prog (tab Tryd.prog (rSignF va vp vn vz vy) [(23, 2)] (rSignL va vp vn vz vy) []) 4 56 [SV [0, 1]] = some (if va then (if vn then .tup [.one (.int .i64 (.lit (-1))), .one (.int .i64 (.lit 0))] else if vp then .tup [.one (.int .i64 (.lit (1))), .one (.int .i64 (.lit 0))] else if vz && vy then .tup [.one (.int .i64 (.lit (0))), .one (.int .i64 (.lit 0))] else .tup [.one (.int .i64 (.lit (2))), .one (.int .i64 (.lit 0))]) else .tup [.one (.int .i64 (.lit 0)), .one (.int .i64 (.lit 20))]) := by
  cases va <;> cases vp <;> cases vn <;> cases vz <;> cases vy <;> kernel_rfl
theorem c_sSign (al ah : Int) (w : World) :
    Calls Tryd.prog 56 #[.agg #[.int .i64 al, .int .i64 ah]] w fun e w' => e = .returned (.tuple #[.int .i64 (spSign (al, ah)).1, .int .i64 (spSign (al, ah)).2]) ∧ Below w.heap.size w w' := by
  obtain ⟨va, hva⟩ : ∃ b, b = decide (spChk (al, ah) = 0) := ⟨_, rfl⟩
  obtain ⟨vp, hvp⟩ : ∃ b, b = decide (al > 0) := ⟨_, rfl⟩
  obtain ⟨vn, hvn⟩ : ∃ b, b = decide (ah < 0) := ⟨_, rfl⟩
  obtain ⟨vz, hvz⟩ : ∃ b, b = decide (al = 0) := ⟨_, rfl⟩
  obtain ⟨vy, hvy⟩ : ∃ b, b = decide (ah = 0) := ⟨_, rfl⟩
  obtain ⟨ρ, hρ⟩ : ∃ ρ, ρ = ρL [al, ah] := ⟨_, rfl⟩
  have hL : ∀ e ∈ rSignL va vp vn vz vy, EntOk Tryd.prog ρ e := by
    intro e he
    simp only [rSignL, List.mem_cons, List.not_mem_nil, or_false] at he
    rcases he with rfl
    · rw [hρ]; intro s w; have h := c_sRight al ah w; rw [← hva] at h; exact h
  have hF : FactsOk ρ (rSignF va vp vn vz vy) := by
    unfold rSignF
    split
    · rename_i hg
      rw [hva] at hg
      obtain ⟨a1, a2, a3⟩ := spChk_ok (of_decide_eq_true hg)
      simp only at a1 a2 a3
      refine ⟨?_, ?_, ?_, ?_⟩
      · intro e he
        simp only [List.mem_cons, List.not_mem_nil, or_false] at he
        rcases he with rfl | rfl | rfl | rfl
        · rw [hρ]; rw [hvp]; rfl
        · rw [hρ]; rw [hvn]; rfl
        · rw [hρ]; rw [hvz]; exact congrArg some (beq_dec _)
        · rw [hρ]; rw [hvy]; exact congrArg some (beq_dec _)
      · simp
      · simp
      · simp
    · exact ⟨by simp, by simp, by simp, by simp⟩
  have h := calls_run (rSign_run va vp vn vz vy) hF (by intro e he; simp only [List.mem_cons, List.not_mem_nil, or_false] at he; subst he; exact eqOk_span) hL (by simp) rfl w
  rw [hρ] at h
  refine (show Calls Tryd.prog 56 #[.agg #[.int .i64 al, .int .i64 ah]] w _ from h).mono ?_
  rintro e w' ⟨⟨s, rfl⟩, hb⟩
  refine ⟨?_, hb⟩
  by_cases qa : spChk (al, ah) = 0
  · have ea : va = true := by rw [hva]; exact decide_eq_true qa
    subst ea
    rw [show spSign (al, ah) = (if 0 < al then (1, 0) else if ah < 0 then (-1, 0) else if al = 0 ∧ ah = 0 then (0, 0) else (2, 0)) from by unfold spSign; rw [if_pos qa]]
    obtain ⟨_, a2, _⟩ := spChk_ok qa
    simp only at a2
    rw [hvp, hvn, hvz, hvy]
    by_cases q1 : 0 < al
    · have e1 : decide (al > 0) = true := decide_eq_true q1
      have e2 : decide (ah < 0) = false := decide_eq_false (by omega)
      rw [if_pos q1, e1, e2]; rfl
    · have e1 : decide (al > 0) = false := decide_eq_false q1
      rw [if_neg q1, e1]
      by_cases q2 : ah < 0
      · have e2 : decide (ah < 0) = true := decide_eq_true q2
        rw [if_pos q2, e2]; rfl
      · have e2 : decide (ah < 0) = false := decide_eq_false q2
        rw [if_neg q2, e2]
        by_cases q3 : al = 0 ∧ ah = 0
        · rw [if_pos q3, decide_eq_true q3.1, decide_eq_true q3.2]; rfl
        · rw [if_neg q3]
          by_cases q4 : al = 0
          · rw [decide_eq_true q4, decide_eq_false (fun h => q3 ⟨q4, h⟩)]; rfl
          · rw [decide_eq_false q4]; rfl
  · have ea : va = false := by rw [hva]; exact decide_eq_false qa
    subst ea
    rw [show spSign (al, ah) = (0, 20) from by unfold spSign; rw [if_neg qa]]
    rfl

/-! ### monocleref02.Abs -/
def rAbsL (va vp vn : Bool) : List Ent := [⟨65, [SV [0, 1]], .v (.one (.bool va))⟩]
def rAbsF (va vp vn : Bool) : Facts := if va then { cmp := [(.geq, .sym 0, .lit 0, vp), (.leq, .sym 1, .lit 0, vn)], ar := [(.sub, .i64, .lit 0, .i64, .sym 0, .sym 2), (.sub, .i64, .lit 0, .i64, .sym 1, .sym 3)], mm := [(true, .sym 2, .sym 1, .sym 4)] } else {}
theorem rAbs_run (va vp vn : Bool) : runA Tryd.prog (tab Tryd.prog (rAbsF va vp vn) [(23, 2)] (rAbsL va vp vn) []) 4 37 [SV [0, 1]] = some (if va then (if vp then SE0 [0, 1] else if vn then SE0 [3, 2] else .tup [.agg [.int .i64 (.lit 0), S1 4], .one (.int .i64 (.lit 0))]) else RE [0, 0] 20) := by
  cases va <;> cases vp <;> cases vn <;> kernel_rfl
theorem c_sAbs (al ah : Int) (w : World) :
    Calls Tryd.prog 37 #[.agg #[.int .i64 al, .int .i64 ah]] w fun e w' => e = .returned (.tuple #[.agg #[.int .i64 (spAbs (al, ah)).1, .int .i64 (spAbs (al, ah)).2.1], .int .i64 (spAbs (al, ah)).2.2]) ∧ Below w.heap.size w w' := by
  obtain ⟨va, hva⟩ : ∃ b, b = decide (spChk (al, ah) = 0) := ⟨_, rfl⟩
  obtain ⟨vp, hvp⟩ : ∃ b, b = decide (al ≥ 0) := ⟨_, rfl⟩
  obtain ⟨vn, hvn⟩ : ∃ b, b = decide (ah ≤ 0) := ⟨_, rfl⟩
  obtain ⟨ρ, hρ⟩ : ∃ ρ, ρ = ρL [al, ah, (-al), (-ah), (max (-al) ah)] := ⟨_, rfl⟩
  have hL : ∀ e ∈ rAbsL va vp vn, EntOk Tryd.prog ρ e := by
    intro e he
    simp only [rAbsL, List.mem_cons, List.not_mem_nil, or_false] at he
    rcases he with rfl
    · rw [hρ]; intro s w; have h := c_sRight al ah w; rw [← hva] at h; exact h
  have hF : FactsOk ρ (rAbsF va vp vn) := by
    unfold rAbsF
    split
    · rename_i hg
      rw [hva] at hg
      obtain ⟨a1, a2, a3⟩ := spChk_ok (of_decide_eq_true hg)
      simp only at a1 a2 a3
      refine ⟨?_, ?_, ?_, ?_⟩
      · intro e he
        simp only [List.mem_cons, List.not_mem_nil, or_false] at he
        rcases he with rfl | rfl
        · rw [hρ]; rw [hvp]; rfl
        · rw [hρ]; rw [hvn]; rfl
      · intro e he
        simp only [List.mem_cons, List.not_mem_nil, or_false] at he
        rcases he with rfl | rfl
        · rw [hρ]; exact (ar_sub (wI0 (by omega) (by omega)) : ArOk .sub .i64 0 .i64 al (-al))
        · rw [hρ]; exact (ar_sub (wI0 (by omega) (by omega)) : ArOk .sub .i64 0 .i64 ah (-ah))
      · simp
      · intro e he
        simp only [List.mem_cons, List.not_mem_nil, or_false] at he
        rcases he with rfl
        · rw [hρ]; rfl
    · exact ⟨by simp, by simp, by simp, by simp⟩
  have h := calls_run (rAbs_run va vp vn) hF (by intro e he; simp only [List.mem_cons, List.not_mem_nil, or_false] at he; subst he; exact eqOk_span) hL (by simp) rfl w
  rw [hρ] at h
  refine (show Calls Tryd.prog 37 #[.agg #[.int .i64 al, .int .i64 ah]] w _ from h).mono ?_
  rintro e w' ⟨⟨s, rfl⟩, hb⟩
  refine ⟨?_, hb⟩
  by_cases qa : spChk (al, ah) = 0
  · have ea : va = true := by rw [hva]; exact decide_eq_true qa
    subst ea
    rw [spAbs_is qa]
    obtain ⟨_, a2, _⟩ := spChk_ok qa
    simp only at a2
    by_cases q1 : al ≥ 0
    · have e1 : vp = true := by rw [hvp]; exact decide_eq_true q1
      subst e1
      rw [show max (max al (-ah)) 0 = al by omega, show max ah (-al) = ah by omega]
      cases vn <;> rfl
    · have e1 : vp = false := by rw [hvp]; exact decide_eq_false q1
      subst e1
      by_cases q2 : ah ≤ 0
      · have e2 : vn = true := by rw [hvn]; exact decide_eq_true q2
        subst e2
        rw [show max (max al (-ah)) 0 = -ah by omega, show max ah (-al) = -al by omega]
        rfl
      · have e2 : vn = false := by rw [hvn]; exact decide_eq_false q2
        subst e2
        rw [show max (max al (-ah)) 0 = 0 by omega, show max ah (-al) = max (-al) ah by omega]
        rfl
  · have ea : va = false := by rw [hva]; exact decide_eq_false qa
    subst ea
    rw [show spAbs (al, ah) = (0, 0, 20) from by unfold spAbs; rw [if_neg qa]]
    cases vp <;> cases vn <;> rfl

end Go.Proofs.YtpdaigenffecmaaDoor
