/-
  Plain: the reference's powers of intervals are the program's.
-/
import Derived.Test.YtpdaigenffecmaaDoorM21
set_option linter.all false
namespace Go.Proofs.YtpdaigenffecmaaDoor

/-- A power, rounded, as the reference reckons it: m + 1 factors. -/
def rpw (v m : Nat) (up : Bool) : Nat := v ^ (m + 1) / W16 ^ (2 * m) + if up = true ∧ v ^ (m + 1) % W16 ^ (2 * m) ≠ 0 then 1 else 0

theorem rpw_zero (m : Nat) (up : Bool) : rpw 0 m up = 0 := by
  unfold rpw; rw [Nat.zero_pow (by omega)]; simp

theorem rpw_le (v m : Nat) : rpw v m false ≤ rpw v m true ∧ rpw v m true ≤ rpw v m false + 1 := by
  unfold rpw; simp only [Bool.false_eq_true, false_and, if_false, true_and]; split <;> omega

theorem ceil_eq (P D : Nat) (hD : 0 < D) : P / D + (if P % D ≠ 0 then 1 else 0) = (P + (D - 1)) / D := by
  have h := Nat.div_add_mod P D
  have h2 := Nat.mod_lt P hD
  generalize P / D = q at *
  generalize P % D = r at *
  split
  · symm
    refine (Nat.div_eq_of_lt_le ?_ ?_)
    · rw [Nat.add_mul, Nat.mul_comm q D]; omega
    · rw [Nat.add_mul, Nat.add_mul, Nat.mul_comm q D]; omega
  · symm
    refine (Nat.div_eq_of_lt_le ?_ ?_)
    · rw [Nat.add_zero, Nat.mul_comm q D]; omega
    · rw [Nat.add_zero, Nat.add_mul, Nat.mul_comm q D]; omega

theorem rpw_mono {v u : Nat} (m : Nat) (up : Bool) (h : v ≤ u) : rpw v m up ≤ rpw u m up := by
  have hp : v ^ (m + 1) ≤ u ^ (m + 1) := Nat.pow_le_pow_left h _
  have hD : 0 < W16 ^ (2 * m) := Nat.pow_pos (by decide)
  cases up
  · unfold rpw; simp only [Bool.false_eq_true, false_and, if_false]
    exact Nat.div_le_div_right hp
  · unfold rpw; simp only [true_and]
    rw [ceil_eq _ _ hD, ceil_eq _ _ hD]
    exact Nat.div_le_div_right (by omega)

theorem D_eq (m : Nat) : 4294967296 ^ m = W16 ^ (2 * m) := by
  rw [show (4294967296 : Nat) = W16 ^ 2 by decide, ← Nat.pow_mul]

theorem pwS_rpw (v : Int) (m : Nat) : pwS v (m + 1) =
    if 4503599627370496 < rpw v.natAbs m false then (0, 0, 6) else
    if v < 0 ∧ (m + 1) % 2 = 1 then (-(rpw v.natAbs m true : Int), -(rpw v.natAbs m false : Int), 0) else ((rpw v.natAbs m false : Int), (rpw v.natAbs m true : Int), 0) := by
  unfold pwS rpw
  simp only [Nat.add_sub_cancel, D_eq, Bool.false_eq_true, false_and, if_false, true_and, Nat.add_zero]
  by_cases h : v.natAbs ^ (m + 1) % W16 ^ (2 * m) = 0
  · simp [h]
  · simp [h]

/-- The reference's power of a number, rounded; whether it fits. -/
def rzDir (v : Int) (m : Nat) (up : Bool) : Bool := if v < 0 ∧ (m + 1) % 2 = 1 then !up else up
def rz (v : Int) (m : Nat) (up : Bool) : Int := if v < 0 ∧ (m + 1) % 2 = 1 then -(rpw v.natAbs m (!up) : Int) else (rpw v.natAbs m up : Int)
def rzf (v : Int) (m : Nat) (up : Bool) : Bool := decide (rpw v.natAbs m (rzDir v m up) ≤ 4503599627370496)

/-- The lower end as the reference takes it. -/
def rzLo (a b : Int) (m : Nat) : Int := if (m + 1) % 2 = 0 ∧ a < 0 ∧ 0 < b then 0 else min (rz a m false) (rz b m false)

theorem all_fit {a b : Int} {m : Nat} : (rzf a m false && rzf b m false && rzf a m true && rzf b m true) = true ↔ rpw a.natAbs m true ≤ 4503599627370496 ∧ rpw b.natAbs m true ≤ 4503599627370496 := by
  have ha := rpw_le a.natAbs m
  have hb := rpw_le b.natAbs m
  unfold rzf rzDir
  simp only [Bool.and_eq_true, decide_eq_true_eq]
  by_cases h1 : a < 0 ∧ (m + 1) % 2 = 1 <;> by_cases h2 : b < 0 ∧ (m + 1) % 2 = 1
  · simp only [if_pos h1, if_pos h2, Bool.not_false, Bool.not_true]; omega
  · simp only [if_pos h1, if_neg h2, Bool.not_false, Bool.not_true]; omega
  · simp only [if_neg h1, if_pos h2, Bool.not_false, Bool.not_true]; omega
  · simp only [if_neg h1, if_neg h2]; omega

theorem spPow_ref_ok (al ah : Int) (m : Nat) (h : spChk (al, ah) = 0) (hm : m ≤ 15) (hf : (rzf al m false && rzf ah m false && rzf al m true && rzf ah m true) = true) :
    spPow (al, ah) ((m : Int) + 1) = spRes (rzLo al ah m) (max (rz al m true) (rz ah m true)) true := by
  obtain ⟨f1, f2⟩ := all_fit.1 hf
  obtain ⟨h1, h2, h3⟩ := spChk_ok h
  simp only at h1 h2 h3
  have ha := rpw_le al.natAbs m
  have hb := rpw_le ah.natAbs m
  by_cases ho : (m + 1) % 2 = 1
  · rw [show ((m : Int) + 1) = ((m + 1 : Nat) : Int) by simp, spPow_odd _ _ h (by omega) ho]
    rw [pwS_rpw, pwS_rpw]
    simp only
    rw [if_neg (show ¬ 4503599627370496 < rpw al.natAbs m false by omega), if_neg (show ¬ 4503599627370496 < rpw ah.natAbs m false by omega)]
    unfold rzLo rz
    rw [if_neg (show ¬ ((m + 1) % 2 = 0 ∧ al < 0 ∧ 0 < ah) by omega)]
    by_cases e1 : al < 0 <;> by_cases e2 : ah < 0
    · have hm1 := rpw_mono m true (show ah.natAbs ≤ al.natAbs by omega)
      have hm2 := rpw_mono m false (show ah.natAbs ≤ al.natAbs by omega)
      simp only [if_pos (show al < 0 ∧ (m + 1) % 2 = 1 from ⟨e1, ho⟩), if_pos (show ah < 0 ∧ (m + 1) % 2 = 1 from ⟨e2, ho⟩), Bool.not_false, Bool.not_true]
      rw [Int.min_eq_left (by omega), Int.max_eq_right (by omega), spRes_told _ _ (by omega), spPowOf_ok _ _ rfl rfl]
    · have n2 : ¬ (ah < 0 ∧ (m + 1) % 2 = 1) := by omega
      simp only [if_pos (show al < 0 ∧ (m + 1) % 2 = 1 from ⟨e1, ho⟩), if_neg n2, Bool.not_false, Bool.not_true]
      rw [Int.min_eq_left (by omega), Int.max_eq_right (by omega), spRes_told _ _ (by omega), spPowOf_ok _ _ rfl rfl]
    · omega
    · have hm1 := rpw_mono m true (show al.natAbs ≤ ah.natAbs by omega)
      have hm2 := rpw_mono m false (show al.natAbs ≤ ah.natAbs by omega)
      have n1 : ¬ (al < 0 ∧ (m + 1) % 2 = 1) := by omega
      have n2 : ¬ (ah < 0 ∧ (m + 1) % 2 = 1) := by omega
      simp only [if_neg n1, if_neg n2]
      rw [Int.min_eq_left (by omega), Int.max_eq_right (by omega), spRes_told _ _ (by omega), spPowOf_ok _ _ rfl rfl]
  · have ho2 : (m + 1) % 2 = 0 := by omega
    rw [show ((m : Int) + 1) = ((m + 1 : Nat) : Int) by simp, spPow_even _ _ h (by omega) (by omega) ho2]
    have eL : 0 ≤ abLo (al, ah) := by unfold abLo; simp only; omega
    have eH : 0 ≤ abHi (al, ah) := by unfold abHi; simp only; omega
    have eHa : (abHi (al, ah)).natAbs = max al.natAbs ah.natAbs := by unfold abHi; simp only; omega
    have uH : rpw (abHi (al, ah)).natAbs m true = max (rpw al.natAbs m true) (rpw ah.natAbs m true) := by
      rw [eHa]
      rcases Nat.le_total al.natAbs ah.natAbs with e | e
      · have := rpw_mono m true e; rw [Nat.max_eq_right e]; omega
      · have := rpw_mono m true e; rw [Nat.max_eq_left e]; omega
    have hbb := rpw_le (abHi (al, ah)).natAbs m
    have hLH : (abLo (al, ah)).natAbs ≤ (abHi (al, ah)).natAbs := by unfold abLo abHi; simp only; omega
    have mm := rpw_mono m false hLH
    have eLo : rzLo al ah m = (rpw (abLo (al, ah)).natAbs m false : Int) := by
      unfold rzLo rz
      simp only [ho, and_false, if_false, ho2, true_and]
      split
      · have : abLo (al, ah) = 0 := by unfold abLo; simp only; omega
        rw [this]; simp [rpw_zero]
      · rename_i hs
        rcases Nat.le_total al.natAbs ah.natAbs with e | e
        · have h4 := rpw_mono m false e
          have : (abLo (al, ah)).natAbs = al.natAbs := by unfold abLo; simp only; omega
          rw [this]; omega
        · have h4 := rpw_mono m false e
          have : (abLo (al, ah)).natAbs = ah.natAbs := by unfold abLo; simp only; omega
          rw [this]; omega
    have eHi : max (rz al m true) (rz ah m true) = (rpw (abHi (al, ah)).natAbs m true : Int) := by
      unfold rz; simp only [ho, and_false, if_false]; omega
    rw [eLo, eHi, spRes_told _ _ (by omega), pwS_rpw, pwS_rpw, if_neg (by omega), if_neg (by omega), if_neg (by omega), if_neg (by omega), spPowOf_ok _ _ rfl rfl]

theorem spPow_ref_bad (al ah : Int) (m : Nat) (h : spChk (al, ah) = 0) (hm : m ≤ 15) (hf : (rzf al m false && rzf ah m false && rzf al m true && rzf ah m true) = false) :
    spPow (al, ah) ((m : Int) + 1) = (0, 0, 6) := by
  have hf' : ¬ (rpw al.natAbs m true ≤ 4503599627370496 ∧ rpw ah.natAbs m true ≤ 4503599627370496) := fun h2 => by
    rw [all_fit.2 h2] at hf; cases hf
  obtain ⟨h1, h2, h3⟩ := spChk_ok h
  simp only at h1 h2 h3
  have ha := rpw_le al.natAbs m
  have hb := rpw_le ah.natAbs m
  have told_big : ∀ lo hi : Int, lo < -4503599627370496 ∨ 4503599627370496 < hi → spTold lo hi = (0, 0, 6) := fun lo hi hh => by unfold spTold; rw [if_pos hh]
  by_cases ho : (m + 1) % 2 = 1
  · rw [show ((m : Int) + 1) = ((m + 1 : Nat) : Int) by simp, spPow_odd _ _ h (by omega) ho]
    rw [pwS_rpw, pwS_rpw]
    simp only [ho, and_true]
    by_cases g1 : 4503599627370496 < rpw al.natAbs m false
    · rw [if_pos g1]; exact spPowOf_bad _ _ (.inl (by decide))
    · by_cases g2 : 4503599627370496 < rpw ah.natAbs m false
      · rw [if_pos g2]; exact spPowOf_bad _ _ (.inr (by decide))
      · rw [if_neg g1, if_neg g2]
        by_cases e1 : al < 0 <;> by_cases e2 : ah < 0
        · have hm1 := rpw_mono m true (show ah.natAbs ≤ al.natAbs by omega)
          rw [if_pos e1, if_pos e2, spPowOf_ok _ _ rfl rfl]; exact told_big _ _ (by simp only; omega)
        · rw [if_pos e1, if_neg e2, spPowOf_ok _ _ rfl rfl]; exact told_big _ _ (by simp only; omega)
        · omega
        · have hm1 := rpw_mono m true (show al.natAbs ≤ ah.natAbs by omega)
          rw [if_neg e1, if_neg e2, spPowOf_ok _ _ rfl rfl]; exact told_big _ _ (by simp only; omega)
  · have ho2 : (m + 1) % 2 = 0 := by omega
    rw [show ((m : Int) + 1) = ((m + 1 : Nat) : Int) by simp, spPow_even _ _ h (by omega) (by omega) ho2]
    have eL : 0 ≤ abLo (al, ah) := by unfold abLo; simp only; omega
    have eH : 0 ≤ abHi (al, ah) := by unfold abHi; simp only; omega
    have g : 4503599627370496 < rpw (abHi (al, ah)).natAbs m true := by
      have e1 := rpw_mono m true (show al.natAbs ≤ (abHi (al, ah)).natAbs by unfold abHi; simp only; omega)
      have e2 := rpw_mono m true (show ah.natAbs ≤ (abHi (al, ah)).natAbs by unfold abHi; simp only; omega)
      omega
    rw [pwS_rpw, pwS_rpw]
    by_cases g1 : 4503599627370496 < rpw (abLo (al, ah)).natAbs m false
    · rw [if_pos g1]; exact spPowOf_bad _ _ (.inl (by decide))
    · by_cases g2 : 4503599627370496 < rpw (abHi (al, ah)).natAbs m false
      · rw [if_pos g2]; exact spPowOf_bad _ _ (.inr (by decide))
      · rw [if_neg g1, if_neg g2, if_neg (by omega), if_neg (by omega), spPowOf_ok _ _ rfl rfl]
        exact told_big _ _ (by simp only; omega)

end Go.Proofs.YtpdaigenffecmaaDoor
