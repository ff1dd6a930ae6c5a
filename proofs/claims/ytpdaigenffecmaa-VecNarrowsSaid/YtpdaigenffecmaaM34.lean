/-
  Plain: orders of arguments, negatives, the one, squares within products. Plain: places of an interval; lesser, greater, hull and absolute value within others.
-/
import Derived.Test.YtpdaigenffecmaaM29
import Derived.Test.YtpdaigenffecmaaM31
set_option linter.all false
namespace Go.Proofs.Ytpdaigenffecmaa

theorem rAll_comm (a b : Int × Int) : spAll a b = spAll b a := by
  unfold spAll
  rcases spChk_or a with h | h <;> rcases spChk_or b with k | k <;> simp [h, k]
theorem rAdd_comm (a b : Int × Int) : spAdd a b = spAdd b a := by
  unfold spAdd; rw [rAll_comm, Int.add_comm a.1, Int.add_comm a.2]
theorem rChk_or (a : Int) : fxChk a = 0 ∨ fxChk a = 2 := by unfold fxChk; split <;> simp
theorem rfAll_comm (a b : Int) : fxAll a b = fxAll b a := by
  unfold fxAll
  rcases rChk_or a with h | h <;> rcases rChk_or b with k | k <;> simp [h, k]
theorem rfMul_comm (a b : Int) (up : Bool) : fxMul a b up = fxMul b a up := by
  unfold fxMul; rw [rfAll_comm, Int.mul_comm]
theorem rMul_comm (a b : Int × Int) : spMul a b = spMul b a := by
  unfold spMul; rw [rAll_comm]
  unfold spFour
  rw [rfMul_comm b.1 a.1, rfMul_comm b.1 a.1, rfMul_comm b.1 a.2, rfMul_comm b.1 a.2, rfMul_comm b.2 a.1, rfMul_comm b.2 a.1, rfMul_comm b.2 a.2, rfMul_comm b.2 a.2]
  generalize fxMul a.1 b.1 false = p1
  generalize fxMul a.1 b.1 true = p2
  generalize fxMul a.1 b.2 false = p3
  generalize fxMul a.1 b.2 true = p4
  generalize fxMul a.2 b.1 false = p5
  generalize fxMul a.2 b.1 true = p6
  generalize fxMul a.2 b.2 false = p7
  generalize fxMul a.2 b.2 true = p8
  have e1 : (min (min (min p1.1 p5.1) p3.1) p7.1) = (min (min (min p1.1 p3.1) p5.1) p7.1) := by omega
  have e2 : (max (max (max p2.1 p6.1) p4.1) p8.1) = (max (max (max p2.1 p4.1) p6.1) p8.1) := by omega
  rw [e1, e2]
  by_cases h : p1.2 ≠ 0 ∨ p2.2 ≠ 0 ∨ p3.2 ≠ 0 ∨ p4.2 ≠ 0 ∨ p5.2 ≠ 0 ∨ p6.2 ≠ 0 ∨ p7.2 ≠ 0 ∨ p8.2 ≠ 0
  · rw [if_pos h, if_pos (show p1.2 ≠ 0 ∨ p2.2 ≠ 0 ∨ p5.2 ≠ 0 ∨ p6.2 ≠ 0 ∨ p3.2 ≠ 0 ∨ p4.2 ≠ 0 ∨ p7.2 ≠ 0 ∨ p8.2 ≠ 0 by omega)]
  · rw [if_neg h, if_neg (show ¬ (p1.2 ≠ 0 ∨ p2.2 ≠ 0 ∨ p5.2 ≠ 0 ∨ p6.2 ≠ 0 ∨ p3.2 ≠ 0 ∨ p4.2 ≠ 0 ∨ p7.2 ≠ 0 ∨ p8.2 ≠ 0) by omega)]
theorem rMin_comm (a b : Int × Int) : spMin a b = spMin b a := by
  unfold spMin; rw [rAll_comm, Int.min_comm a.1, Int.min_comm a.2]
theorem rMax_comm (a b : Int × Int) : spMax a b = spMax b a := by
  unfold spMax; rw [rAll_comm, Int.max_comm a.1, Int.max_comm a.2]
theorem rHull_comm (a b : Int × Int) : spHull a b = spHull b a := by
  unfold spHull; rw [rAll_comm, Int.min_comm a.1, Int.max_comm a.2]
theorem rMeet_comm (a b : Int × Int) : spMeet a b = spMeet b a := by
  unfold spMeet; rw [rAll_comm, Int.max_comm a.1, Int.min_comm a.2]
theorem rNeg {a : Int × Int} (h : spChk a = 0) : spNeg a = (-a.2, -a.1, 0) := by
  obtain ⟨h1, h2, h3⟩ := spChk_ok h
  unfold spNeg; rw [if_pos h, told_mk (by omega) (by omega)]
theorem rNeg_ok {a : Int × Int} (h : spChk a = 0) : spChk (-a.2, -a.1) = 0 := by
  obtain ⟨h1, h2, h3⟩ := spChk_ok h
  exact spChk_mk (by simp only; omega) (by simp only; omega) (by simp only; omega)
theorem rNeg2 {a : Int × Int} (h : spChk a = 0) : spNeg (-a.2, -a.1) = (a.1, a.2, 0) := by
  rw [rNeg (rNeg_ok h)]; simp
theorem rAdd_neg {a b : Int × Int} (ha : spChk a = 0) (hb : spChk b = 0) : spAdd a (-b.2, -b.1) = spSub a b := by
  rw [spAdd_eq ha (rNeg_ok hb), spSub_eq ha hb]; congr 1
theorem rInv {a b : Int × Int} (h : spChk a ≠ 0 ∨ spChk b ≠ 0) : spMul a b = (0, 0, 20) := by
  unfold spMul; rw [if_neg (spAll_ne h)]
theorem rnd_one (x d : Int) (up : Bool) (hd : d ≠ 0) : rnd (x * d) d up = x := by
  unfold rnd
  cases up
  · simp [Int.mul_ediv_cancel _ hd]
  · rw [← Int.neg_mul]; simp [Int.mul_ediv_cancel _ hd]
theorem spChk_one (U : Int) (hU : U = 4294967296) : spChk (U, U) = 0 := spChk_mk (by simp only; omega) (by simp only; omega) (by simp only; omega)
theorem four_one {f : Int → Int → Bool → Int × Int} {a : Int × Int} {U : Int} (ha : spChk a = 0) (hf : ∀ x up, (x = a.1 ∨ x = a.2) → f x U up = (x, 0)) : spFour f a (U, U) = (a.1, a.2, 0) := by
  obtain ⟨h1, h2, h3⟩ := spChk_ok ha
  unfold spFour
  simp only
  rw [hf a.1 false (.inl rfl), hf a.1 true (.inl rfl), hf a.2 false (.inr rfl), hf a.2 true (.inr rfl)]
  simp only
  rw [if_neg (by simp), show min (min (min a.1 a.1) a.2) a.2 = a.1 by omega, show max (max (max a.1 a.1) a.2) a.2 = a.2 by omega, told_mk h1 h3]
theorem rMul_one {a : Int × Int} {U : Int} (hU : U = 4294967296) (ha : spChk a = 0) : spMul a (U, U) = (a.1, a.2, 0) := by
  obtain ⟨h1, h2, h3⟩ := spChk_ok ha
  unfold spMul
  rw [if_pos (spAll_eq ha (spChk_one U hU))]
  refine four_one ha fun x up hx => ?_
  rw [fxMul_rnd ha (spChk_one U hU) x U up hx (.inl rfl), show UU = U from hU.symm, rnd_one x U up (by omega), fit_mk (by omega) (by omega)]
theorem rDiv_one {a : Int × Int} {U : Int} (hU : U = 4294967296) (ha : spChk a = 0) : spDiv a (U, U) = (a.1, a.2, 0) := by
  obtain ⟨h1, h2, h3⟩ := spChk_ok ha
  unfold spDiv
  rw [if_pos (spAll_eq ha (spChk_one U hU)), if_neg (by simp only; omega)]
  refine four_one ha fun x up hx => ?_
  rw [fxDiv_rnd ha (spChk_one U hU) (by simp only; omega) x U up hx (.inl rfl)]
  have e1 : dvn x U = x * U := by unfold dvn; rw [if_neg (by omega), show UU = U from hU.symm]
  have e2 : dvd x U = U := by unfold dvd; omega
  rw [e1, e2, rnd_one x U up (by omega), fit_mk (by omega) (by omega)]

theorem sq_rnd {v : Int} (hv : 0 ≤ v) (h : rnd (v * v) UU false ≤ 4503599627370496) : pwS v 2 = (rnd (v * v) UU false, rnd (v * v) UU true, 0) := by
  unfold pwS
  simp only [Nat.add_one_sub_one, Nat.pow_one]
  have hvv : ((v.natAbs ^ 2 : Nat) : Int) = v * v := by
    rw [Nat.pow_two, Int.natCast_mul]
    have : (v.natAbs : Int) = v := by omega
    rw [this]
  rw [← hvv] at h ⊢
  generalize v.natAbs ^ 2 = P at *
  unfold rnd at *
  simp only [UU, Bool.false_eq_true, if_false, if_true] at *
  rw [if_neg (by omega), if_neg (by omega)]
  congr 1
  congr 1
  split <;> omega
theorem rnd_mono {n k d : Int} (hd : 0 < d) (h : n ≤ k) : rnd n d false ≤ rnd k d false := le_rnd_lo hd (Int.le_trans (rnd_lo n d hd) h)
theorem UU_pos : 0 < UU := by decide
theorem rSqr_mul {a : Int × Int} (ha : spChk a = 0) (h : (spMul a a).2.2 = 0) :
    (spPow a 2).2.2 = 0 ∧ (spMul a a).1 ≤ (spPow a 2).1 ∧ (spPow a 2).2.1 ≤ (spMul a a).2.1 := by
  have e : spMul a a = spFour fxMul a a := by unfold spMul; rw [if_pos (spAll_eq ha ha)]
  rw [e] at h ⊢
  obtain ⟨hu, hl, hc⟩ := four_ok (n := fun x y => x * y) (d := fun _ _ => UU) (fxMul_rnd ha ha) h
  have e2 : spPow a 2 = spPowOf (pwS (abLo a) 2) (pwS (abHi a) 2) := spPow_even a 2 ha (by decide) (by decide) (by decide)
  obtain ⟨k0, k1, k2, k3, k4⟩ := abs_narrow ha ha ⟨Int.le_refl _, Int.le_refl _⟩
  obtain ⟨h1, h2, h3⟩ := spChk_ok ha
  have c11 := hc a.1 a.1 (.inl rfl) (.inl rfl)
  have c22 := hc a.2 a.2 (.inr rfl) (.inr rfl)
  have c12 := hc a.1 a.2 (.inl rfl) (.inr rfl)
  have hH : rnd (abHi a * abHi a) UU true ≤ (spFour fxMul a a).2.1 := by
    rcases (show abHi a = a.2 ∨ abHi a = -a.1 by unfold abHi; omega) with q | q
    · rw [q]; exact c22.2
    · rw [q, Int.neg_mul_neg]; exact c11.2
  have hL : (spFour fxMul a a).1 ≤ rnd (abLo a * abLo a) UU false := by
    rcases (show abLo a = a.1 ∨ abLo a = -a.2 ∨ (abLo a = 0 ∧ a.1 ≤ 0 ∧ 0 ≤ a.2) by unfold abLo; omega) with q | q | ⟨q, q1, q2⟩
    · rw [q]; exact c11.1
    · rw [q, Int.neg_mul_neg]; exact c22.1
    · rw [q]
      refine Int.le_trans c12.1 (rnd_mono UU_pos ?_)
      have := Int.mul_nonneg (show 0 ≤ -a.1 by omega) q2
      rw [Int.neg_mul] at this
      omega
  have hm : rnd (abLo a * abLo a) UU false ≤ rnd (abHi a * abHi a) UU false := rnd_mono UU_pos (Int.mul_le_mul k2 k2 k0 (by omega))
  have hr := rnd_le_rnd (abHi a * abHi a) UU UU_pos
  have h0 : 0 ≤ rnd (abLo a * abLo a) UU false := le_rnd_lo UU_pos (by simpa using Int.mul_nonneg k0 k0)
  rw [e2, sq_rnd k0 (by omega), sq_rnd (by omega) (by omega), spPowOf_ok _ _ rfl rfl]
  simp only
  rw [told_mk (by omega) (by omega)]
  exact ⟨rfl, hL, hH⟩
end Go.Proofs.Ytpdaigenffecmaa

namespace Go.Proofs.Ytpdaigenffecmaa

/-- The place n of an interval. -/
def atI (lo hi n : Int) : Int := lo + n.tmod (hi - lo + 1)
theorem atI_in {a : Int × Int} {n : Int} (ha : spChk a = 0) (hn : 0 ≤ n) : a.1 ≤ atI a.1 a.2 n ∧ atI a.1 a.2 n ≤ a.2 := by
  obtain ⟨h1, h2, h3⟩ := spChk_ok ha
  unfold atI
  rw [Int.tmod_eq_emod_of_nonneg hn]
  have e1 := Int.emod_nonneg n (show a.2 - a.1 + 1 ≠ 0 by omega)
  have e2 := Int.emod_lt_of_pos n (show 0 < a.2 - a.1 + 1 by omega)
  omega
theorem two_in {a : Int × Int} {x u : Int} (ha : spChk a = 0) (hx : a.1 ≤ x ∧ x ≤ a.2) (hu : a.1 ≤ u ∧ u ≤ a.2) : spChk (min x u, max x u) = 0 ∧ Wi (min x u, max x u) a := by
  obtain ⟨h1, h2, h3⟩ := spChk_ok ha
  exact ⟨spChk_mk (by simp only; omega) (by simp only; omega) (by simp only; omega), by simp only; omega, by simp only; omega⟩
theorem spMin_narrow {a b c d : Int × Int} (ha : spChk a = 0) (hb : spChk b = 0) (hc : spChk c = 0) (hd : spChk d = 0) (hca : Wi c a) (hdb : Wi d b) (h : (spMin a b).2.2 = 0) :
    (spMin c d).2.2 = 0 ∧ (spMin a b).1 ≤ (spMin c d).1 ∧ (spMin c d).2.1 ≤ (spMin a b).2.1 := by
  unfold spMin; rw [if_pos (spAll_eq ha hb), if_pos (spAll_eq hc hd)]
  obtain ⟨p1, p2⟩ := hca; obtain ⟨q1, q2⟩ := hdb
  exact ⟨rfl, by simp only; omega, by simp only; omega⟩
theorem spMax_narrow {a b c d : Int × Int} (ha : spChk a = 0) (hb : spChk b = 0) (hc : spChk c = 0) (hd : spChk d = 0) (hca : Wi c a) (hdb : Wi d b) (h : (spMax a b).2.2 = 0) :
    (spMax c d).2.2 = 0 ∧ (spMax a b).1 ≤ (spMax c d).1 ∧ (spMax c d).2.1 ≤ (spMax a b).2.1 := by
  unfold spMax; rw [if_pos (spAll_eq ha hb), if_pos (spAll_eq hc hd)]
  obtain ⟨p1, p2⟩ := hca; obtain ⟨q1, q2⟩ := hdb
  exact ⟨rfl, by simp only; omega, by simp only; omega⟩
theorem spHull_narrow {a b c d : Int × Int} (ha : spChk a = 0) (hb : spChk b = 0) (hc : spChk c = 0) (hd : spChk d = 0) (hca : Wi c a) (hdb : Wi d b) (h : (spHull a b).2.2 = 0) :
    (spHull c d).2.2 = 0 ∧ (spHull a b).1 ≤ (spHull c d).1 ∧ (spHull c d).2.1 ≤ (spHull a b).2.1 := by
  unfold spHull; rw [if_pos (spAll_eq ha hb), if_pos (spAll_eq hc hd)]
  obtain ⟨p1, p2⟩ := hca; obtain ⟨q1, q2⟩ := hdb
  exact ⟨rfl, by simp only; omega, by simp only; omega⟩
theorem spAbs_narrow {a c : Int × Int} (ha : spChk a = 0) (hc : spChk c = 0) (hca : Wi c a) (h : (spAbs a).2.2 = 0) :
    (spAbs c).2.2 = 0 ∧ (spAbs a).1 ≤ (spAbs c).1 ∧ (spAbs c).2.1 ≤ (spAbs a).2.1 := by
  rw [spAbs_is ha, spAbs_is hc]
  obtain ⟨p1, p2⟩ := hca
  exact ⟨rfl, by simp only; omega, by simp only; omega⟩
end Go.Proofs.Ytpdaigenffecmaa
