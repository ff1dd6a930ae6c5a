/-
  Plain: quotients, powers and roots of intervals: what they contain; within others.
-/
import Derived.Test.YtpdaigenffecmaaDoorM20
import Derived.Test.YtpdaigenffecmaaDoorM28
set_option linter.all false
namespace Go.Proofs.YtpdaigenffecmaaDoor

/-! ### Quotients -/
def dvn (x y : Int) : Int := if y < 0 then -(x * UU) else x * UU
def dvd (_ y : Int) : Int := (y.natAbs : Int)
theorem fxDiv_rnd {a b : Int × Int} (ha : spChk a = 0) (hb : spChk b = 0) (hz : ¬ (b.1 ≤ 0 ∧ 0 ≤ b.2)) : ∀ x y up, (x = a.1 ∨ x = a.2) → (y = b.1 ∨ y = b.2) → fxDiv x y up = fit (rnd (dvn x y) (dvd x y) up) := by
  intro x y up hx hy
  obtain ⟨h1, h2, h3⟩ := spChk_ok ha
  obtain ⟨k1, k2, k3⟩ := spChk_ok hb
  unfold fxDiv
  rw [if_pos, if_neg (by omega)]
  · rfl
  · unfold fxAll
    rw [if_pos (fxChk_mk (by omega) (by omega))]
    exact fxChk_mk (by omega) (by omega)
theorem spDiv_four {a b : Int × Int} (ha : spChk a = 0) (hb : spChk b = 0) (h : (spDiv a b).2.2 = 0) : ¬ (b.1 ≤ 0 ∧ 0 ≤ b.2) ∧ spDiv a b = spFour fxDiv a b := by
  unfold spDiv spAll at *
  rw [if_pos ha, if_pos hb] at *
  split at h
  · simp at h
  · rename_i hz; exact ⟨hz, if_neg hz⟩
/-- The quotient contains the quotients. -/
theorem spDiv_pos {a b : Int × Int} {x y : Int} (ha : spChk a = 0) (hb : spChk b = 0) (h : (spDiv a b).2.2 = 0) (hp : 0 < b.1) (h1 : a.1 ≤ x) (h2 : x ≤ a.2) (k1 : b.1 ≤ y) (k2 : y ≤ b.2) :
    (spDiv a b).1 * y ≤ x * UU ∧ x * UU ≤ (spDiv a b).2.1 * y := by
  obtain ⟨hz, e⟩ := spDiv_four ha hb h
  rw [e] at h ⊢
  obtain ⟨k3, k4, k5⟩ := spChk_ok hb
  obtain ⟨_, _, hc⟩ := four_ok (n := dvn) (d := dvd) (fxDiv_rnd ha hb hz) h
  have lo : ∀ p q, (p = a.1 ∨ p = a.2) → (q = b.1 ∨ q = b.2) → (spFour fxDiv a b).1 * q ≤ p * UU := by
    intro p q hp' hq
    have hq0 : 0 < q := by omega
    have e1 : dvn p q = p * UU := by unfold dvn; rw [if_neg (by omega)]
    have e2 : dvd p q = q := by unfold dvd; omega
    have h1 := (hc p q hp' hq).1
    rw [e1, e2] at h1
    exact Int.le_trans (Int.mul_le_mul_of_nonneg_right h1 (by omega)) (rnd_lo (p * UU) q hq0)
  have up : ∀ p q, (p = a.1 ∨ p = a.2) → (q = b.1 ∨ q = b.2) → p * UU ≤ (spFour fxDiv a b).2.1 * q := by
    intro p q hp' hq
    have hq0 : 0 < q := by omega
    have e1 : dvn p q = p * UU := by unfold dvn; rw [if_neg (by omega)]
    have e2 : dvd p q = q := by unfold dvd; omega
    have h1 := (hc p q hp' hq).2
    rw [e1, e2] at h1
    exact Int.le_trans (rnd_hi (p * UU) q hq0) (Int.mul_le_mul_of_nonneg_right h1 (by omega))
  have m1 := lin_ge k1 k2 (lo a.1 b.1 (.inl rfl) (.inl rfl)) (lo a.1 b.2 (.inl rfl) (.inr rfl))
  have m2 := lin_le k1 k2 (up a.2 b.1 (.inr rfl) (.inl rfl)) (up a.2 b.2 (.inr rfl) (.inr rfl))
  exact ⟨Int.le_trans m1 (Int.mul_le_mul_of_nonneg_right h1 (by decide)), Int.le_trans (Int.mul_le_mul_of_nonneg_right h2 (by decide)) m2⟩
theorem spDiv_neg {a b : Int × Int} {x y : Int} (ha : spChk a = 0) (hb : spChk b = 0) (h : (spDiv a b).2.2 = 0) (hp : b.2 < 0) (h1 : a.1 ≤ x) (h2 : x ≤ a.2) (k1 : b.1 ≤ y) (k2 : y ≤ b.2) :
    (spDiv a b).1 * (-y) ≤ -(x * UU) ∧ -(x * UU) ≤ (spDiv a b).2.1 * (-y) := by
  obtain ⟨hz, e⟩ := spDiv_four ha hb h
  rw [e] at h ⊢
  obtain ⟨k3, k4, k5⟩ := spChk_ok hb
  obtain ⟨_, _, hc⟩ := four_ok (n := dvn) (d := dvd) (fxDiv_rnd ha hb hz) h
  have lo : ∀ p q, (p = a.1 ∨ p = a.2) → (q = b.1 ∨ q = b.2) → (spFour fxDiv a b).1 * (-q) ≤ -(p * UU) := by
    intro p q hp' hq
    have hq0 : 0 < -q := by omega
    have e1 : dvn p q = -(p * UU) := by unfold dvn; rw [if_pos (by omega)]
    have e2 : dvd p q = -q := by unfold dvd; omega
    have h1 := (hc p q hp' hq).1
    rw [e1, e2] at h1
    exact Int.le_trans (Int.mul_le_mul_of_nonneg_right h1 (by omega)) (rnd_lo _ _ hq0)
  have up : ∀ p q, (p = a.1 ∨ p = a.2) → (q = b.1 ∨ q = b.2) → -(p * UU) ≤ (spFour fxDiv a b).2.1 * (-q) := by
    intro p q hp' hq
    have hq0 : 0 < -q := by omega
    have e1 : dvn p q = -(p * UU) := by unfold dvn; rw [if_pos (by omega)]
    have e2 : dvd p q = -q := by unfold dvd; omega
    have h1 := (hc p q hp' hq).2
    rw [e1, e2] at h1
    exact Int.le_trans (rnd_hi _ _ hq0) (Int.mul_le_mul_of_nonneg_right h1 (by omega))
  have m1 := lin_ge (show -b.2 ≤ -y by omega) (show -y ≤ -b.1 by omega) (lo a.2 b.2 (.inr rfl) (.inr rfl)) (lo a.2 b.1 (.inr rfl) (.inl rfl))
  have m2 := lin_le (show -b.2 ≤ -y by omega) (show -y ≤ -b.1 by omega) (up a.1 b.2 (.inl rfl) (.inr rfl)) (up a.1 b.1 (.inl rfl) (.inl rfl))
  have g1 := Int.mul_le_mul_of_nonneg_right h1 (show (0 : Int) ≤ UU by decide)
  have g2 := Int.mul_le_mul_of_nonneg_right h2 (show (0 : Int) ≤ UU by decide)
  exact ⟨Int.le_trans m1 (by omega), Int.le_trans (by omega) m2⟩
theorem spDiv_narrow {a b c d : Int × Int} (ha : spChk a = 0) (hb : spChk b = 0) (hc : spChk c = 0) (hd : spChk d = 0) (hca : Wi c a) (hdb : Wi d b) (h : (spDiv a b).2.2 = 0) :
    (spDiv c d).2.2 = 0 ∧ (spDiv a b).1 ≤ (spDiv c d).1 ∧ (spDiv c d).2.1 ≤ (spDiv a b).2.1 := by
  obtain ⟨hz, e'⟩ := spDiv_four ha hb h
  obtain ⟨c1, c2, c3⟩ := spChk_ok hc
  obtain ⟨d1, d2, d3⟩ := spChk_ok hd
  obtain ⟨b1, b2, b3⟩ := spChk_ok hb
  obtain ⟨w1, w2⟩ := hca
  obtain ⟨w3, w4⟩ := hdb
  have hz' : ¬ (d.1 ≤ 0 ∧ 0 ≤ d.2) := by omega
  have e : spDiv c d = spFour fxDiv c d := by unfold spDiv spAll; rw [if_pos hc, if_pos hd, if_neg hz']
  have h' := h
  rw [e'] at h'
  obtain ⟨hu, hl, _⟩ := four_ok (n := dvn) (d := dvd) (fxDiv_rnd ha hb hz) h'
  have key := four_mk (f := fxDiv) (a := c) (b := d) (n := dvn) (d := dvd) (fxDiv_rnd hc hd hz') (fun x y _ hy => by unfold dvd; omega) hl hu (fun x y hx hy => by
    rcases Int.lt_or_le 0 b.1 with hp | hp
    · have := spDiv_pos (x := x) (y := y) ha hb h hp (by omega) (by omega) (by omega) (by omega)
      rw [e'] at this
      have e1 : dvn x y = x * UU := by unfold dvn; rw [if_neg (by omega)]
      have e2 : dvd x y = y := by unfold dvd; omega
      rw [e1, e2]
      exact ⟨le_rnd_lo (by omega) this.1, rnd_hi_le (by omega) this.2⟩
    · have := spDiv_neg (x := x) (y := y) ha hb h (by omega) (by omega) (by omega) (by omega) (by omega)
      rw [e'] at this
      have e1 : dvn x y = -(x * UU) := by unfold dvn; rw [if_pos (by omega)]
      have e2 : dvd x y = -y := by unfold dvd; omega
      rw [e1, e2]
      exact ⟨le_rnd_lo (by omega) this.1, rnd_hi_le (by omega) this.2⟩)
  rw [e, e']
  exact ⟨key.1, key.2.1, key.2.2.1⟩

/-! ### Powers -/
theorem abs_narrow {a c : Int × Int} (ha : spChk a = 0) (hc : spChk c = 0) (h : Wi c a) : 0 ≤ abLo a ∧ abLo a ≤ abLo c ∧ abLo c ≤ abHi c ∧ abHi c ≤ abHi a ∧ abHi a ≤ 4503599627370496 := by
  obtain ⟨a1, a2, a3⟩ := spChk_ok ha
  obtain ⟨c1, c2, c3⟩ := spChk_ok hc
  obtain ⟨w1, w2⟩ := h
  unfold abLo abHi; omega
theorem pwS_nonneg (v : Int) (m : Nat) (h : 0 ≤ v) : pwS v (m + 1) = if 4503599627370496 < rpw v.natAbs m false then (0, 0, 6) else ((rpw v.natAbs m false : Int), (rpw v.natAbs m true : Int), 0) := by
  rw [pwS_rpw]
  have : ¬ (v < 0 ∧ (m + 1) % 2 = 1) := by omega
  simp only [if_neg this]
theorem spPowOf_told {p q : Int × Int × Int} (h : (spPowOf p q).2.2 = 0) : p.2.2 = 0 ∧ q.2.2 = 0 ∧ spPowOf p q = (p.1, q.2.1, 0) ∧ -4503599627370496 ≤ p.1 ∧ q.2.1 ≤ 4503599627370496 := by
  by_cases hb : p.2.2 ≠ 0 ∨ q.2.2 ≠ 0
  · rw [spPowOf_bad p q hb] at h; simp at h
  · have h1 : p.2.2 = 0 := Decidable.by_contra fun e => hb (.inl e)
    have h2 : q.2.2 = 0 := Decidable.by_contra fun e => hb (.inr e)
    rw [spPowOf_ok p q h1 h2] at h ⊢
    obtain ⟨e, l, u⟩ := told_ok h
    exact ⟨h1, h2, e, l, u⟩
theorem powE_narrow {L H L' H' : Int} (m : Nat) (h0 : 0 ≤ L) (h1 : L ≤ L') (h2 : L' ≤ H') (h3 : H' ≤ H) (h : (spPowOf (pwS L (m + 1)) (pwS H (m + 1))).2.2 = 0) :
    (spPowOf (pwS L' (m + 1)) (pwS H' (m + 1))).2.2 = 0 ∧ (spPowOf (pwS L (m + 1)) (pwS H (m + 1))).1 ≤ (spPowOf (pwS L' (m + 1)) (pwS H' (m + 1))).1 ∧
      (spPowOf (pwS L' (m + 1)) (pwS H' (m + 1))).2.1 ≤ (spPowOf (pwS L (m + 1)) (pwS H (m + 1))).2.1 := by
  obtain ⟨e1, e2, e3, l, u⟩ := spPowOf_told h
  rw [e3]
  have f1 := rpw_mono m false (show L.natAbs ≤ L'.natAbs by omega)
  have f2 := rpw_mono m false (show L'.natAbs ≤ H'.natAbs by omega)
  have f3 := rpw_mono m false (show H'.natAbs ≤ H.natAbs by omega)
  have f4 := rpw_mono m true (show H'.natAbs ≤ H.natAbs by omega)
  rw [pwS_nonneg L m h0] at e1 l ⊢
  rw [pwS_nonneg H m (by omega)] at e2 u ⊢
  rw [pwS_nonneg L' m (by omega), pwS_nonneg H' m (by omega)]
  split at e1
  · simp at e1
  split at e2
  · simp at e2
  rename_i n1 n2
  rw [if_neg n1, if_neg n2] at *
  rw [if_neg (show ¬ 4503599627370496 < rpw L'.natAbs m false by omega), if_neg (show ¬ 4503599627370496 < rpw H'.natAbs m false by omega)]
  simp only at u
  rw [spPowOf_ok _ _ rfl rfl, told_mk (by simp only; omega) (by simp only; omega)]
  exact ⟨rfl, by simp only; omega, by simp only; omega⟩
/-- The ends of an odd power grow. -/
theorem odd_mono {v u : Int} (m : Nat) (ho : (m + 1) % 2 = 1) (h : v ≤ u) (hv : (pwS v (m + 1)).2.2 = 0) (hu : (pwS u (m + 1)).2.2 = 0) :
    (pwS v (m + 1)).1 ≤ (pwS u (m + 1)).1 ∧ (pwS v (m + 1)).2.1 ≤ (pwS u (m + 1)).2.1 := by
  rw [pwS_rpw] at hv hu ⊢
  rw [pwS_rpw]
  split at hv
  · simp at hv
  split at hu
  · split at hv <;> simp at hu
  rename_i n1 n2
  rw [if_neg n1, if_neg n2]
  by_cases e1 : v < 0 <;> by_cases e2 : u < 0
  · have f1 := rpw_mono m false (show u.natAbs ≤ v.natAbs by omega)
    have f2 := rpw_mono m true (show u.natAbs ≤ v.natAbs by omega)
    rw [if_pos ⟨e1, ho⟩, if_pos ⟨e2, ho⟩]
    exact ⟨by simp only; omega, by simp only; omega⟩
  · rw [if_pos ⟨e1, ho⟩, if_neg (by omega)]
    exact ⟨by simp only; omega, by simp only; omega⟩
  · omega
  · have f1 := rpw_mono m false (show v.natAbs ≤ u.natAbs by omega)
    have f2 := rpw_mono m true (show v.natAbs ≤ u.natAbs by omega)
    rw [if_neg (by omega), if_neg (by omega)]
    exact ⟨by simp only; omega, by simp only; omega⟩
theorem pwS_fitsI (v : Int) (m : Nat) : (pwS v (m + 1)).2.2 = 0 ↔ rpw v.natAbs m false ≤ 4503599627370496 := by
  rw [pwS_rpw]
  split
  · simp; omega
  · split <;> simp <;> omega
theorem powO_narrow {L H L' H' : Int} (m : Nat) (ho : (m + 1) % 2 = 1) (h1 : L ≤ L') (h2 : L' ≤ H') (h3 : H' ≤ H) (h : (spPowOf (pwS L (m + 1)) (pwS H (m + 1))).2.2 = 0) :
    (spPowOf (pwS L' (m + 1)) (pwS H' (m + 1))).2.2 = 0 ∧ (spPowOf (pwS L (m + 1)) (pwS H (m + 1))).1 ≤ (spPowOf (pwS L' (m + 1)) (pwS H' (m + 1))).1 ∧
      (spPowOf (pwS L' (m + 1)) (pwS H' (m + 1))).2.1 ≤ (spPowOf (pwS L (m + 1)) (pwS H (m + 1))).2.1 := by
  obtain ⟨e1, e2, e3, l, u⟩ := spPowOf_told h
  have g1 := (pwS_fitsI L m).1 e1
  have g2 := (pwS_fitsI H m).1 e2
  have fit' : ∀ v, L ≤ v → v ≤ H → (pwS v (m + 1)).2.2 = 0 := by
    intro v hv1 hv2
    rw [pwS_fitsI]
    rcases Int.le_total 0 v with s | s
    · have := rpw_mono m false (show v.natAbs ≤ H.natAbs by omega); omega
    · have := rpw_mono m false (show v.natAbs ≤ L.natAbs by omega); omega
  have k1 := fit' L' h1 (by omega)
  have k2 := fit' H' (by omega) h3
  have m1 := (odd_mono m ho h1 e1 k1).1
  have m2 := (odd_mono m ho h3 k2 e2).2
  rw [e3, spPowOf_ok _ _ k1 k2, told_mk (by omega) (by omega)]
  exact ⟨rfl, m1, m2⟩
theorem spPow_narrow {a c : Int × Int} (n : Int) (ha : spChk a = 0) (hc : spChk c = 0) (hca : Wi c a) (h : (spPow a n).2.2 = 0) :
    (spPow c n).2.2 = 0 ∧ (spPow a n).1 ≤ (spPow c n).1 ∧ (spPow c n).2.1 ≤ (spPow a n).2.1 := by
  by_cases hn : n < 0 ∨ 16 < n
  · rw [spPow_arg a n ha hn] at h; simp at h
  by_cases h0 : n = 0
  · subst h0; rw [spPow_zero a ha, spPow_zero c hc]; exact ⟨rfl, Int.le_refl _, Int.le_refl _⟩
  obtain ⟨m, rfl⟩ : ∃ m : Nat, n = ((m + 1 : Nat) : Int) := ⟨n.toNat - 1, by omega⟩
  obtain ⟨c1, c2, c3⟩ := spChk_ok hc
  rcases Nat.mod_two_eq_zero_or_one (m + 1) with ho | ho
  · rw [spPow_even a (m + 1) ha (by omega) (by omega) ho] at h ⊢
    rw [spPow_even c (m + 1) hc (by omega) (by omega) ho]
    obtain ⟨k0, k1, k2, k3, _⟩ := abs_narrow ha hc hca
    exact powE_narrow m k0 k1 k2 k3 h
  · rw [spPow_odd a (m + 1) ha (by omega) ho] at h ⊢
    rw [spPow_odd c (m + 1) hc (by omega) ho]
    exact powO_narrow m ho hca.1 c2 hca.2 h
/-- The square: its ends and those of the absolute value. -/
theorem spSqr_ends {a : Int × Int} (ha : spChk a = 0) (h : (spPow a 2).2.2 = 0) :
    (spPow a 2).1 * UU ≤ abLo a * abLo a ∧ abHi a * abHi a ≤ (spPow a 2).2.1 * UU ∧ 0 ≤ (spPow a 2).1 := by
  have e : spPow a 2 = spPowOf (pwS (abLo a) 2) (pwS (abHi a) 2) := spPow_even a 2 ha (by decide) (by decide) (by decide)
  obtain ⟨k0, k1, k2, k3, k4⟩ := abs_narrow ha ha ⟨Int.le_refl _, Int.le_refl _⟩
  rw [e] at h ⊢
  obtain ⟨e1, e2, e3, l, u⟩ := spPowOf_told h
  rw [e3]
  have hH : 0 ≤ abHi a := by omega
  generalize abLo a = L at *
  generalize abHi a = H at *
  have q : ∀ v : Int, 0 ≤ v → (pwS v 2).2.2 = 0 → (pwS v 2).1 * UU ≤ v * v ∧ v * v ≤ (pwS v 2).2.1 * UU ∧ 0 ≤ (pwS v 2).1 := by
    intro v hv h0
    unfold pwS at *
    simp only [Nat.add_one_sub_one, Nat.pow_one] at *
    have hvv : ((v.natAbs ^ 2 : Nat) : Int) = v * v := by
      rw [Nat.pow_two, Int.natCast_mul]
      have : (v.natAbs : Int) = v := by omega
      rw [this]
    rw [← hvv]
    generalize v.natAbs ^ 2 = P at *
    have hd := Nat.div_add_mod P 4294967296
    have hm := Nat.mod_lt P (show 0 < 4294967296 by decide)
    rw [if_neg (show ¬ (v < 0 ∧ 2 % 2 = 1) by omega)] at *
    split at h0
    · simp at h0
    · rename_i hc
      rw [if_neg hc]
      simp only [UU]
      generalize P / 4294967296 = Q at *
      generalize P % 4294967296 = R at *
      split <;> omega
  exact ⟨(q L k0 e1).1, (q H hH e2).2.1, (q L k0 e1).2.2⟩

/-! ### Roots -/
theorem rtN_mono {n k : Nat} (up : Bool) (h : n ≤ k) : rtN n up ≤ rtN k up := by
  have hm := isq_mono h
  unfold rtN
  cases up
  · simp; exact hm
  · simp only [true_and]
    by_cases h1 : isq n * isq n ≠ n
    · rw [if_pos h1]
      by_cases h2 : isq k * isq k ≠ k
      · rw [if_pos h2]; omega
      · rw [if_neg h2]
        have h2 : isq k * isq k = k := Decidable.by_contra h2
        rcases Nat.lt_or_ge (isq n) (isq k) with h3 | h3
        · omega
        · exfalso
          have h4 : isq n = isq k := by omega
          have := (isq_spec n).1
          rw [h4, h2] at this
          have e : n = k := by omega
          rw [h4] at h1
          rw [h2] at h1
          exact h1 e.symm
    · rw [if_neg h1]; split <;> omega
theorem rt_mono {a b : Int} (up : Bool) (h : a ≤ b) : rt a up ≤ rt b up := by
  unfold rt
  have := rtN_mono up (Nat.mul_le_mul_right 4294967296 (Int.toNat_le_toNat h))
  omega
theorem rtN_sq (n : Nat) : rtN n false * rtN n false ≤ n ∧ n ≤ rtN n true * rtN n true := by
  obtain ⟨h1, h2⟩ := isq_spec n
  unfold rtN
  refine ⟨by simpa using h1, ?_⟩
  by_cases hc : isq n * isq n ≠ n
  · rw [if_pos ⟨rfl, hc⟩]; omega
  · rw [if_neg (fun h => hc h.2)]
    have := Decidable.by_contra hc
    simp only [Nat.add_zero]; omega
theorem rt_nat {a : Int} (h : 0 ≤ a) : ∃ n : Nat, (n : Int) = a * UU ∧ ∀ up, rt a up = (rtN n up : Int) := by
  refine ⟨a.toNat * 4294967296, ?_, fun up => rfl⟩
  rw [Int.natCast_mul, show (a.toNat : Int) = a by omega]
  rfl
theorem rt_lo {a : Int} (h : 0 ≤ a) : rt a false * rt a false ≤ a * UU ∧ 0 ≤ rt a false := by
  obtain ⟨n, hn, hr⟩ := rt_nat h
  rw [hr, ← hn]
  have := (rtN_sq n).1
  exact ⟨by rw [← Int.natCast_mul]; exact Int.ofNat_le.2 this, by omega⟩
theorem rt_hi {a : Int} (h : 0 ≤ a) : a * UU ≤ rt a true * rt a true ∧ 0 ≤ rt a true := by
  obtain ⟨n, hn, hr⟩ := rt_nat h
  rw [hr, ← hn]
  have := (rtN_sq n).2
  exact ⟨by rw [← Int.natCast_mul]; exact Int.ofNat_le.2 this, by omega⟩
theorem rt_small {a : Int} (up : Bool) (h : a ≤ 4503599627370496) : rt a up ≤ 4398046511104 := by
  unfold rt
  have := rtN_small a.toNat up (by omega)
  omega
theorem spSqrt_eq {a : Int × Int} (ha : spChk a = 0) (h0 : 0 ≤ a.1) : spSqrt a = (rt a.1 false, rt a.2 true, 0) := by
  obtain ⟨a1, a2, a3⟩ := spChk_ok ha
  unfold spSqrt
  have := rt_small true a3
  have := (rt_lo h0).2
  rw [if_pos ha, if_neg (by omega), told_mk (by omega) (by omega)]
theorem spSqrt_narrow {a c : Int × Int} (ha : spChk a = 0) (hc : spChk c = 0) (hca : Wi c a) (h : (spSqrt a).2.2 = 0) :
    (spSqrt c).2.2 = 0 ∧ (spSqrt a).1 ≤ (spSqrt c).1 ∧ (spSqrt c).2.1 ≤ (spSqrt a).2.1 := by
  have h0 : 0 ≤ a.1 := by
    unfold spSqrt at h
    rw [if_pos ha] at h
    split at h
    · simp at h
    · omega
  obtain ⟨w1, w2⟩ := hca
  rw [spSqrt_eq ha h0, spSqrt_eq hc (by omega)]
  exact ⟨rfl, rt_mono false w1, rt_mono true w2⟩

end Go.Proofs.YtpdaigenffecmaaDoor
