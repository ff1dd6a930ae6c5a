/-
  The walks of the reference's fixed-point numbers, the third part: Div, Sqrt.
-/
import Derived.Test.YtpdaigenffecmaaDoorM13
import Derived.Test.YtpdaigenffecmaaDoorM23
set_option linter.all false
namespace Go.Proofs.YtpdaigenffecmaaDoor
open Go.RowKit

theorem c_over' (a n d : Nat) (I : Int) (w : World) (hI : I = (a : Int)) (ha : a < 18446744073709551616) (hn : n ≤ 9223372036854775808) (hd : 0 < d) (hd2 : d ≤ 4611686018427387904) (o : Nat × Bool × Bool) (ho : o = ovS a n d) :
    Calls Tryd.prog 108 #[.int .u64 I, .int .u64 (n : Int), .int .u64 (d : Int)] w fun e w' => e = .returned (.tuple #[.int .u64 (o.1 : Int), .bool o.2.1, .bool o.2.2]) ∧ ∃ m, w' = w.drewN m := by
  subst hI; subst ho; exact (c_over a n d w ha hn hd hd2).mono fun e w' h => ⟨h.2, h.1⟩

theorem ovS_le (a n d : Nat) : (ovS a n d).1 ≤ 4503599627370496 := by
  unfold ovS; split
  · simp
  · simp only; omega

/-- What is known of the root when i pairs of bits are still to come. -/
def RtAt (S : Nat) (root rest i : Nat) : Prop := root = isq (S / 4 ^ i) ∧ rest + root * root = S / 4 ^ i

theorem RtAt.start (S : Nat) (h : S < 4 ^ 43) : RtAt S 0 0 43 := by
  unfold RtAt; rw [Nat.div_eq_of_lt h]; exact ⟨rfl, rfl⟩

theorem RtAt.rest_le {S root rest i : Nat} (h : RtAt S root rest i) : rest ≤ 2 * root := by
  obtain ⟨h1, h2⟩ := h
  obtain ⟨g1, g2⟩ := isq_spec (S / 4 ^ i)
  rw [← h1] at g1 g2
  have e : (root + 1) * (root + 1) = root * root + 2 * root + 1 := by simp only [Nat.add_mul, Nat.mul_add]; omega
  omega

theorem RtAt.root_lt {S root rest i : Nat} (h : RtAt S root rest i) (hS : S < 8796093022208 * 8796093022208) : root < 8796093022208 := by
  obtain ⟨h1, h2⟩ := h
  rcases Nat.lt_or_ge root 8796093022208 with g | g
  · exact g
  · exfalso
    have := Nat.mul_le_mul g g
    have h3 : S / 4 ^ i ≤ S := Nat.div_le_self _ _
    omega

theorem four_bit (S i : Nat) : S / 4 ^ i = 4 * (S / 4 ^ (i + 1)) + S / 4 ^ i % 4 := by
  rw [Nat.pow_succ, ← Nat.div_div_eq_div_mul]; omega

theorem RtAt.yes {S root rest i two : Nat} (h : RtAt S root rest (i + 1)) (ht : two = S / 4 ^ i % 4) (hc : 4 * root + 1 ≤ 4 * rest + two) : RtAt S (2 * root + 1) (4 * rest + two - (4 * root + 1)) i := by
  have hr := h.rest_le
  obtain ⟨h1, h2⟩ := h
  have e := four_bit S i
  have ht2 : two < 4 := by rw [ht]; omega
  have s1 : (2 * root + 1) * (2 * root + 1) = 4 * (root * root) + 4 * root + 1 := by simp only [Nat.add_mul, Nat.mul_add]; have : 2 * root * (2 * root) = 4 * (root * root) := by ac_rfl
                                                                                     omega
  have s2 : (2 * root + 1 + 1) * (2 * root + 1 + 1) = 4 * (root * root) + 8 * root + 4 := by simp only [Nat.add_mul, Nat.mul_add]; have : 2 * root * (2 * root) = 4 * (root * root) := by ac_rfl
                                                                                             omega
  rw [← h2, ← ht] at e
  refine ⟨(isq_unique _ _ ?_ ?_).symm, ?_⟩
  · rw [s1, e]; omega
  · rw [s2, e]; omega
  · rw [s1, e]; omega

theorem RtAt.no {S root rest i two : Nat} (h : RtAt S root rest (i + 1)) (ht : two = S / 4 ^ i % 4) (hc : 4 * rest + two < 4 * root + 1) : RtAt S (2 * root) (4 * rest + two) i := by
  obtain ⟨h1, h2⟩ := h
  have e := four_bit S i
  have s0 : 2 * root * (2 * root) = 4 * (root * root) := by ac_rfl
  have s1 : (2 * root + 1) * (2 * root + 1) = 4 * (root * root) + 4 * root + 1 := by simp only [Nat.add_mul, Nat.mul_add]; omega
  rw [← h2, ← ht] at e
  refine ⟨(isq_unique _ _ ?_ ?_).symm, ?_⟩
  · rw [s0, e]; omega
  · rw [s1, e]; omega
  · rw [s0, e]; omega

/-- The next two bits of a times 2^32. -/
theorem two_high (a i : Nat) (h : 16 ≤ i) : a * 4294967296 / 4 ^ i % 4 = a / 2 ^ (2 * i - 32) % 4 := by
  have e : 4 ^ i = 4294967296 * 2 ^ (2 * i - 32) := by
    rw [show (4 : Nat) = 2 ^ 2 by decide, ← Nat.pow_mul, show (4294967296 : Nat) = 2 ^ 32 by decide, ← Nat.pow_add]; congr 1; omega
  rw [e, ← Nat.div_div_eq_div_mul, Nat.mul_div_cancel _ (by decide)]
theorem two_low (a i : Nat) (h : i < 16) : a * 4294967296 / 4 ^ i % 4 = 0 := by
  have e : 4294967296 = 4 * 4 ^ (15 - i) * 4 ^ i := by
    rw [Nat.mul_assoc, ← Nat.pow_add, show 15 - i + i = 15 by omega]
  rw [e, ← Nat.mul_assoc, Nat.mul_div_cancel _ (Nat.pow_pos (by decide)), Nat.mul_left_comm]
  exact Nat.mul_mod_right _ _

theorem RtAt.done {S root rest : Nat} (up : Bool) (h : RtAt S root rest 0) : rtN S up = if up = true ∧ 0 < rest then root + 1 else root := by
  obtain ⟨h1, h2⟩ := h
  rw [Nat.pow_zero, Nat.div_one] at h1 h2
  unfold rtN
  rw [← h1]
  have e : (root * root ≠ S) ↔ 0 < rest := by omega
  simp only [e]
  split <;> rfl

end Go.Proofs.YtpdaigenffecmaaDoor
