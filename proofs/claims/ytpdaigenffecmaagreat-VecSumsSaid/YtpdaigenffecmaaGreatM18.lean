/-
  The walks of the reference's fixed-point numbers, the third part: Div, Sqrt.
-/
import Derived.Test.YtpdaigenffecmaaGreatM06
import Derived.Test.YtpdaigenffecmaaGreatM17
set_option linter.all false
namespace Go.Proofs.YtpdaigenffecmaaGreat
open Go.RowKit

theorem c_over' (a n d : Nat) (I : Int) (w : World) (hI : I = (a : Int)) (ha : a < 18446744073709551616) (hn : n ≤ 9223372036854775808) (hd : 0 < d) (hd2 : d ≤ 4611686018427387904) (o : Nat × Bool × Bool) (ho : o = ovS a n d) :
    Calls Tryz.prog 163 #[.int .u64 I, .int .u64 (n : Int), .int .u64 (d : Int)] w fun e w' => e = .returned (.tuple #[.int .u64 (o.1 : Int), .bool o.2.1, .bool o.2.2]) ∧ ∃ m, w' = w.drewN m := by
  subst hI; subst ho; exact (c_over a n d w ha hn hd hd2).mono fun e w' h => ⟨h.2, h.1⟩

theorem ovS_le (a n d : Nat) : (ovS a n d).1 ≤ 4503599627370496 := by
  unfold ovS; split
  · simp
  · simp only; omega

set_option maxHeartbeats 1000000 in
theorem c_rDiv (a b : Int) (up : Bool) (w : World) (ha : fxChk a = 0) (hb : fxChk b = 0) (h0 : b ≠ 0) :
    Calls Tryz.prog 133 #[.int .i64 a, .int .i64 b, .bool up] w fun e w' => e = .returned (.tuple #[.int .i64 (rDiv a b up).1, .bool (rDiv a b up).2]) ∧ ∃ m, w' = w.drewN m := by
  obtain ⟨a0, a1⟩ := fxChk_ok ha
  obtain ⟨b0, b1⟩ := fxChk_ok hb
  clear ha hb
  obtain ⟨x, hx⟩ : ∃ x, x = a.natAbs := ⟨_, rfl⟩
  obtain ⟨y, hy⟩ : ∃ y, y = b.natAbs := ⟨_, rfl⟩
  obtain ⟨A, hA⟩ : ∃ A, A = 4294967296 := ⟨_, rfl⟩
  obtain ⟨o, ho⟩ : ∃ o, o = ovS A x y := ⟨_, rfl⟩
  have hoq : o.1 ≤ 4503599627370496 := by rw [ho]; exact ovS_le _ _ _
  have eR : rDiv a b up = ovPut (!(decide (a < 0) == decide (b < 0))) up o := by rw [ho, hx, hy]; exact rDiv_ov a b up A hA
  have xb : x ≤ 4503599627370496 := by omega
  have yb : y ≤ 4503599627370496 := by omega
  have yp : 0 < y := by omega
  have hAI : (4294967296 : Int) = (A : Int) := by rw [hA]; rfl
  have hAb : A < 18446744073709551616 := by rw [hA]; decide
  have HAI := Lib.hid hAI; clear hAI
  have HX := Lib.hid hx; clear hx
  have HY := Lib.hid hy; clear hy
  have HO := Lib.hid ho; clear ho
  clear hA h0
  obtain ⟨q, r, ft⟩ := o
  simp only at hoq
  cases ft
  · have E : Hid (rDiv a b up = (0, false)) := by unfold Hid; rw [eR]; rfl
    clear eR
    go_enter Tryz.func133, Tryz.ntmps133
    go_wp2_with (first | (go_at_call 160; refine (c_rsize _ _ (by omega) (by omega)).mono ?_; (first | rw [← HX.out] | rw [← HY.out]); rintro e w1 ⟨rfl, rfl⟩) | (go_at_call 163; refine (c_over' A x y _ _ HAI.out hAb (by omega) yp (by omega) _ HO.out).mono ?_; rintro e w2 ⟨rfl, hb2⟩; (have HB2 := Lib.hid hb2); clear hb2))
    go_ret2
    exact ⟨by rw [E.out]; rfl, HB2.out⟩
  · have E : Hid (rDiv a b up = rput (!(decide (a < 0) == decide (b < 0))) q r up) := by unfold Hid; rw [eR]; rfl
    clear eR
    go_enter Tryz.func133, Tryz.ntmps133
    go_wp2_with (first | (go_at_call 160; refine (c_rsize _ _ (by omega) (by omega)).mono ?_; (first | rw [← HX.out] | rw [← HY.out]); rintro e w1 ⟨rfl, rfl⟩) | (go_at_call 163; refine (c_over' A x y _ _ HAI.out hAb (by omega) yp (by omega) _ HO.out).mono ?_; rintro e w2 ⟨rfl, hb2⟩; (have HB2 := Lib.hid hb2); clear hb2) | (go_at_call 161; refine (c_rput' _ r up q _ _ _ rfl rfl (by omega)).mono ?_; rintro e w3 ⟨rfl, rfl⟩))
    go_ret2
    exact ⟨by rw [E.out]; rfl, HB2.out⟩

/-- What is known of the root when i pairs of bits are still to come. -/
def RtAt (S : Nat) (root rest i : Nat) : Prop := root = isq (S / 4 ^ i) ∧ rest + root * root = S / 4 ^ i

theorem RtAt.start (S : Nat) (h : S < 4 ^ 43) : RtAt S 0 0 43 := by
  unfold RtAt; rw [Nat.div_eq_of_lt h]; exact ⟨rfl, rfl⟩

theorem RtAt.rest_le {S root rest i : Nat} (h : RtAt S root rest i) : rest ≤ 2 * root := by
  obtain ⟨h1, h2⟩ := h
  obtain ⟨g1, g2⟩ := isq_spec (S / 4 ^ i)
  rw [← h1] at g1 g2
  have e : (root + 1) * (root + 1) = root * root + 2 * root + 1 := by simp only [Nat.add_mul, Nat.mul_add]; omega
  omega

theorem RtAt.root_lt {S root rest i : Nat} (h : RtAt S root rest i) (hS : S < 8796093022208 * 8796093022208) : root < 8796093022208 := by
  obtain ⟨h1, h2⟩ := h
  rcases Nat.lt_or_ge root 8796093022208 with g | g
  · exact g
  · exfalso
    have := Nat.mul_le_mul g g
    have h3 : S / 4 ^ i ≤ S := Nat.div_le_self _ _
    omega

theorem four_bit (S i : Nat) : S / 4 ^ i = 4 * (S / 4 ^ (i + 1)) + S / 4 ^ i % 4 := by
  rw [Nat.pow_succ, ← Nat.div_div_eq_div_mul]; omega

theorem RtAt.yes {S root rest i two : Nat} (h : RtAt S root rest (i + 1)) (ht : two = S / 4 ^ i % 4) (hc : 4 * root + 1 ≤ 4 * rest + two) : RtAt S (2 * root + 1) (4 * rest + two - (4 * root + 1)) i := by
  have hr := h.rest_le
  obtain ⟨h1, h2⟩ := h
  have e := four_bit S i
  have ht2 : two < 4 := by rw [ht]; omega
  have s1 : (2 * root + 1) * (2 * root + 1) = 4 * (root * root) + 4 * root + 1 := by simp only [Nat.add_mul, Nat.mul_add]; have : 2 * root * (2 * root) = 4 * (root * root) := by ac_rfl
                                                                                     omega
  have s2 : (2 * root + 1 + 1) * (2 * root + 1 + 1) = 4 * (root * root) + 8 * root + 4 := by simp only [Nat.add_mul, Nat.mul_add]; have : 2 * root * (2 * root) = 4 * (root * root) := by ac_rfl
                                                                                             omega
  rw [← h2, ← ht] at e
  refine ⟨(isq_unique _ _ ?_ ?_).symm, ?_⟩
  · rw [s1, e]; omega
  · rw [s2, e]; omega
  · rw [s1, e]; omega

theorem RtAt.no {S root rest i two : Nat} (h : RtAt S root rest (i + 1)) (ht : two = S / 4 ^ i % 4) (hc : 4 * rest + two < 4 * root + 1) : RtAt S (2 * root) (4 * rest + two) i := by
  obtain ⟨h1, h2⟩ := h
  have e := four_bit S i
  have s0 : 2 * root * (2 * root) = 4 * (root * root) := by ac_rfl
  have s1 : (2 * root + 1) * (2 * root + 1) = 4 * (root * root) + 4 * root + 1 := by simp only [Nat.add_mul, Nat.mul_add]; omega
  rw [← h2, ← ht] at e
  refine ⟨(isq_unique _ _ ?_ ?_).symm, ?_⟩
  · rw [s0, e]; omega
  · rw [s1, e]; omega
  · rw [s0, e]; omega

/-- The next two bits of a times 2^32. -/
theorem two_high (a i : Nat) (h : 16 ≤ i) : a * 4294967296 / 4 ^ i % 4 = a / 2 ^ (2 * i - 32) % 4 := by
  have e : 4 ^ i = 4294967296 * 2 ^ (2 * i - 32) := by
    rw [show (4 : Nat) = 2 ^ 2 by decide, ← Nat.pow_mul, show (4294967296 : Nat) = 2 ^ 32 by decide, ← Nat.pow_add]; congr 1; omega
  rw [e, ← Nat.div_div_eq_div_mul, Nat.mul_div_cancel _ (by decide)]
theorem two_low (a i : Nat) (h : i < 16) : a * 4294967296 / 4 ^ i % 4 = 0 := by
  have e : 4294967296 = 4 * 4 ^ (15 - i) * 4 ^ i := by
    rw [Nat.mul_assoc, ← Nat.pow_add, show 15 - i + i = 15 by omega]
  rw [e, ← Nat.mul_assoc, Nat.mul_div_cancel _ (Nat.pow_pos (by decide)), Nat.mul_left_comm]
  exact Nat.mul_mod_right _ _

theorem RtAt.done {S root rest : Nat} (up : Bool) (h : RtAt S root rest 0) : rtN S up = if up = true ∧ 0 < rest then root + 1 else root := by
  obtain ⟨h1, h2⟩ := h
  rw [Nat.pow_zero, Nat.div_one] at h1 h2
  unfold rtN
  rw [← h1]
  have e : (root * root ≠ S) ↔ 0 < rest := by omega
  simp only [e]
  split <;> rfl

end Go.Proofs.YtpdaigenffecmaaGreat
