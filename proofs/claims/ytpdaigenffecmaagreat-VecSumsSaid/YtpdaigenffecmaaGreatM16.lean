/-
  The walks of the reference's fixed-point numbers, the first part: Right, size, put, Mul.
-/
import Derived.Test.YtpdaigenffecmaaGreatChecked
import Derived.Lib.Hide
import Derived.Lib.Small
import Derived.Test.YtpdaigenffecmaaGreatM15
set_option linter.all false
namespace Go.Proofs.YtpdaigenffecmaaGreat
open Go.RowKit

theorem c_rRight (a : Int) (w : World) :
    Calls Tryz.prog 126 #[.int .i64 a] w fun e w' => e = .returned (.bool (decide (fxChk a = 0))) ∧ w' = w := by
  rcases Int.lt_or_le a (-4503599627370496) with h | h
  · have e : decide (fxChk a = 0) = false := by unfold fxChk; rw [if_pos (by omega)]; rfl
    have E := Lib.hid e; clear e
    have t : decide (-4503599627370496 ≤ a) = false := by simp; omega
    go_enter Tryz.func126, Tryz.ntmps126
    go_wp2
    go_ret
    exact ⟨by rw [E.out]; rfl, rfl⟩
  · have t : decide (-4503599627370496 ≤ a) = true := by simp; omega
    have e : decide (fxChk a = 0) = decide (a ≤ 4503599627370496) := by
      refine decide_eq_decide.2 ?_
      unfold fxChk; split <;> omega
    have E := Lib.hid e; clear e
    go_enter Tryz.func126, Tryz.ntmps126
    go_wp2
    go_ret
    exact ⟨by rw [E.out]; rfl, rfl⟩

theorem c_rsize (a : Int) (w : World) (h0 : -9223372036854775808 ≤ a) (h1 : a ≤ 9223372036854775807) :
    Calls Tryz.prog 160 #[.int .i64 a] w fun e w' => e = .returned (.int .u64 ((a.natAbs : Nat) : Int)) ∧ w' = w := by
  rcases Int.lt_or_le a 0 with h | h
  · have e : ((a.natAbs : Nat) : Int) = -(a + 1) + 1 := by omega
    have E := Lib.hid e; clear e
    go_enter Tryz.func160, Tryz.ntmps160
    go_wp2
    go_ret
    exact ⟨by rw [E.out]; rfl, rfl⟩
  · have e : ((a.natAbs : Nat) : Int) = a := by omega
    have E := Lib.hid e; clear e
    have t : ¬ a < 0 := by omega
    go_enter Tryz.func160, Tryz.ntmps160
    go_wp2
    go_ret
    exact ⟨by rw [E.out]; rfl, rfl⟩

theorem c_rput (neg rest up : Bool) (n : Nat) (w : World) (hn : n < 18446744073709551615) :
    Calls Tryz.prog 161 #[.bool neg, .int .u64 (n : Int), .bool rest, .bool up] w fun e w' => e = .returned (.tuple #[.int .i64 (rput neg n rest up).1, .bool (rput neg n rest up).2]) ∧ w' = w := by
  obtain ⟨m, hm⟩ : ∃ m, m = if rest && (up != neg) then n + 1 else n := ⟨_, rfl⟩
  have e : rput neg n rest up = if 4503599627370496 < m then (0, false) else (if neg then -(m : Int) else m, true) := by rw [hm]; rfl
  cases rest <;> cases up <;> cases neg
  all_goals simp only [Bool.false_and, Bool.true_and, Bool.false_eq_true, if_false, if_true, bne_self_eq_false, Bool.true_bne, Bool.false_bne, Bool.not_true, Bool.not_false] at hm e
  all_goals rw [hm] at e
  all_goals clear hm m
  all_goals first
    | (rcases Nat.lt_or_ge 4503599627370496 (n + 1) with h | h
       · rw [if_pos h] at e
         have t1 : decide ((4503599627370496 : Int) < (n : Int) + 1) = true := by (simp <;> omega)
         have t2 : (4503599627370496 : Int) < (n : Int) + 1 := by omega
         have E := Lib.hid e; clear e
         go_enter Tryz.func161, Tryz.ntmps161
         go_wp2
         go_ret2
         exact ⟨by rw [E.out]; rfl, rfl⟩
       · rw [if_neg (by omega)] at e
         have t1 : decide ((4503599627370496 : Int) < (n : Int) + 1) = false := by (simp <;> omega)
         have t2 : ¬ (4503599627370496 : Int) < (n : Int) + 1 := by omega
         have E := Lib.hid e; clear e
         go_enter Tryz.func161, Tryz.ntmps161
         go_wp2
         go_ret2
         exact ⟨by rw [E.out]; first | rfl | simp, rfl⟩)
    | (rcases Nat.lt_or_ge 4503599627370496 n with h | h
       · rw [if_pos h] at e
         have t1 : decide ((4503599627370496 : Int) < (n : Int)) = true := by (simp <;> omega)
         have t2 : (4503599627370496 : Int) < (n : Int) := by omega
         have E := Lib.hid e; clear e
         go_enter Tryz.func161, Tryz.ntmps161
         go_wp2
         go_ret2
         exact ⟨by rw [E.out]; rfl, rfl⟩
       · rw [if_neg (by omega)] at e
         have t1 : decide ((4503599627370496 : Int) < (n : Int)) = false := by (simp <;> omega)
         have t2 : ¬ (4503599627370496 : Int) < (n : Int) := by omega
         have E := Lib.hid e; clear e
         go_enter Tryz.func161, Tryz.ntmps161
         go_wp2
         go_ret2
         exact ⟨by rw [E.out]; first | rfl | simp, rfl⟩)

theorem c_rput' (neg rest up : Bool) (n : Nat) (N : Int) (R : Bool) (w : World) (hN : N = (n : Int)) (hR : R = rest) (hn : n < 18446744073709551615) :
    Calls Tryz.prog 161 #[.bool neg, .int .u64 N, .bool R, .bool up] w fun e w' => e = .returned (.tuple #[.int .i64 (rput neg n rest up).1, .bool (rput neg n rest up).2]) ∧ w' = w := by
  subst hN; subst hR; exact c_rput neg R up n w hn

set_option maxHeartbeats 1000000 in
theorem c_rMul (a b : Int) (up : Bool) (w : World) (ha : fxChk a = 0) (hb : fxChk b = 0) :
    Calls Tryz.prog 127 #[.int .i64 a, .int .i64 b, .bool up] w fun e w' => e = .returned (.tuple #[.int .i64 (rMul a b up).1, .bool (rMul a b up).2]) ∧ w' = w := by
  obtain ⟨a0, a1⟩ := fxChk_ok ha
  obtain ⟨b0, b1⟩ := fxChk_ok hb
  clear ha hb
  obtain ⟨x, hx⟩ : ∃ x, x = a.natAbs := ⟨_, rfl⟩
  obtain ⟨y, hy⟩ : ∃ y, y = b.natAbs := ⟨_, rfl⟩
  have hpq := parts_mul x y
  obtain ⟨xh, hxh⟩ : ∃ xh, xh = x / 67108864 := ⟨_, rfl⟩
  obtain ⟨xl, hxl⟩ : ∃ xl, xl = x % 67108864 := ⟨_, rfl⟩
  obtain ⟨yh, hyh⟩ : ∃ yh, yh = y / 67108864 := ⟨_, rfl⟩
  obtain ⟨yl, hyl⟩ : ∃ yl, yl = y % 67108864 := ⟨_, rfl⟩
  have q1 : xh * yh ≤ 67108864 * 67108864 := Nat.mul_le_mul (by omega) (by omega)
  have q2 : xh * yl ≤ 67108864 * 67108864 := Nat.mul_le_mul (by omega) (by omega)
  have q3 : xl * yh ≤ 67108864 * 67108864 := Nat.mul_le_mul (by omega) (by omega)
  have q4 : xl * yl ≤ 67108864 * 67108864 := Nat.mul_le_mul (by omega) (by omega)
  rw [← hxh, ← hxl, ← hyh, ← hyl] at hpq
  obtain ⟨H, hH⟩ : ∃ H, H = xh * yh := ⟨_, rfl⟩
  obtain ⟨M1, hM1⟩ : ∃ M1, M1 = xh * yl := ⟨_, rfl⟩
  obtain ⟨M2, hM2⟩ : ∃ M2, M2 = xl * yh := ⟨_, rfl⟩
  obtain ⟨L, hL⟩ : ∃ L, L = xl * yl := ⟨_, rfl⟩
  rw [← hH, ← hM1, ← hM2, ← hL] at hpq
  rw [← hH] at q1; rw [← hM1] at q2; rw [← hM2] at q3; rw [← hL] at q4
  have eR : rMul a b up = rput (!(decide (a < 0) == decide (b < 0))) (x * y / 4294967296) (decide (0 < x * y % 4294967296)) up := by rw [hx, hy]; rfl
  have g1 : (x : Int) / 67108864 = (xh : Int) := by omega
  have g2 : (x : Int) % 67108864 = (xl : Int) := by omega
  have g3 : (y : Int) / 67108864 = (yh : Int) := by omega
  have g4 : (y : Int) % 67108864 = (yl : Int) := by omega
  have g5 : (xh : Int) * (yh : Int) = (H : Int) := by rw [hH, Int.natCast_mul]
  have g6 : (xh : Int) * (yl : Int) = (M1 : Int) := by rw [hM1, Int.natCast_mul]
  have g7 : (xl : Int) * (yh : Int) = (M2 : Int) := by rw [hM2, Int.natCast_mul]
  have g8 : (xl : Int) * (yl : Int) = (L : Int) := by rw [hL, Int.natCast_mul]
  have xb : x ≤ 4503599627370496 := by omega
  have yb : y ≤ 4503599627370496 := by omega
  have ER := Lib.hid eR; clear eR
  have HP := Lib.hid hpq; clear hpq
  have HX := Lib.hid hx; clear hx
  have HY := Lib.hid hy; clear hy
  clear hxh hxl hyh hyl hH hM1 hM2 hL
  rcases Nat.lt_or_ge H 8589934592 with hh | hh
  · have t : decide ((8589934592 : Int) ≤ (H : Int)) = false := by simp; omega
    have t' : ¬ (8589934592 : Int) ≤ (H : Int) := by omega
    obtain ⟨n, hn⟩ : ∃ n, n = x * y / 4294967296 := ⟨_, rfl⟩
    obtain ⟨R, hR⟩ : ∃ R, R = decide (0 < x * y % 4294967296) := ⟨_, rfl⟩
    have hn2 : (H : Int) * 1048576 + ((M1 : Int) + (M2 : Int)) / 64 + (((M1 : Int) + (M2 : Int)) % 64 * 67108864 + (L : Int)) / 4294967296 = (n : Int) := by rw [hn, HP.out]; omega
    have hR2 : decide ((0 : Int) < (((M1 : Int) + (M2 : Int)) % 64 * 67108864 + (L : Int)) % 4294967296) = R := by rw [hR, HP.out]; exact decide_eq_decide.2 (by omega)
    have hnb : n < 18446744073709551615 := by rw [hn, HP.out]; omega
    have HN := Lib.hid hn; clear hn
    have HR := Lib.hid hR; clear hR
    have HN2 := Lib.hid hn2; clear hn2
    have HR2 := Lib.hid hR2; clear hR2
    go_enter Tryz.func127, Tryz.ntmps127
    go_wp2_with (first | (go_at_call 160; refine (c_rsize _ _ (by omega) (by omega)).mono ?_; (first | rw [← HX.out] | rw [← HY.out]); rintro e w1 ⟨rfl, rfl⟩) | (go_at_call 161; refine (c_rput' _ R up n _ _ _ HN2.out HR2.out hnb).mono ?_; rintro e w2 ⟨rfl, rfl⟩))
    go_ret2
    exact ⟨by rw [ER.out, ← HN.out, ← HR.out]; rfl, rfl⟩
  · have t : decide ((8589934592 : Int) ≤ (H : Int)) = true := by simp; omega
    have t' : (8589934592 : Int) ≤ (H : Int) := by omega
    have EB : Hid (rMul a b up = (0, false)) := by
      unfold Hid; rw [ER.out]; exact rput_big _ _ _ _ (by rw [HP.out]; omega)
    go_enter Tryz.func127, Tryz.ntmps127
    go_wp2_with (go_at_call 160; refine (c_rsize _ _ (by omega) (by omega)).mono ?_; (first | rw [← HX.out] | rw [← HY.out]); rintro e w1 ⟨rfl, rfl⟩)
    go_ret2
    exact ⟨by rw [EB.out]; rfl, rfl⟩

end Go.Proofs.YtpdaigenffecmaaGreat
