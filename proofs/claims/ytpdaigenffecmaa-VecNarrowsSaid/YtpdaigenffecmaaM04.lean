/-
  The walk of math/bits.Div64: for a divisor above the high word it returns the quotient and the remainder of the number of 128 bits.
-/
import Derived.Deep.LoopGhost
import Derived.Deep.DeepCutAuto
import Derived.Deep.CutBlock
import Derived.Lib.Hide
import Derived.Deep.QuietTactic
import Derived.BigQuiet
import Derived.Laws.Bits64b
import Derived.WalkSmall
import Derived.Test.YtpdaigenffecmaaM03
set_option linter.all false
namespace Go.Proofs.Ytpdaigenffecmaa
open Go.RowKit

set_option maxHeartbeats 1000000 in
theorem c_Div64_low (lo y : Nat) (w : World) (hl : lo < 18446744073709551616) (hy0 : 0 < y) (hy : y < 18446744073709551616) :
    Calls Try.prog 161 #[.int .u64 0, .int .u64 lo, .int .u64 y] w fun e w' => e = .returned (.tuple #[.int .u64 ((lo / y : Nat) : Int), .int .u64 ((lo % y : Nat) : Int)]) ∧ Below w.heap.size w w' := by
  have e1 : IntKind.u64.wrap ((lo : Int) / (y : Int)) = ((lo / y : Nat) : Int) := by
    rw [← Int.natCast_ediv]; exact M64.wrapN _ (Nat.lt_of_le_of_lt (Nat.div_le_self lo y) hl)
  have e2 : IntKind.u64.wrap ((lo : Int) % (y : Int)) = ((lo % y : Nat) : Int) := by
    rw [← Int.natCast_emod]; exact M64.wrapN _ (Nat.lt_of_le_of_lt (Nat.mod_le lo y) hl)
  have hyi : ((y : Int) == 0) = false := by simp; omega
  have hyn : ¬ (y : Int) = 0 := by omega
  have hyn' : ¬ y = 0 := by omega
  go_enter Try.func161, Try.ntmps161
  go_wp2
  go_quiet (fail)
  go_wp2
  go_ret2
  exact ⟨by simp, below_drewN (Below.refl _ _) _⟩

theorem kn_step {u q a r : Nat} (h : u = q * a + r) (hq : 1 ≤ q) : u = (q - 1) * a + (r + a) := by
  obtain ⟨p, rfl⟩ : ∃ p, q = p + 1 := ⟨q - 1, by omega⟩
  rw [h, Nat.add_mul]; simp; omega

set_option maxRecDepth 100000 in
set_option maxHeartbeats 4000000 in
theorem c_Div64_core (hi lo y s Y a b h1 l1 u z v1 v0 q m r Q1 u21 p n k Q0 A R : Nat) (w : World) (hh : 0 < hi) (hl : lo < 18446744073709551616) (hy0 : hi < y) (hy : y < 18446744073709551616) (hs : s ≤ 63) (hs0 : 0 ≤ s)
   (hLZ : Calls Try.prog 162 #[.int .u64 y] w fun e w' => e = .returned (.int .i64 (s : Nat)) ∧ w' = w)
   (e1 : IntKind.u64.wrap ((y : Int) * 2 ^ s) = (Y : Int)) (e2 : (Y : Int) / 4294967296 = (a : Int)) (e3 : bits .and .u64 (Y : Int) 4294967295 = (b : Int)) (e4 : IntKind.u64.wrap ((hi : Int) * 2 ^ s) = (h1 : Int)) 
   (e5 : (lo : Int) / 2 ^ (64 - s) = (l1 : Int)) (e6 : bits .or .u64 (h1 : Int) (l1 : Int) = (u : Int))
   (e7 : IntKind.u64.wrap ((lo : Int) * 2 ^ s) = (z : Int)) (e8 : (z : Int) / 4294967296 = (v1 : Int)) (e9 : bits .and .u64 (z : Int) 4294967295 = (v0 : Int)) (ha : 2147483648 ≤ a) (ha' : a < 4294967296) (hb : b < 4294967296)
   (hv1 : v1 < 4294967296) (hv0 : v0 < 4294967296)
   (e10 : IntKind.u64.wrap ((u : Int) / (a : Int)) = (q : Int)) (e11 : IntKind.u64.wrap ((q : Int) * (a : Int)) = (m : Int)) (e12 : IntKind.u64.wrap ((u : Int) - (m : Int)) = (r : Int))
   (hY : Hid (Y = a * 4294967296 + b)) (hu : u < Y) (hqr : Hid (u = q * a + r)) (hr : r < a) (hq : q ≤ 4294967297) (hQ1 : Hid ((u * 4294967296 + v1) / Y = Q1)) (hQq : Q1 ≤ q)
   (e13 : IntKind.u64.wrap (IntKind.u64.wrap (IntKind.u64.wrap ((u : Int) * 4294967296) + (v1 : Int)) - IntKind.u64.wrap ((Q1 : Int) * (Y : Int))) = (u21 : Int))
   (e20 : IntKind.u64.wrap ((u21 : Int) / (a : Int)) = (p : Int)) (e21 : IntKind.u64.wrap ((p : Int) * (a : Int)) = (n : Int)) (e22 : IntKind.u64.wrap ((u21 : Int) - (n : Int)) = (k : Int))
   (hu2 : u21 < Y) (hpk : Hid (u21 = p * a + k)) (hk : k < a) (hp : p ≤ 4294967297) (hQ0 : Hid ((u21 * 4294967296 + v0) / Y = Q0)) (hQp : Q0 ≤ p)
   (e23 : IntKind.u64.wrap (IntKind.u64.wrap ((Q1 : Int) * 4294967296) + (Q0 : Int)) = (A : Int))
   (e24 : IntKind.u64.wrap (IntKind.u64.wrap (IntKind.u64.wrap ((u21 : Int) * 4294967296) + (v0 : Int)) - IntKind.u64.wrap ((Q0 : Int) * (Y : Int))) / 2 ^ s = (R : Int)) :
    Calls Try.prog 161 #[.int .u64 hi, .int .u64 lo, .int .u64 y] w fun e w' => e = .returned (.tuple #[.int .u64 (A : Int), .int .u64 (R : Int)]) ∧ Below w.heap.size w w' := by
  have H := Lib.hid hLZ; clear hLZ
  go_enter Try.func161, Try.ntmps161
  go_upto_block 0 with (go_at_call 162; refine H.out.mono ?_; rintro e w' ⟨rfl, rfl⟩)
  go_cut [15, 16] from 67 to 85 (fun q1 rh wx => q1 = .int .u64 (Q1 : Int) ∧ wx = w')
  case first =>
    go_wp2_with fail
    go_loop [15, 16] (fun x y => ∃ q r : Nat, x = .int .u64 (q : Int) ∧ y = .int .u64 (r : Int) ∧ Q1 ≤ q ∧ q ≤ 4294967297 ∧ Hid (u = q * a + r) ∧ r < 4294967296) (fun x _ => (intOf x).toNat)
    case atStart => exact ⟨q, r, rfl, rfl, hQq, hq, hqr, by omega⟩
    case round =>
      obtain ⟨q', r', rfl, rfl, g1, g2, g3, g4⟩ := hrel
      clear hl hy hh hy0 hs hs0 H e10 e11 e12 e20 e21 e22 e13 e23 e24 e1 e2 e3 e4 e5 e6 e7 e8 e9
      have hq4 : (q' : Int) ≤ 4294967297 := by omega
      rcases Nat.lt_or_ge q' 4294967296 with hlt | hge
      · have hlt' : (q' : Int) < 4294967296 := by omega
        have hd' : decide ((4294967296 : Int) ≤ (q' : Int)) = false := by simp; omega
        have hm : IntKind.u64.wrap ((q' : Int) * (b : Int)) = (q' : Int) * (b : Int) := by
          have := kn_mul q' b (by omega) hb
          rw [IntKind.wrap_u64, ← Int.natCast_mul]; omega
        have hr4 : (r' : Int) < 4294967296 := by omega
        have hv4 : (v1 : Int) < 4294967296 := by omega
        rcases Nat.lt_or_ge (4294967296 * r' + v1) (q' * b) with h2 | h2
        · have h2' : decide ((4294967296 * (r' : Int) + (v1 : Int)) < (q' : Int) * (b : Int)) = true := by rw [decide_eq_true_eq, ← Int.natCast_mul]; omega
          have hdn := kn_down Y a b u v1 q' r' hY.out hu hv1 g3.out (by rw [hQ1.out]; exact g1) (.inr h2)
          rw [hQ1.out] at hdn
          have hstep : Hid (u = (q' - 1) * a + (r' + a)) := kn_step g3.out hdn.2
          have H2 := Lib.hid h2; clear h2
          have h1q' : (1 : Int) ≤ (q' : Int) := by omega
          rcases Nat.lt_or_ge (r' + a) 4294967296 with h3 | h3
          · have h3' : (r' : Int) + (a : Int) < 4294967296 := by omega
            have hd3' : decide ((4294967296 : Int) ≤ (r' : Int) + (a : Int)) = false := by simp; omega
            have H3 := Lib.hid h3; clear h3
            go_wp2
            go_round
            case rel => exact ⟨q' - 1, r' + a, by congr 1; omega, by congr 1, hdn.1, by omega, hstep.out, H3.out⟩
            case measure => simp [intOf]; omega
          · have h3' : (4294967296 : Int) ≤ (r' : Int) + (a : Int) := by omega
            have hd3' : decide ((4294967296 : Int) ≤ (r' : Int) + (a : Int)) = true := by simp; omega
            have H3 := Lib.hid h3; clear h3
            go_wp2
            go_meet
            case rel => exact ⟨by rw [← hQ1.out, kn_wide Y a b u v1 (q' - 1) (r' + a) hY.out hb hu hstep.out (by rw [hQ1.out]; exact hdn.1) (by omega) H3.out]; congr 1; omega, rfl⟩
        · have h2' : decide ((4294967296 * (r' : Int) + (v1 : Int)) < (q' : Int) * (b : Int)) = false := by rw [decide_eq_false_iff_not, ← Int.natCast_mul]; omega
          have H2 := Lib.hid h2; clear h2
          go_wp2
          go_meet
          case rel => exact ⟨by rw [← hQ1.out, kn_fit Y a b u v1 q' r' hY.out hu g3.out (by rw [hQ1.out]; exact g1) H2.out], rfl⟩
      · have hge' : (4294967296 : Int) ≤ (q' : Int) := by omega
        have hd' : decide ((4294967296 : Int) ≤ (q' : Int)) = true := by simp; omega
        have hdn := kn_down Y a b u v1 q' r' hY.out hu hv1 g3.out (by rw [hQ1.out]; exact g1) (.inl hge)
        rw [hQ1.out] at hdn
        have hstep : Hid (u = (q' - 1) * a + (r' + a)) := kn_step g3.out hdn.2
        have h1q' : (1 : Int) ≤ (q' : Int) := by omega
        rcases Nat.lt_or_ge (r' + a) 4294967296 with h3 | h3
        · have h3' : (r' : Int) + (a : Int) < 4294967296 := by omega
          have hd3' : decide ((4294967296 : Int) ≤ (r' : Int) + (a : Int)) = false := by simp; omega
          have H3 := Lib.hid h3; clear h3
          go_wp2
          go_round
          case rel => exact ⟨q' - 1, r' + a, by congr 1; omega, by congr 1, hdn.1, by omega, hstep.out, H3.out⟩
          case measure => simp [intOf]; omega
        · have h3' : (4294967296 : Int) ≤ (r' : Int) + (a : Int) := by omega
          have hd3' : decide ((4294967296 : Int) ≤ (r' : Int) + (a : Int)) = true := by simp; omega
          have H3 := Lib.hid h3; clear h3
          go_wp2
          go_meet
          case rel => exact ⟨by rw [← hQ1.out, kn_wide Y a b u v1 (q' - 1) (r' + a) hY.out hb hu hstep.out (by rw [hQ1.out]; exact hdn.1) (by omega) H3.out]; congr 1; omega, rfl⟩
  case rest =>
    obtain ⟨rfl, rfl⟩ := hcut
    go_upto_block 2 with (fail)
    go_cut [18, 16] from 102 to 120 (fun q1 rh wx => q1 = .int .u64 (Q0 : Int) ∧ wx = wc)
    case first =>
      go_wp2_with fail
      go_loop [18, 16] (fun x y => ∃ q r : Nat, x = .int .u64 (q : Int) ∧ y = .int .u64 (r : Int) ∧ Q0 ≤ q ∧ q ≤ 4294967297 ∧ Hid (u21 = q * a + r) ∧ r < 4294967296) (fun x _ => (intOf x).toNat)
      case atStart => exact ⟨p, k, rfl, rfl, hQp, hp, hpk, by omega⟩
      case round =>
        obtain ⟨q', r', rfl, rfl, g1, g2, g3, g4⟩ := hrel
        clear hl hy hh hy0 hs hs0 H e10 e11 e12 e20 e21 e22 e13 e23 e24 e1 e2 e3 e4 e5 e6 e7 e8 e9
        have hq4 : (q' : Int) ≤ 4294967297 := by omega
        rcases Nat.lt_or_ge q' 4294967296 with hlt | hge
        · have hlt' : (q' : Int) < 4294967296 := by omega
          have hd' : decide ((4294967296 : Int) ≤ (q' : Int)) = false := by simp; omega
          have hm : IntKind.u64.wrap ((q' : Int) * (b : Int)) = (q' : Int) * (b : Int) := by
            have := kn_mul q' b (by omega) hb
            rw [IntKind.wrap_u64, ← Int.natCast_mul]; omega
          have hr4 : (r' : Int) < 4294967296 := by omega
          have hv4 : (v0 : Int) < 4294967296 := by omega
          rcases Nat.lt_or_ge (4294967296 * r' + v0) (q' * b) with h2 | h2
          · have h2' : decide ((4294967296 * (r' : Int) + (v0 : Int)) < (q' : Int) * (b : Int)) = true := by rw [decide_eq_true_eq, ← Int.natCast_mul]; omega
            have hdn := kn_down Y a b u21 v0 q' r' hY.out hu2 hv0 g3.out (by rw [hQ0.out]; exact g1) (.inr h2)
            rw [hQ0.out] at hdn
            have hstep : Hid (u21 = (q' - 1) * a + (r' + a)) := kn_step g3.out hdn.2
            have H2 := Lib.hid h2; clear h2
            have h1q' : (1 : Int) ≤ (q' : Int) := by omega
            rcases Nat.lt_or_ge (r' + a) 4294967296 with h3 | h3
            · have h3' : (r' : Int) + (a : Int) < 4294967296 := by omega
              have hd3' : decide ((4294967296 : Int) ≤ (r' : Int) + (a : Int)) = false := by simp; omega
              have H3 := Lib.hid h3; clear h3
              go_wp2
              go_round
              case rel => exact ⟨q' - 1, r' + a, by congr 1; omega, by congr 1, hdn.1, by omega, hstep.out, H3.out⟩
              case measure => simp [intOf]; omega
            · have h3' : (4294967296 : Int) ≤ (r' : Int) + (a : Int) := by omega
              have hd3' : decide ((4294967296 : Int) ≤ (r' : Int) + (a : Int)) = true := by simp; omega
              have H3 := Lib.hid h3; clear h3
              go_wp2
              go_meet
              case rel => exact ⟨by rw [← hQ0.out, kn_wide Y a b u21 v0 (q' - 1) (r' + a) hY.out hb hu2 hstep.out (by rw [hQ0.out]; exact hdn.1) (by omega) H3.out]; congr 1; omega, rfl⟩
          · have h2' : decide ((4294967296 * (r' : Int) + (v0 : Int)) < (q' : Int) * (b : Int)) = false := by rw [decide_eq_false_iff_not, ← Int.natCast_mul]; omega
            have H2 := Lib.hid h2; clear h2
            go_wp2
            go_meet
            case rel => exact ⟨by rw [← hQ0.out, kn_fit Y a b u21 v0 q' r' hY.out hu2 g3.out (by rw [hQ0.out]; exact g1) H2.out], rfl⟩
        · have hge' : (4294967296 : Int) ≤ (q' : Int) := by omega
          have hd' : decide ((4294967296 : Int) ≤ (q' : Int)) = true := by simp; omega
          have hdn := kn_down Y a b u21 v0 q' r' hY.out hu2 hv0 g3.out (by rw [hQ0.out]; exact g1) (.inl hge)
          rw [hQ0.out] at hdn
          have hstep : Hid (u21 = (q' - 1) * a + (r' + a)) := kn_step g3.out hdn.2
          have h1q' : (1 : Int) ≤ (q' : Int) := by omega
          rcases Nat.lt_or_ge (r' + a) 4294967296 with h3 | h3
          · have h3' : (r' : Int) + (a : Int) < 4294967296 := by omega
            have hd3' : decide ((4294967296 : Int) ≤ (r' : Int) + (a : Int)) = false := by simp; omega
            have H3 := Lib.hid h3; clear h3
            go_wp2
            go_round
            case rel => exact ⟨q' - 1, r' + a, by congr 1; omega, by congr 1, hdn.1, by omega, hstep.out, H3.out⟩
            case measure => simp [intOf]; omega
          · have h3' : (4294967296 : Int) ≤ (r' : Int) + (a : Int) := by omega
            have hd3' : decide ((4294967296 : Int) ≤ (r' : Int) + (a : Int)) = true := by simp; omega
            have H3 := Lib.hid h3; clear h3
            go_wp2
            go_meet
            case rel => exact ⟨by rw [← hQ0.out, kn_wide Y a b u21 v0 (q' - 1) (r' + a) hY.out hb hu2 hstep.out (by rw [hQ0.out]; exact hdn.1) (by omega) H3.out]; congr 1; omega, rfl⟩
    case rest =>
      obtain ⟨rfl, rfl⟩ := hcut
      go_wp2
      go_ret2
      exact ⟨rfl, Below.refl _ _⟩

/-- The words of a number that was shifted by s bits. -/
theorem sh_or (hi lo s : Nat) (hs : s ≤ 63) (hl : lo < 18446744073709551616) (hh : hi * 2 ^ s < 18446744073709551616) :
    bits .or .u64 ((hi * 2 ^ s : Nat) : Int) ((lo / 2 ^ (64 - s) : Nat) : Int) = ((hi * 2 ^ s + lo / 2 ^ (64 - s) : Nat) : Int) := by
  have hp : 0 < 2 ^ (64 - s) := Nat.two_pow_pos _
  have hlt : lo / 2 ^ (64 - s) < 2 ^ s := by
    rw [Nat.div_lt_iff_lt_mul hp, ← Nat.pow_add]
    rw [show s + (64 - s) = 64 by omega]
    exact hl
  rw [bits_or_u64_nat _ _ hh (Nat.lt_of_le_of_lt (Nat.div_le_self _ _) hl)]
  congr 1
  rw [Nat.mul_comm hi, Nat.two_pow_add_eq_or_of_lt hlt]

theorem wr3 (x c d : Int) : IntKind.u64.wrap (IntKind.u64.wrap (IntKind.u64.wrap x + c) - IntKind.u64.wrap d) = (x + c - d) % 18446744073709551616 := by
  simp only [IntKind.wrap_u64]; omega
theorem wr2 (x c : Int) : IntKind.u64.wrap (IntKind.u64.wrap x + c) = (x + c) % 18446744073709551616 := by
  simp only [IntKind.wrap_u64]; omega
/-- How long a number is. -/
theorem bitLen_bounds : ∀ (n y : Nat), y ≤ n → y ≠ 0 → y < 2 ^ 64 → 1 ≤ Lib.bitLen y ∧ 2 ^ (Lib.bitLen y - 1) ≤ y ∧ y < 2 ^ Lib.bitLen y
  | 0, y, h, h0, _ => absurd (by omega) h0
  | n + 1, y, h, h0, hy => by
    have hb := Lib.bitLen_half y h0 hy
    rcases Nat.lt_or_ge y 2 with h2 | h2
    · have : y = 1 := by omega
      subst this
      have h1 : Lib.bitLen 1 = 1 := by decide
      rw [h1]; decide
    · obtain ⟨g1, g2, g3⟩ := bitLen_bounds n (y / 2) (by omega) (by omega) (by omega)
      rw [hb]
      generalize Lib.bitLen (y / 2) = L at g1 g2 g3
      obtain ⟨k, rfl⟩ : ∃ k, L = k + 1 := ⟨L - 1, by omega⟩
      have e1 : 2 ^ (1 + (k + 1) - 1) = 2 ^ k * 2 := by rw [show 1 + (k + 1) - 1 = k + 1 by omega, Nat.pow_succ]
      have e2 : 2 ^ (1 + (k + 1)) = 2 ^ (k + 1) * 2 := by rw [show 1 + (k + 1) = (k + 1) + 1 by omega, Nat.pow_succ]
      rw [e1, e2]
      simp only [Nat.add_sub_cancel] at g2
      omega

theorem c_Div64 (hi lo y : Nat) (w : World) (hl : lo < 18446744073709551616) (hy0 : hi < y) (hy : y < 18446744073709551616) :
    Calls Try.prog 161 #[.int .u64 hi, .int .u64 lo, .int .u64 y] w fun e w' => e = .returned (.tuple #[.int .u64 (((hi * 18446744073709551616 + lo) / y : Nat) : Int), .int .u64 (((hi * 18446744073709551616 + lo) % y : Nat) : Int)]) ∧ Below w.heap.size w w' := by
  rcases Nat.eq_zero_or_pos hi with rfl | hh
  · have := c_Div64_low lo y w hl (by omega) hy
    simpa using this
  · obtain ⟨g1, g2, g3⟩ := bitLen_bounds y y (Nat.le_refl y) (by omega) (by omega)
    have gL := Lib.bitLen_le y 64 (by omega) (by omega)
    have hLZ0 := c_LeadingZeros64 (y : Int) w (by omega) (by omega)
    simp only [Int.toNat_natCast] at hLZ0
    obtain ⟨s, hs⟩ : ∃ s, s = 64 - Lib.bitLen y := ⟨_, rfl⟩
    have hLZ : Calls Try.prog 162 #[.int .u64 y] w fun e w' => e = .returned (.int .i64 (s : Nat)) ∧ w' = w := by
      have e : (64 - (Lib.bitLen y : Int)) = (s : Int) := by omega
      rw [e] at hLZ0; exact hLZ0
    have hk0 : 0 < 2 ^ s := Nat.two_pow_pos s
    have hL : Lib.bitLen y = 64 - s := by omega
    rw [hL] at g2 g3
    have hpp : 2 ^ (64 - s) * 2 ^ s = 18446744073709551616 := by rw [← Nat.pow_add, show 64 - s + s = 64 by omega]
    have hpq : 2 ^ (64 - s - 1) * 2 ^ s = 9223372036854775808 := by rw [← Nat.pow_add, show 64 - s - 1 + s = 63 by omega]
    -- the divisor, shifted
    obtain ⟨Y, hYd⟩ : ∃ Y, Y = y * 2 ^ s := ⟨_, rfl⟩
    have hY1 : 9223372036854775808 ≤ Y := by rw [hYd, ← hpq]; exact Nat.mul_le_mul_right _ g2
    have hY2 : Y < 18446744073709551616 := by rw [hYd, ← hpp]; exact Nat.mul_lt_mul_of_pos_right g3 hk0
    have hh1 : hi * 2 ^ s < 18446744073709551616 := Nat.lt_trans (Nat.mul_lt_mul_of_pos_right hy0 hk0) (hYd ▸ hY2)
    -- the dividend, shifted
    have hlo : lo * 2 ^ s = lo / 2 ^ (64 - s) * 18446744073709551616 + lo * 2 ^ s % 18446744073709551616 := by
      have e : lo * 2 ^ s / 18446744073709551616 = lo / 2 ^ (64 - s) := by rw [← hpp, Nat.mul_div_mul_right _ _ hk0]
      rw [← e]; exact (Nat.div_add_mod' _ _).symm
    obtain ⟨z, hz⟩ : ∃ z, z = lo * 2 ^ s % 18446744073709551616 := ⟨_, rfl⟩
    obtain ⟨u, hud⟩ : ∃ u, u = hi * 2 ^ s + lo / 2 ^ (64 - s) := ⟨_, rfl⟩
    have hz2 : z < 18446744073709551616 := by rw [hz]; exact Nat.mod_lt _ (by decide)
    have hN : (hi * 18446744073709551616 + lo) * 2 ^ s = u * 18446744073709551616 + z := by
      rw [Nat.add_mul, hlo, ← hz, hud, Nat.add_mul, Nat.mul_right_comm]; omega
    have huY : u < Y := by
      have h1 : (hi * 18446744073709551616 + lo) * 2 ^ s < Y * 18446744073709551616 := by
        rw [hYd, Nat.mul_right_comm]
        exact Nat.mul_lt_mul_of_pos_right (by omega) hk0
      rw [hN] at h1
      omega
    have hor := sh_or hi lo s (by omega) hl hh1
    rw [← hud] at hor
    obtain ⟨a, ha⟩ : ∃ a, a = Y / 4294967296 := ⟨_, rfl⟩
    obtain ⟨b, hb⟩ : ∃ b, b = Y % 4294967296 := ⟨_, rfl⟩
    obtain ⟨v1, hv1⟩ : ∃ v1, v1 = z / 4294967296 := ⟨_, rfl⟩
    obtain ⟨v0, hv0⟩ : ∃ v0, v0 = z % 4294967296 := ⟨_, rfl⟩
    have hYab : Y = a * 4294967296 + b := by omega
    have hzv : z = v1 * 4294967296 + v0 := by omega
    have ha1 : 2147483648 ≤ a := by omega
    have ha2 : a < 4294967296 := by omega
    have hY0 : 0 < Y := by omega
    obtain ⟨t1, t2⟩ := kn_two Y u v1 v0 hY0
    obtain ⟨k1, k2⟩ := kn_shift (hi * 18446744073709551616 + lo) y (2 ^ s) hk0
    rw [hN, ← hYd, hzv] at k1 k2
    rw [t1] at k1
    rw [t2] at k2
    obtain ⟨Q1, hQ1⟩ : ∃ Q1, Q1 = (u * 4294967296 + v1) / Y := ⟨_, rfl⟩
    obtain ⟨u21, hu21⟩ : ∃ u21, u21 = (u * 4294967296 + v1) % Y := ⟨_, rfl⟩
    rw [← hu21] at k1 k2
    rw [← hQ1] at k1
    have hu21Y : u21 < Y := by rw [hu21]; exact Nat.mod_lt _ hY0
    obtain ⟨Q0, hQ0⟩ : ∃ Q0, Q0 = (u21 * 4294967296 + v0) / Y := ⟨_, rfl⟩
    rw [← hQ0] at k1
    have hQ1B : Q1 < 4294967296 := by rw [hQ1]; exact kn_digit Y u v1 huY (by omega)
    have hQ0B : Q0 < 4294967296 := by rw [hQ0]; exact kn_digit Y u21 v0 hu21Y (by omega)
    have hdm := Nat.div_add_mod u a
    have hdm2 := Nat.div_add_mod u21 a
    rw [Nat.mul_comm] at hdm hdm2
    have hma := Nat.mod_lt u (show 0 < a by omega)
    have hma2 := Nat.mod_lt u21 (show 0 < a by omega)
    have ht1 := kn_top Y a b u hYab (by omega) ha1 huY
    have ht2 := kn_top Y a b u21 hYab (by omega) ha1 hu21Y
    have hl1 := kn_le Y a b u v1 hYab (by omega) (by omega)
    have hl2 := kn_le Y a b u21 v0 hYab (by omega) (by omega)
    rw [← hQ1] at hl1
    rw [← hQ0] at hl2
    have hR : ((u21 : Int) * 4294967296 + (v0 : Int) - (Q0 : Int) * (Y : Int)) % 18446744073709551616 = (((u21 * 4294967296 + v0) % Y : Nat) : Int) := by
      have := kn_rem (u21 * 4294967296 + v0) Q0 Y 18446744073709551616 hY0 (by omega) hQ0.symm
      simpa using this
    have hU : ((u : Int) * 4294967296 + (v1 : Int) - (Q1 : Int) * (Y : Int)) % 18446744073709551616 = (((u * 4294967296 + v1) % Y : Nat) : Int) := by
      have := kn_rem (u * 4294967296 + v1) Q1 Y 18446744073709551616 hY0 (by omega) hQ1.symm
      simpa using this
    have key := c_Div64_core hi lo y s Y a b (hi * 2 ^ s) (lo / 2 ^ (64 - s)) u z v1 v0 (u / a) (u / a * a) (u % a) Q1 u21 (u21 / a) (u21 / a * a) (u21 % a) Q0
      ((hi * 18446744073709551616 + lo) / y) ((hi * 18446744073709551616 + lo) % y) w hh hl hy0 hy (by omega) (by omega) hLZ
      (by rw [← M64.wrapN Y hY2, hYd]; push_cast; rfl) (by omega) (by rw [M64.maskN Y hY2, hb]) (by rw [← M64.wrapN _ hh1]; push_cast; rfl)
      (by push_cast; rfl) (by rw [hor]) (by rw [hz, ← M64.wrapM]; push_cast; rfl) (by omega) (by rw [M64.maskN z hz2, hv0]) ha1 ha2 (by omega) (by omega) (by omega)
      (by rw [← Int.natCast_ediv]; exact M64.wrapN _ (by omega)) (by rw [← Int.natCast_mul]; exact M64.wrapN _ (by omega)) (by rw [IntKind.wrap_u64]; omega)
      hYab huY (by unfold Hid; omega) hma ht1 hQ1.symm hl1 (by rw [wr3, hU, hu21])
      (by rw [← Int.natCast_ediv]; exact M64.wrapN _ (by omega)) (by rw [← Int.natCast_mul]; exact M64.wrapN _ (by omega)) (by rw [IntKind.wrap_u64]; omega)
      hu21Y (by unfold Hid; omega) hma2 ht2 hQ0.symm hl2 (by rw [wr2, ← k1]; omega) (by rw [wr3, hR, ← k2, Int.natCast_ediv, Int.natCast_pow]; rfl)
    exact key

end Go.Proofs.Ytpdaigenffecmaa
