/-
  The walks of package fix: what each of its functions computes. The long division of a number of 128 bits by one of 64 bits, a digit to the base 2^32 at a time: plain numbers.
-/
import Derived.Test.YtpdaigenffecmaaChecked
import Derived.WalkKit
import Derived.WalkSpells
import Derived.WalkLawsBesides
import Derived.Lib.Mul64
import Derived.Laws.Bits64b
import Derived.Lib.BitFns
import Derived.Test.YtpdaigenffecmaaM01
import Derived.Test.YtpdaigenffecmaaM02
set_option linter.all false
namespace Go.Proofs.Ytpdaigenffecmaa
open Go.RowKit

set_option maxHeartbeats 400000 in
theorem c_fixCheck (a : Int) (w : World) :
    Calls Try.prog 158 #[.int .i64 a] w fun e w' => e = .returned (.int .i64 (fxChk a)) ∧ w' = w := by
  go_enter Try.func158, Try.ntmps158
  go_wp2
  all_goals (go_ret; exact ⟨by simp [fxChk, *], rfl⟩)

set_option maxHeartbeats 400000 in
theorem c_fixAll (x y : Int) (b : Nat) (w : World) (h0 : w.cell? ⟨b, 0, none⟩ = some (.int .i64 x)) (h1 : w.cell? ⟨b, 1, none⟩ = some (.int .i64 y)) :
    Calls Try.prog 146 #[.slice (some ⟨b, 0, none⟩) 2 2] w fun e w' => e = .returned (.int .i64 (fxAll x y)) ∧ w' = w := by
  go_enter Try.func146, Try.ntmps146
  go_wp2_with (first | (with_reducible refine wp_rounds 3 ?_) | (with_reducible refine rounds_step _ ?_; intro _ _) | (go_at_call 158; refine (c_fixCheck _ _).mono ?_; rintro e w' ⟨rfl, rfl⟩))
  all_goals (go_ret; exact ⟨by simp_all [fxAll], rfl⟩)

namespace M64
theorem maskN (a : Nat) (ha : a < 18446744073709551616) : bits .and .u64 (a : Int) 4294967295 = ((a % 4294967296 : Nat) : Int) := by
  have h := bits_and_u64_nat a 4294967295 ha (by omega)
  have e : a &&& 4294967295 = a % 4294967296 := Nat.and_two_pow_sub_one_eq_mod a 32
  rw [e] at h
  exact h
theorem divN (a : Nat) : (a : Int) / 4294967296 = ((a / 4294967296 : Nat) : Int) := by omega
theorem mulN (a b : Nat) : (a : Int) * (b : Int) = ((a * b : Nat) : Int) := (Int.natCast_mul a b).symm
theorem addN (a b : Nat) : (a : Int) + (b : Int) = ((a + b : Nat) : Int) := (Int.natCast_add a b).symm
theorem wrapN (a : Nat) (ha : a < 18446744073709551616) : IntKind.u64.wrap (a : Int) = (a : Int) := by rw [IntKind.wrap_u64]; omega
theorem wrapM (a : Nat) : IntKind.u64.wrap (a : Int) = ((a % 18446744073709551616 : Nat) : Int) := by rw [IntKind.wrap_u64]; omega
end M64

set_option maxHeartbeats 1000000 in
theorem c_Mul64 (x y : Nat) (hx : x < 18446744073709551616) (hy : y < 18446744073709551616) (w : World) :
    Calls Try.prog 154 #[.int .u64 x, .int .u64 y] w fun e w' => e = .returned (.tuple #[.int .u64 ((x * y / 18446744073709551616 : Nat) : Int), .int .u64 ((x * y % 18446744073709551616 : Nat) : Int)]) ∧ w' = w := by
  obtain ⟨bd, bt, bw, hhi⟩ := Lib.mul64_hi x y hx hy
  have ba := Lib.half_mul_le (a := x / 4294967296) (b := y / 4294967296) (by omega) (by omega)
  have bb := Lib.half_mul_le (a := x / 4294967296) (b := y % 4294967296) (by omega) (by omega)
  have bc := Lib.half_mul_le (a := x % 4294967296) (b := y / 4294967296) (by omega) (by omega)
  have ba' : x / 4294967296 * (y / 4294967296) < 18446744073709551616 := by omega
  have bb' : x / 4294967296 * (y % 4294967296) < 18446744073709551616 := by omega
  have bc' : x % 4294967296 * (y / 4294967296) < 18446744073709551616 := by omega
  have bh1 : x / 4294967296 * (y / 4294967296) + (x / 4294967296 * (y % 4294967296) + x % 4294967296 * (y % 4294967296) / 4294967296) / 4294967296 < 18446744073709551616 := by omega
  have bh : x / 4294967296 * (y / 4294967296) + (x / 4294967296 * (y % 4294967296) + x % 4294967296 * (y % 4294967296) / 4294967296) / 4294967296 + ((x / 4294967296 * (y % 4294967296) + x % 4294967296 * (y % 4294967296) / 4294967296) % 4294967296 + x % 4294967296 * (y / 4294967296)) / 4294967296 < 18446744073709551616 := by omega
  go_enter Try.func154, Try.ntmps154
  go_wp2
  simp only [M64.maskN x hx, M64.maskN y hy, M64.divN, M64.mulN, M64.addN, M64.wrapN _ bd, M64.wrapN _ bb', M64.wrapN _ bt, M64.maskN _ bt, M64.wrapN _ bc', M64.wrapN _ bw, M64.wrapN _ ba', M64.wrapN _ bh1, M64.wrapN _ bh, M64.wrapM (x * y)]
  rw [hhi]
  go_ret2
  exact ⟨rfl, rfl⟩

set_option maxHeartbeats 400000 in
theorem c_LeadingZeros64 (x : Int) (w : World) (h0 : 0 ≤ x) (h1 : x ≤ 18446744073709551615) :
    Calls Try.prog 162 #[.int .u64 x] w fun e w' => e = .returned (.int .i64 (64 - (Lib.bitLen x.toNat : Int))) ∧ w' = w := by
  have hb := Lib.bitLen_le x.toNat 64 (by omega)
  go_enter Try.func162, Try.ntmps162
  go_wp2_with (go_at_call 163; refine (c_Len64 _ _ h0 h1).mono ?_; rintro e w' ⟨rfl, rfl⟩)
  go_ret
  exact ⟨by simp, rfl⟩

set_option maxHeartbeats 400000 in
theorem c_size (a : Int) (w : World) (h1 : -9223372036854775808 ≤ a) (h2 : a ≤ 9223372036854775807) :
    Calls Try.prog 151 #[.int .i64 a] w fun e w' => e = .returned (.int .u64 (a.natAbs : Int)) ∧ w' = w := by
  go_enter Try.func151, Try.ntmps151
  go_wp2
  all_goals (go_ret; exact ⟨by congr 2; simp; omega, rfl⟩)

set_option maxHeartbeats 400000 in
theorem c_product (x y : Nat) (hx : x < 18446744073709551616) (hy : y < 18446744073709551616) (w : World) :
    Calls Try.prog 150 #[.int .u64 x, .int .u64 y] w fun e w' => e = .returned (.agg #[.int .u64 (hi64 (x * y)), .int .u64 (lo64 (x * y))]) ∧ Below w.heap.size w w' := by
  go_enter Try.func150, Try.ntmps150
  go_wp2_with (go_at_call 154; refine (c_Mul64 _ _ hx hy _).mono ?_; rintro e w' ⟨rfl, rfl⟩)
  refine bodyPost_ret (v := .agg #[.int .u64 (hi64 (x * y)), .int .u64 (lo64 (x * y))]) (by simp [results, Try.results150, go_sem, hi64, lo64]) rfl ⟨rfl, (Below.refl _ _).alloc (Nat.le_refl _) _⟩

end Go.Proofs.Ytpdaigenffecmaa

namespace Go.Proofs.Ytpdaigenffecmaa

theorem kn_eq (y a b q : Nat) (hy : y = a * 4294967296 + b) : q * y = q * a * 4294967296 + q * b := by
  subst hy; rw [Nat.mul_add, ← Nat.mul_assoc]
/-- The quotient's digit is at most the guess. -/
theorem kn_le (y a b u v : Nat) (hy : y = a * 4294967296 + b) (ha : 0 < a) (hv : v < 4294967296) :
    (u * 4294967296 + v) / y ≤ u / a := by
  have hy0 : 0 < y := by omega
  rw [Nat.le_div_iff_mul_le ha]
  have h1 := Nat.div_mul_le_self (u * 4294967296 + v) y
  generalize (u * 4294967296 + v) / y = Q at h1 ⊢
  have h2 := kn_eq y a b Q hy
  rw [h2] at h1
  omega
theorem kn_top (y a b u : Nat) (hy : y = a * 4294967296 + b) (hb : b < 4294967296) (ha : 2147483648 ≤ a) (hu : u < y) : u / a ≤ 4294967297 := by
  have : u / a < 4294967298 := by
    rw [Nat.div_lt_iff_lt_mul (by omega)]
    omega
  omega
theorem kn_digit (y u v : Nat) (hu : u < y) (hv : v < 4294967296) : (u * 4294967296 + v) / y < 4294967296 := by
  rw [Nat.div_lt_iff_lt_mul (by omega)]
  omega
/-- The guess is too great: it goes down by one. -/
theorem kn_down (y a b u v q r : Nat) (hy : y = a * 4294967296 + b) (hu : u < y) (hv : v < 4294967296) (he : u = q * a + r)
    (hQ : (u * 4294967296 + v) / y ≤ q) (hg : 4294967296 ≤ q ∨ 4294967296 * r + v < q * b) : (u * 4294967296 + v) / y ≤ q - 1 ∧ 1 ≤ q := by
  have hlt : (u * 4294967296 + v) / y < q := by
    rcases hg with h | h
    · have := kn_digit y u v hu hv
      omega
    · rw [Nat.div_lt_iff_lt_mul (by omega), kn_eq y a b q hy]
      subst he
      rw [Nat.add_mul]
      omega
  generalize (u * 4294967296 + v) / y = Q at hlt
  omega
theorem kn_fit (y a b u v q r : Nat) (hy : y = a * 4294967296 + b) (hu : u < y) (he : u = q * a + r)
    (hQ : (u * 4294967296 + v) / y ≤ q) (hg : q * b ≤ 4294967296 * r + v) : (u * 4294967296 + v) / y = q := by
  have : q ≤ (u * 4294967296 + v) / y := by
    rw [Nat.le_div_iff_mul_le (by omega), kn_eq y a b q hy]
    subst he
    rw [Nat.add_mul]
    omega
  omega
theorem kn_wide (y a b u v q r : Nat) (hy : y = a * 4294967296 + b) (hb : b < 4294967296) (hu : u < y) (he : u = q * a + r)
    (hQ : (u * 4294967296 + v) / y ≤ q) (hq : q ≤ 4294967296) (hr : 4294967296 ≤ r) : (u * 4294967296 + v) / y = q := by
  refine kn_fit y a b u v q r hy hu he hQ ?_
  have := Nat.mul_le_mul hq (Nat.le_of_lt hb)
  omega
/-- Bounds of what the loop's test reckons. -/
theorem kn_mul (q b : Nat) (hq : q ≤ 4294967297) (hb : b < 4294967296) : q * b < 18446744073709551616 := by
  have := Nat.mul_le_mul_right b hq
  omega

theorem kn_two' (B y u v1 v0 : Nat) (hy : 0 < y) :
    (u * (B * B) + (v1 * B + v0)) / y = (u * B + v1) / y * B + ((u * B + v1) % y * B + v0) / y ∧
    (u * (B * B) + (v1 * B + v0)) % y = ((u * B + v1) % y * B + v0) % y := by
  have h1 := Nat.div_add_mod (u * B + v1) y
  generalize (u * B + v1) / y = Q at h1 ⊢
  generalize (u * B + v1) % y = R at h1 ⊢
  have e : u * (B * B) + (v1 * B + v0) = y * (Q * B) + (R * B + v0) := by
    rw [← Nat.mul_assoc, ← Nat.mul_assoc, ← Nat.add_assoc, ← Nat.add_assoc, ← Nat.add_mul, ← Nat.add_mul, h1]
  rw [e, Nat.mul_add_div hy, Nat.mul_add_mod]
  exact ⟨rfl, rfl⟩
theorem kn_sq : 4294967296 * 4294967296 = 18446744073709551616 := by decide
/-- The two digits together. -/
theorem kn_two (y u v1 v0 : Nat) (hy : 0 < y) :
    (u * 18446744073709551616 + (v1 * 4294967296 + v0)) / y = (u * 4294967296 + v1) / y * 4294967296 + ((u * 4294967296 + v1) % y * 4294967296 + v0) / y ∧
    (u * 18446744073709551616 + (v1 * 4294967296 + v0)) % y = ((u * 4294967296 + v1) % y * 4294967296 + v0) % y := by
  have h := kn_two' 4294967296 y u v1 v0 hy
  rw [kn_sq] at h
  exact h

/-- Shifted by s bits both ways. -/
theorem kn_shift (n d k : Nat) (hk : 0 < k) : n * k / (d * k) = n / d ∧ n * k % (d * k) / k = n % d := by
  constructor
  · exact Nat.mul_div_mul_right n d hk
  · rw [Nat.mul_mod_mul_right, Nat.mul_div_cancel _ hk]

/-- A remainder, reckoned modulo 2^64. -/
theorem kn_rem (n q y m : Nat) (hy : 0 < y) (hm : y ≤ m) (hq : n / y = q) : ((n : Int) - (q : Int) * (y : Int)) % (m : Int) = ((n % y : Nat) : Int) := by
  have h1 := Nat.div_add_mod n y
  rw [hq] at h1
  have h2 := Nat.mod_lt n hy
  have e : (n : Int) - (q : Int) * (y : Int) = ((n % y : Nat) : Int) := by
    have : (n : Int) = (y : Int) * (q : Int) + ((n % y : Nat) : Int) := by
      rw [← Int.natCast_mul, ← Int.natCast_add, h1]
    rw [this, Int.mul_comm (q : Int)]
    omega
  rw [e]
  exact Int.emod_eq_of_lt (by omega) (by omega)

end Go.Proofs.Ytpdaigenffecmaa
