/-
  The walks of the reference's fixed-point numbers, the second part: over, Div.
-/
import Derived.Deep.QuietTactic
import Derived.BigQuiet
import Derived.Test.YtpdaigenffecmaaDoorM10
import Derived.Test.YtpdaigenffecmaaDoorM21
set_option linter.all false
namespace Go.Proofs.YtpdaigenffecmaaDoor
open Go.RowKit

set_option maxHeartbeats 1000000 in
theorem c_over (a n d : Nat) (w : World) (ha : a < 18446744073709551616) (hn : n ≤ 9223372036854775808) (hd : 0 < d) (hd2 : d ≤ 4611686018427387904) :
    Calls Tryd.prog 108 #[.int .u64 (a : Int), .int .u64 (n : Int), .int .u64 (d : Int)] w fun e w' => (∃ m, w' = w.drewN m) ∧ e = .returned (.tuple #[.int .u64 ((ovS a n d).1 : Int), .bool (ovS a n d).2.1, .bool (ovS a n d).2.2]) := by
  have dd : ¬ (d : Int) = 0 := by omega
  have dd2 : ((d : Int) == 0) = false := by (simp <;> omega)
  have HD := Lib.hid hd; clear hd
  go_enter Tryd.func108, Tryd.ntmps108
  go_wp2
  have HB : Hid (∃ m, w = w.drewN m) := ⟨0, rfl⟩
  go_loopw [9, 10, 11] (fun q r i wr => ∃ (k Q R : Nat) (I : Int), k ≤ 64 ∧ q = .int .u64 (Q : Int) ∧ r = .int .u64 (R : Int) ∧ i = .int .i64 I ∧ I = (k : Int) - 1 ∧ Hid (Q = n * (a / 2 ^ k) / d) ∧ Hid (R = n * (a / 2 ^ k) % d) ∧ Q ≤ 4503599627370496 ∧ R < d ∧ ∃ m, wr = w.drewN m) (fun _ _ i _ => ((intOf i) + 1).toNat)
  case atStart =>
    have e : a / 2 ^ 64 = 0 := Nat.div_eq_of_lt ha
    exact ⟨64, 0, 0, 63, by omega, rfl, rfl, rfl, rfl, by unfold Hid; rw [e]; simp, by unfold Hid; rw [e]; simp, by omega, HD.out, HB.out⟩
  case round =>
    obtain ⟨k, Q, R, I, hk, rfl, rfl, rfl, hI, hQ, hR, hQb, hRb, hbe⟩ := hrel
    have HE := Lib.hid hbe; clear hbe
    rcases Nat.eq_zero_or_pos k with h0 | h0
    · subst h0
      have hI' : I = -1 := by omega
      subst hI'
      clear hI
      have er : decide ((0 : Int) < (R : Int)) = decide (0 < R) := decide_eq_decide.2 (by omega)
      have eo : ovS a n d = (Q, decide (0 < R), true) := by
        unfold ovS; have h1 := hQ.out; have h2 := hR.out
        rw [Nat.pow_zero, Nat.div_one] at h1 h2
        rw [← h1, ← h2, if_neg (by omega)]
      have EO := Lib.hid eo; clear eo
      go_wp2
      refine bodyPost_ret (v := .tuple #[.int .u64 (Q : Int), .bool (decide (0 < R)), .bool true]) (by simp [results, Tryd.results108, go_sem, *]) rfl ⟨HE.out, by rw [EO.out]⟩
    · obtain ⟨j, rfl⟩ : ∃ j, k = j + 1 := ⟨k - 1, by omega⟩
      have hI' : I = (j : Int) := by omega
      subst hI'
      clear hI h0
      obtain ⟨V, hV⟩ : ∃ V, V = n * (a / 2 ^ j) := ⟨_, rfl⟩
      obtain ⟨QV, hQV⟩ : ∃ QV, QV = V / d := ⟨_, rfl⟩
      obtain ⟨nQ, hnq⟩ : ∃ nQ, nQ = n / d := ⟨_, rfl⟩
      obtain ⟨nr, hnr⟩ : ∃ nr, nr = n % d := ⟨_, rfl⟩
      obtain ⟨bit, hbit⟩ : ∃ bit, bit = a / 2 ^ j % 2 := ⟨_, rfl⟩
      have hb1 : bit ≤ 1 := by omega
      have hVV : V = n * (2 * (a / 2 ^ (j + 1)) + bit) := by rw [hV, hbit, ← half_bit]
      have hQVb : QV ≤ 2 * Q + nQ + 3 := by rw [hQV, hVV, hQ.out, hnq]; exact ov_bound _ _ _ _ HD.out hb1
      have hnqb : nQ ≤ 9223372036854775808 := by rw [hnq]; exact Nat.le_trans (Nat.div_le_self _ _) hn
      have hnrb : nr < d := by rw [hnr]; exact Nat.mod_lt _ HD.out
      have hnrn : nr ≤ n := by rw [hnr]; exact Nat.mod_le _ _
      have eq1 : (n : Int) / (d : Int) = (nQ : Int) := by rw [hnq]; simp
      have eq2 : (n : Int) % (d : Int) = (nr : Int) := by rw [hnr]; simp
      have eq3 : (n : Int).tdiv (d : Int) = (nQ : Int) := by rw [hnq]; simp
      have eq4 : (n : Int).tmod (d : Int) = (nr : Int) := by rw [Int.tmod_eq_emod_of_nonneg (by omega), hnr]; simp
      have hbi : ((a : Int) / 2 ^ j).tmod 2 = (bit : Int) := by rw [Int.tmod_eq_emod_of_nonneg (Int.ediv_nonneg (by omega) (Int.pow_nonneg (by omega))), hbit]; simp
      have HV0 : Hid (bit = 0 → 2 * Q * d + 2 * R = V) := by
        intro hb; rw [hVV, hb, hQ.out, hR.out]; exact ov0 _ _ _
      have HV1 : Hid (bit = 1 → (2 * Q + nQ) * d + (2 * R + nr) = V) := by
        intro hb; rw [hVV, hb, hQ.out, hR.out, hnq, hnr]; exact ov1 _ _ _
      have HQV := Lib.hid hQV; clear hQV
      have HV := Lib.hid hV; clear hV
      clear hVV hnq hnr hbit
      have hge : decide ((0 : Int) ≤ (j : Int)) = true := by (simp <;> omega)
      rcases Nat.eq_zero_or_pos bit with hb | hb
      · have tb : ((bit : Int) == 1) = false := by (simp <;> omega)
        have tb2 : ¬ (bit : Int) = 1 := by omega
        go_wp2_with (first | (go_quiet (fail)))
        go_loop [9, 10] (fun q r => ∃ (Q' R' : Nat), q = .int .u64 (Q' : Int) ∧ r = .int .u64 (R' : Int) ∧ Q' ≤ QV ∧ R' < 18446744073709551616 ∧ Hid (Q' * d + R' = V)) (fun _ r => (intOf r).toNat)
        case atStart => exact ⟨2 * Q, 2 * R, by (congr 1 <;> omega), by (congr 1 <;> omega), by rw [HQV.out]; exact le_div' HD.out (HV0.out hb), by omega, HV0.out hb⟩
        case round =>
          obtain ⟨Q', R', rfl, rfl, hq', hr', hv'⟩ := hrel
          rcases Nat.lt_or_ge R' d with hlt | hge'
          · have t5 : decide ((d : Int) ≤ (R' : Int)) = false := by (simp <;> omega)
            have t5' : ¬ (d : Int) ≤ (R' : Int) := by omega
            obtain ⟨u1, u2⟩ := div_unique' hv'.out hlt
            rcases Nat.lt_or_ge 4503599627370496 Q' with hb' | hb'
            · have t6 : decide ((4503599627370496 : Int) < (Q' : Int)) = true := by (simp <;> omega)
              have t6' : (4503599627370496 : Int) < (Q' : Int) := by omega
              have EO := Lib.hid (ovS_big a n d (Nat.lt_of_lt_of_le (by rw [← u1, HV.out] at hb'; exact hb') (ov_mono a n d j)))
              clear u1 u2
              go_wp2
              refine bodyPost_ret (v := .tuple #[.int .u64 0, .bool false, .bool false]) (by simp [results, Tryd.results108, go_sem, *]) rfl ⟨HE.out, by rw [EO.out]; rfl⟩
            · have t6 : decide ((4503599627370496 : Int) < (Q' : Int)) = false := by (simp <;> omega)
              have t6' : ¬ (4503599627370496 : Int) < (Q' : Int) := by omega
              have U1 : Hid (Q' = n * (a / 2 ^ j) / d) := by unfold Hid; rw [← HV.out]; exact u1.symm
              have U2 : Hid (R' = n * (a / 2 ^ j) % d) := by unfold Hid; rw [← HV.out]; exact u2.symm
              clear u1 u2
              go_wp2
              go_roundw
              case rel => exact ⟨j, Q', R', _, by omega, rfl, rfl, rfl, by omega, U1, U2, hb', hlt, HE.out⟩
              case measure => simp [intOf]
          · have t5 : decide ((d : Int) ≤ (R' : Int)) = true := by (simp <;> omega)
            have t5' : (d : Int) ≤ (R' : Int) := by omega
            have HN1 : Hid ((Q' + 1) * d + (R' - d) = V) := by unfold Hid; rw [← hv'.out, Nat.add_mul]; omega
            have HQ1 : Q' + 1 ≤ QV := by rw [HQV.out]; exact le_div' HD.out HN1.out
            go_wp2
            go_round
            case rel => exact ⟨Q' + 1, R' - d, by (congr 1), by (congr 1 <;> omega), HQ1, by omega, HN1.out⟩
            case measure => have := HD.out; simp [intOf]; omega
      · have tb : ((bit : Int) == 1) = true := by (simp <;> omega)
        have hb2 : bit = 1 := by omega
        go_wp2_with (first | (go_quiet (fail)))
        go_loop [9, 10] (fun q r => ∃ (Q' R' : Nat), q = .int .u64 (Q' : Int) ∧ r = .int .u64 (R' : Int) ∧ Q' ≤ QV ∧ R' < 18446744073709551616 ∧ Hid (Q' * d + R' = V)) (fun _ r => (intOf r).toNat)
        case atStart => exact ⟨2 * Q + nQ, 2 * R + nr, by (congr 1 <;> omega), by (congr 1 <;> omega), by rw [HQV.out]; exact le_div' HD.out (HV1.out hb2), by omega, HV1.out hb2⟩
        case round =>
          obtain ⟨Q', R', rfl, rfl, hq', hr', hv'⟩ := hrel
          rcases Nat.lt_or_ge R' d with hlt | hge'
          · have t5 : decide ((d : Int) ≤ (R' : Int)) = false := by (simp <;> omega)
            have t5' : ¬ (d : Int) ≤ (R' : Int) := by omega
            obtain ⟨u1, u2⟩ := div_unique' hv'.out hlt
            rcases Nat.lt_or_ge 4503599627370496 Q' with hb' | hb'
            · have t6 : decide ((4503599627370496 : Int) < (Q' : Int)) = true := by (simp <;> omega)
              have t6' : (4503599627370496 : Int) < (Q' : Int) := by omega
              have EO := Lib.hid (ovS_big a n d (Nat.lt_of_lt_of_le (by rw [← u1, HV.out] at hb'; exact hb') (ov_mono a n d j)))
              clear u1 u2
              go_wp2
              refine bodyPost_ret (v := .tuple #[.int .u64 0, .bool false, .bool false]) (by simp [results, Tryd.results108, go_sem, *]) rfl ⟨(by obtain ⟨m, hm⟩ := HE.out; exact ⟨m + nq, by rw [hm, World.drewN_drewN]⟩), by rw [EO.out]; rfl⟩
            · have t6 : decide ((4503599627370496 : Int) < (Q' : Int)) = false := by (simp <;> omega)
              have t6' : ¬ (4503599627370496 : Int) < (Q' : Int) := by omega
              have U1 : Hid (Q' = n * (a / 2 ^ j) / d) := by unfold Hid; rw [← HV.out]; exact u1.symm
              have U2 : Hid (R' = n * (a / 2 ^ j) % d) := by unfold Hid; rw [← HV.out]; exact u2.symm
              clear u1 u2
              go_wp2
              go_roundw
              case rel => exact ⟨j, Q', R', _, by omega, rfl, rfl, rfl, by omega, U1, U2, hb', hlt, (by obtain ⟨m, hm⟩ := HE.out; exact ⟨m + nq, by rw [hm, World.drewN_drewN]⟩)⟩
              case measure => simp [intOf]
          · have t5 : decide ((d : Int) ≤ (R' : Int)) = true := by (simp <;> omega)
            have t5' : (d : Int) ≤ (R' : Int) := by omega
            have HN1 : Hid ((Q' + 1) * d + (R' - d) = V) := by unfold Hid; rw [← hv'.out, Nat.add_mul]; omega
            have HQ1 : Q' + 1 ≤ QV := by rw [HQV.out]; exact le_div' HD.out HN1.out
            go_wp2
            go_round
            case rel => exact ⟨Q' + 1, R' - d, by (congr 1), by (congr 1 <;> omega), HQ1, by omega, HN1.out⟩
            case measure => have := HD.out; simp [intOf]; omega

end Go.Proofs.YtpdaigenffecmaaDoor
