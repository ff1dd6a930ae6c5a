/-
  The walk of the reference's Sqrt.
-/
import Derived.Test.YtpdaigenffecmaaGreatM06
import Derived.Test.YtpdaigenffecmaaGreatM18
set_option linter.all false
namespace Go.Proofs.YtpdaigenffecmaaGreat
open Go.RowKit

set_option maxHeartbeats 1000000 in
theorem c_rSqrt (a : Int) (up : Bool) (w : World) (h0 : 0 ≤ a) (h1 : a ≤ 4503599627370496) :
    Calls Tryz.prog 132 #[.int .i64 a, .bool up] w fun e w' => e = .returned (.int .i64 (rt a up)) ∧ w' = w := by
  obtain ⟨n, rfl⟩ : ∃ n : Nat, a = (n : Int) := ⟨a.toNat, by omega⟩
  obtain ⟨S, hS⟩ : ∃ S, S = n * 4294967296 := ⟨_, rfl⟩
  have hSb : S < 8796093022208 * 8796093022208 := by omega
  have hrt : rt (n : Int) up = ((rtN S up : Nat) : Int) := by rw [hS]; rfl
  have HRT := Lib.hid hrt; clear hrt
  have HST : Hid (RtAt S 0 0 43) := by
    refine RtAt.start S ?_
    have e : (4 : Nat) ^ 43 = 8796093022208 * 8796093022208 := by decide
    omega
  have HSb := Lib.hid hSb; clear hSb
  have HS := Lib.hid hS; clear hS
  go_enter Tryz.func132, Tryz.ntmps132
  go_wp2
  go_loop [5, 6, 7] (fun ro re i => ∃ (k root rest : Nat) (I : Int), k ≤ 43 ∧ ro = .int .i64 (root : Int) ∧ re = .int .i64 (rest : Int) ∧ i = .int .i64 I ∧ I = (k : Int) - 1 ∧ Hid (RtAt S root rest k)) (fun _ _ i => (intOf i + 1).toNat)
  case atStart => exact ⟨43, 0, 0, 42, by omega, rfl, rfl, rfl, rfl, HST.out⟩
  case round =>
    obtain ⟨k, root, rest, I, hk, rfl, rfl, rfl, hI, hR⟩ := hrel
    have hrl := hR.out.rest_le
    have hrb := hR.out.root_lt HSb.out
    rcases Nat.eq_zero_or_pos k with e0 | e0
    · subst e0
      have hI' : I = -1 := by omega
      subst hI'
      clear hI
      have hd := hR.out.done up
      cases up
      · have E : Hid (rtN S false = root) := by unfold Hid; rw [hd]; simp
        clear hd
        go_wp2
        go_ret
        exact ⟨by rw [HRT.out, E.out]; rfl, rfl⟩
      · rcases Nat.eq_zero_or_pos rest with er | er
        · subst er
          have E : Hid (rtN S true = root) := by unfold Hid; rw [hd]; simp
          clear hd
          go_wp2
          go_ret
          exact ⟨by rw [HRT.out, E.out]; rfl, rfl⟩
        · have tr : decide ((0 : Int) < (rest : Int)) = true := by (simp <;> omega)
          have tr' : (0 : Int) < (rest : Int) := by omega
          have E : Hid (rtN S true = root + 1) := by unfold Hid; rw [hd, if_pos ⟨rfl, er⟩]
          clear hd
          go_wp2
          go_ret
          exact ⟨by rw [HRT.out, E.out]; rfl, rfl⟩
    · obtain ⟨j, rfl⟩ : ∃ j, k = j + 1 := ⟨k - 1, by omega⟩
      have hI' : I = (j : Int) := by omega
      subst hI'
      clear hI e0
      have hge : decide ((0 : Int) ≤ (j : Int)) = true := by (simp <;> omega)
      obtain ⟨two, htwo⟩ : ∃ two, two = S / 4 ^ j % 4 := ⟨_, rfl⟩
      have htb : two < 4 := by omega
      have HT := Lib.hid htwo
      rcases Nat.lt_or_ge j 16 with hj | hj
      · have t1 : decide ((32 : Int) ≤ 2 * (j : Int)) = false := by (simp <;> omega)
        have t1' : ¬ (32 : Int) ≤ 2 * (j : Int) := by omega
        have h2 : two = 0 := by rw [htwo, HS.out]; exact two_low n j hj
        clear htwo
        subst h2
        rcases Nat.lt_or_ge (4 * rest) (4 * root + 1) with hc | hc
        · have t2 : decide (4 * (root : Int) + 1 ≤ 4 * (rest : Int)) = false := by (simp <;> omega)
          have t2' : ¬ 4 * (root : Int) + 1 ≤ 4 * (rest : Int) := by omega
          have HN : Hid (RtAt S (2 * root) (4 * rest) j) := hR.out.no (two := 0) HT.out (by omega)
          go_wp2
          go_round
          case rel => exact ⟨j, 2 * root, 4 * rest, _, by omega, by (congr 1 <;> omega), by (congr 1 <;> omega), rfl, by omega, HN⟩
          case measure => simp [intOf]
        · have t2 : decide (4 * (root : Int) + 1 ≤ 4 * (rest : Int)) = true := by (simp <;> omega)
          have t2' : 4 * (root : Int) + 1 ≤ 4 * (rest : Int) := by omega
          have HN : Hid (RtAt S (2 * root + 1) (4 * rest - (4 * root + 1)) j) := hR.out.yes (two := 0) HT.out (by omega)
          go_wp2
          go_round
          case rel => exact ⟨j, 2 * root + 1, 4 * rest - (4 * root + 1), _, by omega, by (congr 1 <;> omega), by (congr 1 <;> omega), rfl, by omega, HN⟩
          case measure => simp [intOf]
      · have t1 : decide ((32 : Int) ≤ 2 * (j : Int)) = true := by (simp <;> omega)
        have t1' : (32 : Int) ≤ 2 * (j : Int) := by omega
        have ht2 : ((n : Int) / 2 ^ (2 * j - 32)).tmod 4 = (two : Int) := by
          rw [htwo, HS.out, two_high n j hj, Int.tmod_eq_emod_of_nonneg (Int.ediv_nonneg (by omega) (Int.pow_nonneg (by omega)))]
          simp
        clear htwo
        rcases Nat.lt_or_ge (4 * rest + two) (4 * root + 1) with hc | hc
        · have t2 : decide (4 * (root : Int) + 1 ≤ 4 * (rest : Int) + (two : Int)) = false := by (simp <;> omega)
          have t2' : ¬ 4 * (root : Int) + 1 ≤ 4 * (rest : Int) + (two : Int) := by omega
          have HN : Hid (RtAt S (2 * root) (4 * rest + two) j) := hR.out.no HT.out (by omega)
          go_wp2
          go_round
          case rel => exact ⟨j, 2 * root, 4 * rest + two, _, by omega, by (congr 1 <;> omega), by (congr 1 <;> omega), rfl, by omega, HN⟩
          case measure => simp [intOf]
        · have t2 : decide (4 * (root : Int) + 1 ≤ 4 * (rest : Int) + (two : Int)) = true := by (simp <;> omega)
          have t2' : 4 * (root : Int) + 1 ≤ 4 * (rest : Int) + (two : Int) := by omega
          have HN : Hid (RtAt S (2 * root + 1) (4 * rest + two - (4 * root + 1)) j) := hR.out.yes HT.out (by omega)
          go_wp2
          go_round
          case rel => exact ⟨j, 2 * root + 1, 4 * rest + two - (4 * root + 1), _, by omega, by (congr 1 <;> omega), by (congr 1 <;> omega), rfl, by omega, HN⟩
          case measure => simp [intOf]

end Go.Proofs.YtpdaigenffecmaaGreat
