/-
  Drafts of intervals and vectors.
-/
import Derived.Test.YtpdaigenffecmaaGreatM34
set_option linter.all false
namespace Go.Proofs.YtpdaigenffecmaaGreat
open Go.RowKit Go.Shelf

theorem pow_bounds (n m : Nat) (h : n ≤ m) : (1 : Int) ≤ 2 ^ n ∧ (2 : Int) ^ n ≤ 2 ^ m := by
  have h1 : (1 : Nat) ≤ 2 ^ n := Nat.one_le_two_pow
  have h2 : 2 ^ n ≤ 2 ^ m := Nat.pow_le_pow_right (by decide) h
  constructor
  · exact_mod_cast h1
  · exact_mod_cast h2
theorem tmod_bounds (a P : Int) (h : 0 < P) : -P < a.tmod P ∧ a.tmod P < P := by
  have h1 := Int.tmod_lt_of_pos a h
  have h2 := Int.lt_tmod_of_pos a h
  exact ⟨h2, h1⟩
theorem w64_id {x : Int} (h1 : -9223372036854775808 ≤ x) (h2 : x ≤ 9223372036854775807) : wrap64 x = x := by unfold wrap64; omega
/-- The number 2 to a draft's exponent, and what the code makes of it. -/
theorem pow_code (b : Int) (k m : Nat) (M : Int) (hM : M = 2 ^ m) (hm : k ≤ m + 1) (hk : 0 < k) (hM2 : M ≤ 4611686018427387904) :
    ∃ P : Int, wrap64 (2 ^ (b % (k : Int)).toNat) = P ∧ wrap64 (P + 1) = P + 1 ∧ 1 ≤ P ∧ P ≤ M := by
  have hb : (b % (k : Int)).toNat ≤ m := by
    have := Int.emod_lt_of_pos b (show (0 : Int) < k by omega)
    omega
  obtain ⟨h1, h2⟩ := pow_bounds _ _ hb
  rw [← hM] at h2
  exact ⟨_, rfl, w64_id (by rw [w64_id (by omega) (by omega)]; omega) (by rw [w64_id (by omega) (by omega)]; omega), by rw [w64_id (by omega) (by omega)]; omega, by rw [w64_id (by omega) (by omega)]; omega⟩
theorem shr_code (wd : Int) (n : Nat) (hw : 0 ≤ wd ∧ wd ≤ 4294967295) : ∃ Q : Int, wrap64 (wd / 2 ^ n) = Q ∧ 0 ≤ Q ∧ Q ≤ 4294967295 := by
  have h0 : 0 ≤ wd / 2 ^ n := Int.ediv_nonneg hw.1 (by have := (pow_bounds n n (Nat.le_refl _)).1; omega)
  have h1 : wd / 2 ^ n ≤ wd := Int.ediv_le_self _ hw.1
  exact ⟨_, rfl, by rw [w64_id (by omega) (by omega)]; exact h0, by rw [w64_id (by omega) (by omega)]; omega⟩

/-- The ends of a small draft. -/
def SmallI (lo hi : Int) : Prop := -68719476736 ≤ lo ∧ lo ≤ 68719476736 ∧ lo ≤ hi ∧ hi ≤ lo + 4294967295
theorem SmallI.ok {lo hi : Int} (h : SmallI lo hi) : spChk (lo, hi) = 0 := by
  obtain ⟨h1, h2, h3, h4⟩ := h
  exact spChk_mk (by simp only; omega) (by simp only; omega) (by simp only; omega)

theorem c_dsmall (at_ b wd : Int) (hb : 0 ≤ b ∧ b ≤ 255) (hw : 0 ≤ wd ∧ wd ≤ 4294967295) (w : World) :
    Calls Tryz.prog 19 #[.agg #[.int .i64 at_, .int .u8 b, .int .u32 wd]] w fun e w' => ∃ lo hi, SmallI lo hi ∧ e = .returned (.agg #[.int .i64 lo, .int .i64 hi]) ∧ Below w.heap.size w w' := by
  obtain ⟨P, hp1, hp2, hp3, hp4⟩ := pow_code b 37 36 68719476736 (by decide) (by decide) (by decide) (by decide)
  obtain ⟨Q, hq1, hq2, hq3⟩ := shr_code wd (b % 32).toNat hw
  rw [show ((37 : Nat) : Int) = 37 from rfl] at hp1
  have ht := tmod_bounds at_ (P + 1) (by omega)
  obtain ⟨lo, hlo⟩ : ∃ lo, at_.tmod (P + 1) = lo := ⟨_, rfl⟩
  rw [hlo] at ht
  have hz : ¬ P + 1 = 0 := by omega
  have hs : wrap64 (lo + Q) = lo + Q := w64_id (by omega) (by omega)
  have HV : Hid (SmallI lo (lo + Q)) := by unfold Hid SmallI; omega
  clear ht hp3 hp4 hq2 hq3
  go_enter Tryz.func19, Tryz.ntmps19
  go_wp2_with (fail)
  refine bodyPost_ret (v := .agg #[.int .i64 lo, .int .i64 (lo + Q)]) (by simp [results, Tryz.results19, go_sem, *]) rfl ⟨lo, lo + Q, HV.out, rfl, by (repeat' (first | (with_reducible exact Below.refl _ _) | (with_reducible refine Below.setCell ?_ ?_ _) | (with_reducible refine Below.alloc ?_ ?_ _) | (with_reducible refine Below.drew ?_) | (with_reducible refine below_drewN ?_ _) | (with_reducible assumption) | (with_reducible refine Below.trans ?_ (Below.mono (by with_reducible assumption) ?_)) | omega | (simp; done) | (simp; omega) | (simp [World.setCell]; omega)))⟩

theorem c_dspan (at_ b wd : Int) (hb : 0 ≤ b ∧ b ≤ 255) (hw : 0 ≤ wd ∧ wd ≤ 4294967295) (w : World) :
    Calls Tryz.prog 119 #[.agg #[.int .i64 at_, .int .u8 b, .int .u32 wd]] w fun e w' => ∃ lo hi, spChk (lo, hi) = 0 ∧ e = .returned (.agg #[.int .i64 lo, .int .i64 hi]) ∧ Below w.heap.size w w' := by
  obtain ⟨P, hp1, hp2, hp3, hp4⟩ := pow_code b 52 51 2251799813685248 (by decide) (by decide) (by decide) (by decide)
  rw [show ((52 : Nat) : Int) = 52 from rfl] at hp1
  have ht := tmod_bounds at_ (P + 1) (by omega)
  obtain ⟨lo, hlo⟩ : ∃ lo, at_.tmod (P + 1) = lo := ⟨_, rfl⟩
  rw [hlo] at ht
  have hz : ¬ P + 1 = 0 := by omega
  have hq : wrap64 wd = wd := w64_id (by omega) (by omega)
  have hs : wrap64 (lo + wd) = lo + wd := w64_id (by omega) (by omega)
  have HV : Hid (spChk (lo, min (lo + wd) 4503599627370496) = 0) := by unfold Hid; exact spChk_mk (by simp only; omega) (by simp only; omega) (by simp only; omega)
  clear ht hp3 hp4
  go_enter Tryz.func119, Tryz.ntmps119
  go_wp2_with (fail)

  refine bodyPost_ret (v := .agg #[.int .i64 lo, .int .i64 (min (lo + wd) 4503599627370496)]) (by simp [results, Tryz.results119, go_sem, *]) rfl ⟨lo, _, HV.out, rfl, by (repeat' (first | (with_reducible exact Below.refl _ _) | (with_reducible refine Below.setCell ?_ ?_ _) | (with_reducible refine Below.alloc ?_ ?_ _) | (with_reducible refine Below.drew ?_) | (with_reducible refine below_drewN ?_ _) | (with_reducible assumption) | (with_reducible refine Below.trans ?_ (Below.mono (by with_reducible assumption) ?_)) | omega | (simp; done) | (simp; omega) | (simp [World.setCell]; omega)))⟩

end Go.Proofs.YtpdaigenffecmaaGreat
