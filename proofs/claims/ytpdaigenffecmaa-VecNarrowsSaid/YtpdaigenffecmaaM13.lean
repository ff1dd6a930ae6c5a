/-
  The walk of span.power. Plain: the power of an interval.
-/
import Derived.Test.YtpdaigenffecmaaM10
import Derived.Test.YtpdaigenffecmaaM12
set_option linter.all false
namespace Go.Proofs.Ytpdaigenffecmaa
open Go.RowKit

set_option maxHeartbeats 1000000 in
theorem c_power1 (v : Int) (n s : Nat) (N : Int) (hN : N = (n : Int)) (hs : n = 2 * s + 1) (hn2 : n ≤ 16) (hv : v.natAbs ≤ 4503599627370496) (w : World) :
    Calls Try.prog 130 #[.int .i64 v, .int .i64 N] w fun e w' => e = .returned (.tuple #[.int .i64 (pwS v n).1, .int .i64 (pwS v n).2.1, .int .i64 (pwS v n).2.2]) ∧ Below w.heap.size w w' := by
  subst hN
  obtain ⟨sz, hsz⟩ : ∃ sz, sz = v.natAbs := ⟨_, rfl⟩
  have hm : max v (-v) = (sz : Int) := by omega
  have hsb : sz < 18446744073709551616 := by omega
  have hb1 : (sz : Int) < 18446744073709551616 := by omega
  have HM := Lib.hid hm
  have HV := Lib.hid hv; clear hv
  have HS := Lib.hid hs; clear hs
  have HSZ := Lib.hid hsz; clear hsz
  have hw1 : wrap64 (-v) = -v := by unfold wrap64; have := HV.out; omega
  have hw2 : IntKind.u64.wrap (max v (wrap64 (-v))) = (sz : Int) := by rw [hw1, hm]; simp [IntKind.wrap, IntKind.bits, IntKind.signed]; omega
  go_enter Try.func130, Try.ntmps130
  go_wp2
  rw [hw1]
  clear hw2 hw1 hm
  have HO : (w.alloc (Obj.cells #[Value.int .u64 1] 33)).ownsRow w.heap.size 33 1 (.slice (some ⟨w.heap.size, 0, none⟩) 1 1) 1 (cellsOf (pwd sz 0) 1) :=
    ⟨rfl, .inr ⟨w.heap.size, 1, #[Value.int .u64 1], rfl, Nat.le_refl _, heap_alloc_new w _, Nat.le_refl _, by decide, rfl, rfl⟩⟩
  have HB : Below w.heap.size w (w.alloc (Obj.cells #[Value.int .u64 1] 33)) := (Below.refl _ w).alloc (Nat.le_refl _) _
  have HO := Lib.hid HO
  have HB := Lib.hid HB
  go_loopw [8, 19] (fun d i wr => ∃ k : Nat, k ≤ n ∧ i = .int .i64 (k : Int) ∧ wr.ownsRow w.heap.size 33 1 d (k + 1) (cellsOf (pwd sz k) (k + 1)) ∧ Below w.heap.size w wr) (fun _ i _ => n - (intOf i).toNat)
  case atStart => exact ⟨0, Nat.zero_le _, rfl, HO.out, HB.out⟩
  case round =>
    obtain ⟨k, hk, rfl, hown, hbe⟩ := hrel
    have HR := Lib.hid hown; clear hown
    have HE := Lib.hid hbe; clear hbe
    rcases Nat.lt_or_ge k n with hlt | hge
    · have t1 : decide ((k : Int) < (n : Int)) = true := by simp; omega
      go_wp2_with (go_at_call 141; refine (c_times w.heap.size _ (k + 1) sz (pwd sz k) _ (by omega) (by omega) (pwd_lt sz hsb k) hsb HR.out).mono ?_; rintro e w3 ⟨d3, rfl, ho3, hb3⟩; (have HR3 := Lib.hid ho3); (have HB3 := Lib.hid hb3); clear ho3 hb3)
      go_roundw
      case rel => exact ⟨k + 1, hlt, by simp, Joins.ownsRow_le HR3.out HE.out.size, HE.out.trans (HB3.out.mono HE.out.size)⟩
      case measure => simp [intOf]; omega
    · have hkn : k = n := by omega
      subst hkn
      have t1 : decide ((k : Int) < (k : Int)) = false := by simp
      have t2 : (k : Int).tmod 2 = 1 := by have := HS.out; rw [Int.tmod_eq_emod_of_nonneg (by omega)]; omega
      have t3 : (k : Int) % 2 = 1 := by have := HS.out; omega
      have hgz : ∀ j, k + 1 ≤ j → atd (pwd sz k) (k + 1) j = 0 := fun j hj => by unfold atd; rw [if_neg (by omega)]
      have hgl : ∀ j, atd (pwd sz k) (k + 1) j < B64 := fun j => atd_lt _ _ _ (pwd_lt sz hsb k)
      have hV : valTo (atd (pwd sz k) (k + 1)) (k + 1) = sz ^ k := by
        rw [valTo_congr (g := pwd sz k) (fun j hj => by simp [atd, hj]), valTo_pwd]
      have hD : 4294967296 ^ (k - 1) = B64 ^ s := by rw [HS.out, show 2 * s + 1 - 1 = 2 * s by omega]; exact D_even s
      have HGZ := Lib.hid hgz; clear hgz
      have HGL := Lib.hid hgl; clear hgl
      have HVV := Lib.hid hV; clear hV
      have HD := Lib.hid hD; clear hD
      go_wp2_with (fail)
      go_at_call 142
      refine (c_high0 w.heap.size _ (k + 1) s _ (pwd sz k) _ (by omega) (by omega) (by have := HS.out; omega) (by have := HS.out; omega) (pwd_lt sz hsb k) HE.out.size HR.out).mono ?_
      rintro e w3 ⟨hb3, q, r, ft, rfl, hft, hff⟩
      have HB3 := Lib.hid hb3
      have HFT := Lib.hid hft
      have HFF := Lib.hid hff
      clear hb3 hft hff
      cases ft
      · have hbig : 4503599627370496 < v.natAbs ^ k / 4294967296 ^ (k - 1) := by
          have h := high0_big _ s (k + 1) HGL.out HGZ.out (HFF.out rfl)
          rw [HVV.out, ← HD.out, HSZ.out] at h
          simp only [B64] at h
          exact Nat.lt_of_lt_of_le (by decide) h
        have HP := Lib.hid (pwS_big v k hbig)
        clear hbig
        go_wp2_with (fail)
        refine bodyPost_ret (v := .tuple #[.int .i64 0, .int .i64 0, .int .i64 6]) (by simp [results, Try.results130, go_sem, *]) rfl ⟨by rw [HP.out], HE.out.trans (HB3.out.mono HE.out.size)⟩
      · have hqr : q = v.natAbs ^ k / 4294967296 ^ (k - 1) ∧ r = decide (v.natAbs ^ k % 4294967296 ^ (k - 1) ≠ 0) := by
          obtain ⟨f1, f2, f3, f4⟩ := HFT.out rfl
          obtain ⟨g1, g2⟩ := high0_fits _ s (k + 1) HGL.out HGZ.out f1 f2
          rw [HVV.out, ← HD.out] at g1 g2
          have hqq : q = v.natAbs ^ k / 4294967296 ^ (k - 1) := by rw [← HSZ.out, g1, f3]
          have hrr : r = decide (v.natAbs ^ k % 4294967296 ^ (k - 1) ≠ 0) := by rw [← HSZ.out, g2, f4]
          exact ⟨hqq, hrr⟩
        obtain ⟨hqq, hrr⟩ := hqr
        have HQQ := Lib.hid hqq
        have HRR := Lib.hid hrr
        clear hqq hrr
        rcases Nat.lt_or_ge 4503599627370496 q with hq | hq
        · have t5 : decide ((4503599627370496 : Int) < (q : Int)) = true := by simp; omega
          have HP := Lib.hid (pwS_big v k (by rw [← HQQ.out]; exact hq))
          go_wp2_with (fail)
          refine bodyPost_ret (v := .tuple #[.int .i64 0, .int .i64 0, .int .i64 6]) (by simp [results, Try.results130, go_sem, *]) rfl ⟨by rw [HP.out], HE.out.trans (HB3.out.mono HE.out.size)⟩
        · have t5 : decide ((4503599627370496 : Int) < (q : Int)) = false := by simp; omega
          have hq' : (q : Int) ≤ 4503599627370496 := by omega
          rcases Int.lt_or_le v 0 with hv | hv
          · have t6 : decide (v < 0) = true := by simp; omega
            have HP := Lib.hid (pwS_fits v k q r _ HQQ.out hq HRR.out rfl)
            rw [show decide (v < 0 ∧ k % 2 = 1) = true by have := HS.out; simp; omega] at HP
            cases r
            · go_wp2_with (fail)
              refine bodyPost_ret (v := .tuple #[.int .i64 (-(q : Int)), .int .i64 (-(q : Int)), .int .i64 0]) (by simp [results, Try.results130, go_sem, *]) rfl ⟨by rw [HP.out]; rfl, HE.out.trans (HB3.out.mono HE.out.size)⟩
            · go_wp2_with (fail)
              refine bodyPost_ret (v := .tuple #[.int .i64 (-((q : Int) + 1)), .int .i64 (-(q : Int)), .int .i64 0]) (by simp [results, Try.results130, go_sem, *]) rfl ⟨by rw [HP.out]; rfl, HE.out.trans (HB3.out.mono HE.out.size)⟩
          · have t6 : decide (v < 0) = false := by simp; omega
            have HP := Lib.hid (pwS_fits v k q r _ HQQ.out hq HRR.out rfl)
            rw [show decide (v < 0 ∧ k % 2 = 1) = false by simp; omega] at HP
            cases r
            · go_wp2_with (fail)
              refine bodyPost_ret (v := .tuple #[.int .i64 ((q : Int)), .int .i64 ((q : Int)), .int .i64 0]) (by simp [results, Try.results130, go_sem, *]) rfl ⟨by rw [HP.out]; rfl, HE.out.trans (HB3.out.mono HE.out.size)⟩
            · go_wp2_with (fail)
              refine bodyPost_ret (v := .tuple #[.int .i64 ((q : Int)), .int .i64 ((q : Int) + 1), .int .i64 0]) (by simp [results, Try.results130, go_sem, *]) rfl ⟨by rw [HP.out]; rfl, HE.out.trans (HB3.out.mono HE.out.size)⟩

set_option maxHeartbeats 1000000 in
theorem c_power0 (v : Int) (n s : Nat) (N : Int) (hN : N = (n : Int)) (hs : n = 2 * s + 2) (hn2 : n ≤ 16) (hv : v.natAbs ≤ 4503599627370496) (w : World) :
    Calls Try.prog 130 #[.int .i64 v, .int .i64 N] w fun e w' => e = .returned (.tuple #[.int .i64 (pwS v n).1, .int .i64 (pwS v n).2.1, .int .i64 (pwS v n).2.2]) ∧ Below w.heap.size w w' := by
  subst hN
  obtain ⟨sz, hsz⟩ : ∃ sz, sz = v.natAbs := ⟨_, rfl⟩
  have hm : max v (-v) = (sz : Int) := by omega
  have hsb : sz < 18446744073709551616 := by omega
  have hb1 : (sz : Int) < 18446744073709551616 := by omega
  have HM := Lib.hid hm
  have HV := Lib.hid hv; clear hv
  have HS := Lib.hid hs; clear hs
  have HSZ := Lib.hid hsz; clear hsz
  have hw1 : wrap64 (-v) = -v := by unfold wrap64; have := HV.out; omega
  have hw2 : IntKind.u64.wrap (max v (wrap64 (-v))) = (sz : Int) := by rw [hw1, hm]; simp [IntKind.wrap, IntKind.bits, IntKind.signed]; omega
  go_enter Try.func130, Try.ntmps130
  go_wp2
  rw [hw1]
  clear hw2 hw1 hm
  have HO : (w.alloc (Obj.cells #[Value.int .u64 1] 33)).ownsRow w.heap.size 33 1 (.slice (some ⟨w.heap.size, 0, none⟩) 1 1) 1 (cellsOf (pwd sz 0) 1) :=
    ⟨rfl, .inr ⟨w.heap.size, 1, #[Value.int .u64 1], rfl, Nat.le_refl _, heap_alloc_new w _, Nat.le_refl _, by decide, rfl, rfl⟩⟩
  have HB : Below w.heap.size w (w.alloc (Obj.cells #[Value.int .u64 1] 33)) := (Below.refl _ w).alloc (Nat.le_refl _) _
  have HO := Lib.hid HO
  have HB := Lib.hid HB
  go_loopw [8, 19] (fun d i wr => ∃ k : Nat, k ≤ n ∧ i = .int .i64 (k : Int) ∧ wr.ownsRow w.heap.size 33 1 d (k + 1) (cellsOf (pwd sz k) (k + 1)) ∧ Below w.heap.size w wr) (fun _ i _ => n - (intOf i).toNat)
  case atStart => exact ⟨0, Nat.zero_le _, rfl, HO.out, HB.out⟩
  case round =>
    obtain ⟨k, hk, rfl, hown, hbe⟩ := hrel
    have HR := Lib.hid hown; clear hown
    have HE := Lib.hid hbe; clear hbe
    rcases Nat.lt_or_ge k n with hlt | hge
    · have t1 : decide ((k : Int) < (n : Int)) = true := by simp; omega
      go_wp2_with (go_at_call 141; refine (c_times w.heap.size _ (k + 1) sz (pwd sz k) _ (by omega) (by omega) (pwd_lt sz hsb k) hsb HR.out).mono ?_; rintro e w3 ⟨d3, rfl, ho3, hb3⟩; (have HR3 := Lib.hid ho3); (have HB3 := Lib.hid hb3); clear ho3 hb3)
      go_roundw
      case rel => exact ⟨k + 1, hlt, by simp, Joins.ownsRow_le HR3.out HE.out.size, HE.out.trans (HB3.out.mono HE.out.size)⟩
      case measure => simp [intOf]; omega
    · have hkn : k = n := by omega
      subst hkn
      have t1 : decide ((k : Int) < (k : Int)) = false := by simp
      have t2 : (k : Int).tmod 2 = 0 := by have := HS.out; rw [Int.tmod_eq_emod_of_nonneg (by omega)]; omega
      have t3 : (k : Int) % 2 = 0 := by have := HS.out; omega
      have hgz : ∀ j, k + 1 ≤ j → atd (pwd sz k) (k + 1) j = 0 := fun j hj => by unfold atd; rw [if_neg (by omega)]
      have hgl : ∀ j, atd (pwd sz k) (k + 1) j < B64 := fun j => atd_lt _ _ _ (pwd_lt sz hsb k)
      have hV : valTo (atd (pwd sz k) (k + 1)) (k + 1) = sz ^ k := by
        rw [valTo_congr (g := pwd sz k) (fun j hj => by simp [atd, hj]), valTo_pwd]
      have hD : 4294967296 ^ (k - 1) = (B64 ^ s * 4294967296) := by rw [HS.out, show 2 * s + 2 - 1 = 2 * s + 1 by omega]; exact D_odd s
      have HGZ := Lib.hid hgz; clear hgz
      have HGL := Lib.hid hgl; clear hgl
      have HVV := Lib.hid hV; clear hV
      have HD := Lib.hid hD; clear hD
      go_wp2_with (fail)
      go_at_call 142
      refine (c_high32 w.heap.size _ (k + 1) s _ (pwd sz k) _ (by omega) (by omega) (by have := HS.out; omega) (by have := HS.out; omega) (pwd_lt sz hsb k) HE.out.size HR.out).mono ?_
      rintro e w3 ⟨hb3, q, r, ft, rfl, hft, hff⟩
      have HB3 := Lib.hid hb3
      have HFT := Lib.hid hft
      have HFF := Lib.hid hff
      clear hb3 hft hff
      cases ft
      · have hbig : 4503599627370496 < v.natAbs ^ k / 4294967296 ^ (k - 1) := by
          have h := high32_big _ s (k + 1) HGL.out HGZ.out (HFF.out rfl)
          rw [HVV.out, ← HD.out, HSZ.out] at h
          simp only [B64] at h
          exact Nat.lt_of_lt_of_le (by decide) h
        have HP := Lib.hid (pwS_big v k hbig)
        clear hbig
        go_wp2_with (fail)
        refine bodyPost_ret (v := .tuple #[.int .i64 0, .int .i64 0, .int .i64 6]) (by simp [results, Try.results130, go_sem, *]) rfl ⟨by rw [HP.out], HE.out.trans (HB3.out.mono HE.out.size)⟩
      · have hqr : q = v.natAbs ^ k / 4294967296 ^ (k - 1) ∧ r = decide (v.natAbs ^ k % 4294967296 ^ (k - 1) ≠ 0) := by
          obtain ⟨f1, f2, f3, f4⟩ := HFT.out rfl
          obtain ⟨g1, g2⟩ := high32_fits _ s (k + 1) HGL.out HGZ.out f2
          rw [HVV.out, ← HD.out] at g1 g2
          have hqq : q = v.natAbs ^ k / 4294967296 ^ (k - 1) := by rw [← HSZ.out, g1, f3]
          have hrr : r = decide (v.natAbs ^ k % 4294967296 ^ (k - 1) ≠ 0) := by
            rw [f4, ← HSZ.out]
            by_cases e1 : valTo (atd (pwd sz k) (k + 1)) s = 0 <;> by_cases e2 : atd (pwd sz k) (k + 1) s % 4294967296 = 0 <;> simp [g2, e1, e2]
          exact ⟨hqq, hrr⟩
        obtain ⟨hqq, hrr⟩ := hqr
        have HQQ := Lib.hid hqq
        have HRR := Lib.hid hrr
        clear hqq hrr
        rcases Nat.lt_or_ge 4503599627370496 q with hq | hq
        · have t5 : decide ((4503599627370496 : Int) < (q : Int)) = true := by simp; omega
          have HP := Lib.hid (pwS_big v k (by rw [← HQQ.out]; exact hq))
          go_wp2_with (fail)
          refine bodyPost_ret (v := .tuple #[.int .i64 0, .int .i64 0, .int .i64 6]) (by simp [results, Try.results130, go_sem, *]) rfl ⟨by rw [HP.out], HE.out.trans (HB3.out.mono HE.out.size)⟩
        · have t5 : decide ((4503599627370496 : Int) < (q : Int)) = false := by simp; omega
          have hq' : (q : Int) ≤ 4503599627370496 := by omega
          rcases Int.lt_or_le v 0 with hv | hv
          · have t6 : decide (v < 0) = true := by simp; omega
            have HP := Lib.hid (pwS_fits v k q r _ HQQ.out hq HRR.out rfl)
            rw [show decide (v < 0 ∧ k % 2 = 1) = false by have := HS.out; simp; omega] at HP
            cases r
            · go_wp2_with (fail)
              refine bodyPost_ret (v := .tuple #[.int .i64 ((q : Int)), .int .i64 ((q : Int)), .int .i64 0]) (by simp [results, Try.results130, go_sem, *]) rfl ⟨by rw [HP.out]; rfl, HE.out.trans (HB3.out.mono HE.out.size)⟩
            · go_wp2_with (fail)
              refine bodyPost_ret (v := .tuple #[.int .i64 ((q : Int)), .int .i64 ((q : Int) + 1), .int .i64 0]) (by simp [results, Try.results130, go_sem, *]) rfl ⟨by rw [HP.out]; rfl, HE.out.trans (HB3.out.mono HE.out.size)⟩
          · have t6 : decide (v < 0) = false := by simp; omega
            have HP := Lib.hid (pwS_fits v k q r _ HQQ.out hq HRR.out rfl)
            rw [show decide (v < 0 ∧ k % 2 = 1) = false by simp; omega] at HP
            cases r
            · go_wp2_with (fail)
              refine bodyPost_ret (v := .tuple #[.int .i64 ((q : Int)), .int .i64 ((q : Int)), .int .i64 0]) (by simp [results, Try.results130, go_sem, *]) rfl ⟨by rw [HP.out]; rfl, HE.out.trans (HB3.out.mono HE.out.size)⟩
            · go_wp2_with (fail)
              refine bodyPost_ret (v := .tuple #[.int .i64 ((q : Int)), .int .i64 ((q : Int) + 1), .int .i64 0]) (by simp [results, Try.results130, go_sem, *]) rfl ⟨by rw [HP.out]; rfl, HE.out.trans (HB3.out.mono HE.out.size)⟩

end Go.Proofs.Ytpdaigenffecmaa

namespace Go.Proofs.Ytpdaigenffecmaa

/-- The ends of the absolute value. -/
def abLo (a : Int × Int) : Int := max (max a.1 (-a.2)) 0
def abHi (a : Int × Int) : Int := max a.2 (-a.1)

/-- The power of a valid interval, from the powers of its ends. -/
def spPowOf (p q : Int × Int × Int) : Int × Int × Int := if p.2.2 ≠ 0 ∨ q.2.2 ≠ 0 then (0, 0, 6) else spTold p.1 q.2.1

def spPow (a : Int × Int) (n : Int) : Int × Int × Int :=
  if spChk a ≠ 0 then (0, 0, 20) else
  if n < 0 ∨ 16 < n then (0, 0, 2) else
  if n = 0 then (4294967296, 4294967296, 0) else
  if n % 2 = 0 then spPowOf (pwS (abLo a) n.toNat) (pwS (abHi a) n.toNat)
  else spPowOf (pwS a.1 n.toNat) (pwS a.2 n.toNat)

theorem spAbs_eq (a : Int × Int) (h : spChk a = 0) : spAbs a = (abLo a, abHi a, 0) := by
  obtain ⟨h1, h2, h3⟩ := spChk_ok h
  unfold spAbs spTold abLo abHi; rw [if_pos h, if_neg (by omega)]

theorem spPow_bad (a : Int × Int) (n : Int) (h : spChk a = 20) : spPow a n = (0, 0, 20) := by
  unfold spPow; rw [if_pos (by omega)]
theorem spPow_arg (a : Int × Int) (n : Int) (h : spChk a = 0) (hn : n < 0 ∨ 16 < n) : spPow a n = (0, 0, 2) := by
  unfold spPow; rw [if_neg (by omega), if_pos hn]
theorem spPow_zero (a : Int × Int) (h : spChk a = 0) : spPow a 0 = (4294967296, 4294967296, 0) := by
  unfold spPow; rw [if_neg (by omega)]; simp
theorem spPow_even (a : Int × Int) (n : Nat) (h : spChk a = 0) (h0 : 1 ≤ n) (h1 : n ≤ 16) (h2 : n % 2 = 0) : spPow a (n : Int) = spPowOf (pwS (abLo a) n) (pwS (abHi a) n) := by
  unfold spPow; rw [if_neg (by omega), if_neg (by omega), if_neg (by omega), if_pos (by omega)]; rfl
theorem spPow_odd (a : Int × Int) (n : Nat) (h : spChk a = 0) (h1 : n ≤ 16) (h2 : n % 2 = 1) : spPow a (n : Int) = spPowOf (pwS a.1 n) (pwS a.2 n) := by
  unfold spPow; rw [if_neg (by omega), if_neg (by omega), if_neg (by omega), if_neg (by omega)]; rfl

theorem spPowOf_bad (p q : Int × Int × Int) (h : p.2.2 ≠ 0 ∨ q.2.2 ≠ 0) : spPowOf p q = (0, 0, 6) := by unfold spPowOf; rw [if_pos h]
theorem spPowOf_ok (p q : Int × Int × Int) (h1 : p.2.2 = 0) (h2 : q.2.2 = 0) : spPowOf p q = spTold p.1 q.2.1 := by unfold spPowOf; rw [if_neg (by omega)]

end Go.Proofs.Ytpdaigenffecmaa
