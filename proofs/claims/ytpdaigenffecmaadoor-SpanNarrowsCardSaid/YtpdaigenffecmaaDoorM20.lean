/-
  The walk of span.power. Plain: the power of an interval. Plain: what the results of intervals contain.
-/
import Derived.Test.YtpdaigenffecmaaDoorM17
import Derived.Test.YtpdaigenffecmaaDoorM19
set_option linter.all false
namespace Go.Proofs.YtpdaigenffecmaaDoor
open Go.RowKit

set_option maxHeartbeats 1000000 in
theorem c_power1 (v : Int) (n s : Nat) (N : Int) (hN : N = (n : Int)) (hs : n = 2 * s + 1) (hn2 : n ≤ 16) (hv : v.natAbs ≤ 4503599627370496) (w : World) :
    Calls Tryd.prog 76 #[.int .i64 v, .int .i64 N] w fun e w' => e = .returned (.tuple #[.int .i64 (pwS v n).1, .int .i64 (pwS v n).2.1, .int .i64 (pwS v n).2.2]) ∧ Below w.heap.size w w' := by
  subst hN
  obtain ⟨sz, hsz⟩ : ∃ sz, sz = v.natAbs := ⟨_, rfl⟩
  have hm : max v (-v) = (sz : Int) := by omega
  have hsb : sz < 18446744073709551616 := by omega
  have hb1 : (sz : Int) < 18446744073709551616 := by omega
  have HM := Lib.hid hm
  have HV := Lib.hid hv; clear hv
  have HS := Lib.hid hs; clear hs
  have HSZ := Lib.hid hsz; clear hsz
  have hw1 : wrap64 (-v) = -v := by unfold wrap64; have := HV.out; omega
  have hw2 : IntKind.u64.wrap (max v (wrap64 (-v))) = (sz : Int) := by rw [hw1, hm]; simp [IntKind.wrap, IntKind.bits, IntKind.signed]; omega
  go_enter Tryd.func76, Tryd.ntmps76
  go_wp2
  rw [hw1]
  clear hw2 hw1 hm
  have HO : (w.alloc (Obj.cells #[Value.int .u64 1] 48)).ownsRow w.heap.size 48 1 (.slice (some ⟨w.heap.size, 0, none⟩) 1 1) 1 (cellsOf (pwd sz 0) 1) :=
    ⟨rfl, .inr ⟨w.heap.size, 1, #[Value.int .u64 1], rfl, Nat.le_refl _, heap_alloc_new w _, Nat.le_refl _, by decide, rfl, rfl⟩⟩
  have HB : Below w.heap.size w (w.alloc (Obj.cells #[Value.int .u64 1] 48)) := (Below.refl _ w).alloc (Nat.le_refl _) _
  have HO := Lib.hid HO
  have HB := Lib.hid HB
  go_loopw [8, 19] (fun d i wr => ∃ k : Nat, k ≤ n ∧ i = .int .i64 (k : Int) ∧ wr.ownsRow w.heap.size 48 1 d (k + 1) (cellsOf (pwd sz k) (k + 1)) ∧ Below w.heap.size w wr) (fun _ i _ => n - (intOf i).toNat)
  case atStart => exact ⟨0, Nat.zero_le _, rfl, HO.out, HB.out⟩
  case round =>
    obtain ⟨k, hk, rfl, hown, hbe⟩ := hrel
    have HR := Lib.hid hown; clear hown
    have HE := Lib.hid hbe; clear hbe
    rcases Nat.lt_or_ge k n with hlt | hge
    · have t1 : decide ((k : Int) < (n : Int)) = true := by simp; omega
      go_wp2_with (go_at_call 100; refine (c_times w.heap.size _ (k + 1) sz (pwd sz k) _ (by omega) (by omega) (pwd_lt sz hsb k) hsb HR.out).mono ?_; rintro e w3 ⟨d3, rfl, ho3, hb3⟩; (have HR3 := Lib.hid ho3); (have HB3 := Lib.hid hb3); clear ho3 hb3)
      go_roundw
      case rel => exact ⟨k + 1, hlt, by simp, Joins.ownsRow_le HR3.out HE.out.size, HE.out.trans (HB3.out.mono HE.out.size)⟩
      case measure => simp [intOf]; omega
    · have hkn : k = n := by omega
      subst hkn
      have t1 : decide ((k : Int) < (k : Int)) = false := by simp
      have t2 : (k : Int).tmod 2 = 1 := by have := HS.out; rw [Int.tmod_eq_emod_of_nonneg (by omega)]; omega
      have t3 : (k : Int) % 2 = 1 := by have := HS.out; omega
      have hgz : ∀ j, k + 1 ≤ j → atd (pwd sz k) (k + 1) j = 0 := fun j hj => by unfold atd; rw [if_neg (by omega)]
      have hgl : ∀ j, atd (pwd sz k) (k + 1) j < B64 := fun j => atd_lt _ _ _ (pwd_lt sz hsb k)
      have hV : valTo (atd (pwd sz k) (k + 1)) (k + 1) = sz ^ k := by
        rw [valTo_congr (g := pwd sz k) (fun j hj => by simp [atd, hj]), valTo_pwd]
      have hD : 4294967296 ^ (k - 1) = B64 ^ s := by rw [HS.out, show 2 * s + 1 - 1 = 2 * s by omega]; exact D_even s
      have HGZ := Lib.hid hgz; clear hgz
      have HGL := Lib.hid hgl; clear hgl
      have HVV := Lib.hid hV; clear hV
      have HD := Lib.hid hD; clear hD
      go_wp2_with (fail)
      go_at_call 101
      refine (c_high0 w.heap.size _ (k + 1) s _ (pwd sz k) _ (by omega) (by omega) (by have := HS.out; omega) (by have := HS.out; omega) (pwd_lt sz hsb k) HE.out.size HR.out).mono ?_
      rintro e w3 ⟨hb3, q, r, ft, rfl, hft, hff⟩
      have HB3 := Lib.hid hb3
      have HFT := Lib.hid hft
      have HFF := Lib.hid hff
      clear hb3 hft hff
      cases ft
      · have hbig : 4503599627370496 < v.natAbs ^ k / 4294967296 ^ (k - 1) := by
          have h := high0_big _ s (k + 1) HGL.out HGZ.out (HFF.out rfl)
          rw [HVV.out, ← HD.out, HSZ.out] at h
          simp only [B64] at h
          exact Nat.lt_of_lt_of_le (by decide) h
        have HP := Lib.hid (pwS_big v k hbig)
        clear hbig
        go_wp2_with (fail)
        refine bodyPost_ret (v := .tuple #[.int .i64 0, .int .i64 0, .int .i64 6]) (by simp [results, Tryd.results76, go_sem, *]) rfl ⟨by rw [HP.out], HE.out.trans (HB3.out.mono HE.out.size)⟩
      · have hqr : q = v.natAbs ^ k / 4294967296 ^ (k - 1) ∧ r = decide (v.natAbs ^ k % 4294967296 ^ (k - 1) ≠ 0) := by
          obtain ⟨f1, f2, f3, f4⟩ := HFT.out rfl
          obtain ⟨g1, g2⟩ := high0_fits _ s (k + 1) HGL.out HGZ.out f1 f2
          rw [HVV.out, ← HD.out] at g1 g2
          have hqq : q = v.natAbs ^ k / 4294967296 ^ (k - 1) := by rw [← HSZ.out, g1, f3]
          have hrr : r = decide (v.natAbs ^ k % 4294967296 ^ (k - 1) ≠ 0) := by rw [← HSZ.out, g2, f4]
          exact ⟨hqq, hrr⟩
        obtain ⟨hqq, hrr⟩ := hqr
        have HQQ := Lib.hid hqq
        have HRR := Lib.hid hrr
        clear hqq hrr
        rcases Nat.lt_or_ge 4503599627370496 q with hq | hq
        · have t5 : decide ((4503599627370496 : Int) < (q : Int)) = true := by simp; omega
          have HP := Lib.hid (pwS_big v k (by rw [← HQQ.out]; exact hq))
          go_wp2_with (fail)
          refine bodyPost_ret (v := .tuple #[.int .i64 0, .int .i64 0, .int .i64 6]) (by simp [results, Tryd.results76, go_sem, *]) rfl ⟨by rw [HP.out], HE.out.trans (HB3.out.mono HE.out.size)⟩
        · have t5 : decide ((4503599627370496 : Int) < (q : Int)) = false := by simp; omega
          have hq' : (q : Int) ≤ 4503599627370496 := by omega
          rcases Int.lt_or_le v 0 with hv | hv
          · have t6 : decide (v < 0) = true := by simp; omega
            have HP := Lib.hid (pwS_fits v k q r _ HQQ.out hq HRR.out rfl)
            rw [show decide (v < 0 ∧ k % 2 = 1) = true by have := HS.out; simp; omega] at HP
            cases r
            · go_wp2_with (fail)
              refine bodyPost_ret (v := .tuple #[.int .i64 (-(q : Int)), .int .i64 (-(q : Int)), .int .i64 0]) (by simp [results, Tryd.results76, go_sem, *]) rfl ⟨by rw [HP.out]; rfl, HE.out.trans (HB3.out.mono HE.out.size)⟩
            · go_wp2_with (fail)
              refine bodyPost_ret (v := .tuple #[.int .i64 (-((q : Int) + 1)), .int .i64 (-(q : Int)), .int .i64 0]) (by simp [results, Tryd.results76, go_sem, *]) rfl ⟨by rw [HP.out]; rfl, HE.out.trans (HB3.out.mono HE.out.size)⟩
          · have t6 : decide (v < 0) = false := by simp; omega
            have HP := Lib.hid (pwS_fits v k q r _ HQQ.out hq HRR.out rfl)
            rw [show decide (v < 0 ∧ k % 2 = 1) = false by simp; omega] at HP
            cases r
            · go_wp2_with (fail)
              refine bodyPost_ret (v := .tuple #[.int .i64 ((q : Int)), .int .i64 ((q : Int)), .int .i64 0]) (by simp [results, Tryd.results76, go_sem, *]) rfl ⟨by rw [HP.out]; rfl, HE.out.trans (HB3.out.mono HE.out.size)⟩
            · go_wp2_with (fail)
              refine bodyPost_ret (v := .tuple #[.int .i64 ((q : Int)), .int .i64 ((q : Int) + 1), .int .i64 0]) (by simp [results, Tryd.results76, go_sem, *]) rfl ⟨by rw [HP.out]; rfl, HE.out.trans (HB3.out.mono HE.out.size)⟩

set_option maxHeartbeats 1000000 in
theorem c_power0 (v : Int) (n s : Nat) (N : Int) (hN : N = (n : Int)) (hs : n = 2 * s + 2) (hn2 : n ≤ 16) (hv : v.natAbs ≤ 4503599627370496) (w : World) :
    Calls Tryd.prog 76 #[.int .i64 v, .int .i64 N] w fun e w' => e = .returned (.tuple #[.int .i64 (pwS v n).1, .int .i64 (pwS v n).2.1, .int .i64 (pwS v n).2.2]) ∧ Below w.heap.size w w' := by
  subst hN
  obtain ⟨sz, hsz⟩ : ∃ sz, sz = v.natAbs := ⟨_, rfl⟩
  have hm : max v (-v) = (sz : Int) := by omega
  have hsb : sz < 18446744073709551616 := by omega
  have hb1 : (sz : Int) < 18446744073709551616 := by omega
  have HM := Lib.hid hm
  have HV := Lib.hid hv; clear hv
  have HS := Lib.hid hs; clear hs
  have HSZ := Lib.hid hsz; clear hsz
  have hw1 : wrap64 (-v) = -v := by unfold wrap64; have := HV.out; omega
  have hw2 : IntKind.u64.wrap (max v (wrap64 (-v))) = (sz : Int) := by rw [hw1, hm]; simp [IntKind.wrap, IntKind.bits, IntKind.signed]; omega
  go_enter Tryd.func76, Tryd.ntmps76
  go_wp2
  rw [hw1]
  clear hw2 hw1 hm
  have HO : (w.alloc (Obj.cells #[Value.int .u64 1] 48)).ownsRow w.heap.size 48 1 (.slice (some ⟨w.heap.size, 0, none⟩) 1 1) 1 (cellsOf (pwd sz 0) 1) :=
    ⟨rfl, .inr ⟨w.heap.size, 1, #[Value.int .u64 1], rfl, Nat.le_refl _, heap_alloc_new w _, Nat.le_refl _, by decide, rfl, rfl⟩⟩
  have HB : Below w.heap.size w (w.alloc (Obj.cells #[Value.int .u64 1] 48)) := (Below.refl _ w).alloc (Nat.le_refl _) _
  have HO := Lib.hid HO
  have HB := Lib.hid HB
  go_loopw [8, 19] (fun d i wr => ∃ k : Nat, k ≤ n ∧ i = .int .i64 (k : Int) ∧ wr.ownsRow w.heap.size 48 1 d (k + 1) (cellsOf (pwd sz k) (k + 1)) ∧ Below w.heap.size w wr) (fun _ i _ => n - (intOf i).toNat)
  case atStart => exact ⟨0, Nat.zero_le _, rfl, HO.out, HB.out⟩
  case round =>
    obtain ⟨k, hk, rfl, hown, hbe⟩ := hrel
    have HR := Lib.hid hown; clear hown
    have HE := Lib.hid hbe; clear hbe
    rcases Nat.lt_or_ge k n with hlt | hge
    · have t1 : decide ((k : Int) < (n : Int)) = true := by simp; omega
      go_wp2_with (go_at_call 100; refine (c_times w.heap.size _ (k + 1) sz (pwd sz k) _ (by omega) (by omega) (pwd_lt sz hsb k) hsb HR.out).mono ?_; rintro e w3 ⟨d3, rfl, ho3, hb3⟩; (have HR3 := Lib.hid ho3); (have HB3 := Lib.hid hb3); clear ho3 hb3)
      go_roundw
      case rel => exact ⟨k + 1, hlt, by simp, Joins.ownsRow_le HR3.out HE.out.size, HE.out.trans (HB3.out.mono HE.out.size)⟩
      case measure => simp [intOf]; omega
    · have hkn : k = n := by omega
      subst hkn
      have t1 : decide ((k : Int) < (k : Int)) = false := by simp
      have t2 : (k : Int).tmod 2 = 0 := by have := HS.out; rw [Int.tmod_eq_emod_of_nonneg (by omega)]; omega
      have t3 : (k : Int) % 2 = 0 := by have := HS.out; omega
      have hgz : ∀ j, k + 1 ≤ j → atd (pwd sz k) (k + 1) j = 0 := fun j hj => by unfold atd; rw [if_neg (by omega)]
      have hgl : ∀ j, atd (pwd sz k) (k + 1) j < B64 := fun j => atd_lt _ _ _ (pwd_lt sz hsb k)
      have hV : valTo (atd (pwd sz k) (k + 1)) (k + 1) = sz ^ k := by
        rw [valTo_congr (g := pwd sz k) (fun j hj => by simp [atd, hj]), valTo_pwd]
      have hD : 4294967296 ^ (k - 1) = (B64 ^ s * 4294967296) := by rw [HS.out, show 2 * s + 2 - 1 = 2 * s + 1 by omega]; exact D_odd s
      have HGZ := Lib.hid hgz; clear hgz
      have HGL := Lib.hid hgl; clear hgl
      have HVV := Lib.hid hV; clear hV
      have HD := Lib.hid hD; clear hD
      go_wp2_with (fail)
      go_at_call 101
      refine (c_high32 w.heap.size _ (k + 1) s _ (pwd sz k) _ (by omega) (by omega) (by have := HS.out; omega) (by have := HS.out; omega) (pwd_lt sz hsb k) HE.out.size HR.out).mono ?_
      rintro e w3 ⟨hb3, q, r, ft, rfl, hft, hff⟩
      have HB3 := Lib.hid hb3
      have HFT := Lib.hid hft
      have HFF := Lib.hid hff
      clear hb3 hft hff
      cases ft
      · have hbig : 4503599627370496 < v.natAbs ^ k / 4294967296 ^ (k - 1) := by
          have h := high32_big _ s (k + 1) HGL.out HGZ.out (HFF.out rfl)
          rw [HVV.out, ← HD.out, HSZ.out] at h
          simp only [B64] at h
          exact Nat.lt_of_lt_of_le (by decide) h
        have HP := Lib.hid (pwS_big v k hbig)
        clear hbig
        go_wp2_with (fail)
        refine bodyPost_ret (v := .tuple #[.int .i64 0, .int .i64 0, .int .i64 6]) (by simp [results, Tryd.results76, go_sem, *]) rfl ⟨by rw [HP.out], HE.out.trans (HB3.out.mono HE.out.size)⟩
      · have hqr : q = v.natAbs ^ k / 4294967296 ^ (k - 1) ∧ r = decide (v.natAbs ^ k % 4294967296 ^ (k - 1) ≠ 0) := by
          obtain ⟨f1, f2, f3, f4⟩ := HFT.out rfl
          obtain ⟨g1, g2⟩ := high32_fits _ s (k + 1) HGL.out HGZ.out f2
          rw [HVV.out, ← HD.out] at g1 g2
          have hqq : q = v.natAbs ^ k / 4294967296 ^ (k - 1) := by rw [← HSZ.out, g1, f3]
          have hrr : r = decide (v.natAbs ^ k % 4294967296 ^ (k - 1) ≠ 0) := by
            rw [f4, ← HSZ.out]
            by_cases e1 : valTo (atd (pwd sz k) (k + 1)) s = 0 <;> by_cases e2 : atd (pwd sz k) (k + 1) s % 4294967296 = 0 <;> simp [g2, e1, e2]
          exact ⟨hqq, hrr⟩
        obtain ⟨hqq, hrr⟩ := hqr
        have HQQ := Lib.hid hqq
        have HRR := Lib.hid hrr
        clear hqq hrr
        rcases Nat.lt_or_ge 4503599627370496 q with hq | hq
        · have t5 : decide ((4503599627370496 : Int) < (q : Int)) = true := by simp; omega
          have HP := Lib.hid (pwS_big v k (by rw [← HQQ.out]; exact hq))
          go_wp2_with (fail)
          refine bodyPost_ret (v := .tuple #[.int .i64 0, .int .i64 0, .int .i64 6]) (by simp [results, Tryd.results76, go_sem, *]) rfl ⟨by rw [HP.out], HE.out.trans (HB3.out.mono HE.out.size)⟩
        · have t5 : decide ((4503599627370496 : Int) < (q : Int)) = false := by simp; omega
          have hq' : (q : Int) ≤ 4503599627370496 := by omega
          rcases Int.lt_or_le v 0 with hv | hv
          · have t6 : decide (v < 0) = true := by simp; omega
            have HP := Lib.hid (pwS_fits v k q r _ HQQ.out hq HRR.out rfl)
            rw [show decide (v < 0 ∧ k % 2 = 1) = false by have := HS.out; simp; omega] at HP
            cases r
            · go_wp2_with (fail)
              refine bodyPost_ret (v := .tuple #[.int .i64 ((q : Int)), .int .i64 ((q : Int)), .int .i64 0]) (by simp [results, Tryd.results76, go_sem, *]) rfl ⟨by rw [HP.out]; rfl, HE.out.trans (HB3.out.mono HE.out.size)⟩
            · go_wp2_with (fail)
              refine bodyPost_ret (v := .tuple #[.int .i64 ((q : Int)), .int .i64 ((q : Int) + 1), .int .i64 0]) (by simp [results, Tryd.results76, go_sem, *]) rfl ⟨by rw [HP.out]; rfl, HE.out.trans (HB3.out.mono HE.out.size)⟩
          · have t6 : decide (v < 0) = false := by simp; omega
            have HP := Lib.hid (pwS_fits v k q r _ HQQ.out hq HRR.out rfl)
            rw [show decide (v < 0 ∧ k % 2 = 1) = false by simp; omega] at HP
            cases r
            · go_wp2_with (fail)
              refine bodyPost_ret (v := .tuple #[.int .i64 ((q : Int)), .int .i64 ((q : Int)), .int .i64 0]) (by simp [results, Tryd.results76, go_sem, *]) rfl ⟨by rw [HP.out]; rfl, HE.out.trans (HB3.out.mono HE.out.size)⟩
            · go_wp2_with (fail)
              refine bodyPost_ret (v := .tuple #[.int .i64 ((q : Int)), .int .i64 ((q : Int) + 1), .int .i64 0]) (by simp [results, Tryd.results76, go_sem, *]) rfl ⟨by rw [HP.out]; rfl, HE.out.trans (HB3.out.mono HE.out.size)⟩

end Go.Proofs.YtpdaigenffecmaaDoor

namespace Go.Proofs.YtpdaigenffecmaaDoor

/-- The ends of the absolute value. -/
def abLo (a : Int × Int) : Int := max (max a.1 (-a.2)) 0
def abHi (a : Int × Int) : Int := max a.2 (-a.1)

/-- The power of a valid interval, from the powers of its ends. -/
def spPowOf (p q : Int × Int × Int) : Int × Int × Int := if p.2.2 ≠ 0 ∨ q.2.2 ≠ 0 then (0, 0, 6) else spTold p.1 q.2.1

def spPow (a : Int × Int) (n : Int) : Int × Int × Int :=
  if spChk a ≠ 0 then (0, 0, 20) else
  if n < 0 ∨ 16 < n then (0, 0, 2) else
  if n = 0 then (4294967296, 4294967296, 0) else
  if n % 2 = 0 then spPowOf (pwS (abLo a) n.toNat) (pwS (abHi a) n.toNat)
  else spPowOf (pwS a.1 n.toNat) (pwS a.2 n.toNat)

theorem spAbs_eq (a : Int × Int) (h : spChk a = 0) : spAbs a = (abLo a, abHi a, 0) := by
  obtain ⟨h1, h2, h3⟩ := spChk_ok h
  unfold spAbs spTold abLo abHi; rw [if_pos h, if_neg (by omega)]

theorem spPow_bad (a : Int × Int) (n : Int) (h : spChk a = 20) : spPow a n = (0, 0, 20) := by
  unfold spPow; rw [if_pos (by omega)]
theorem spPow_arg (a : Int × Int) (n : Int) (h : spChk a = 0) (hn : n < 0 ∨ 16 < n) : spPow a n = (0, 0, 2) := by
  unfold spPow; rw [if_neg (by omega), if_pos hn]
theorem spPow_zero (a : Int × Int) (h : spChk a = 0) : spPow a 0 = (4294967296, 4294967296, 0) := by
  unfold spPow; rw [if_neg (by omega)]; simp
theorem spPow_even (a : Int × Int) (n : Nat) (h : spChk a = 0) (h0 : 1 ≤ n) (h1 : n ≤ 16) (h2 : n % 2 = 0) : spPow a (n : Int) = spPowOf (pwS (abLo a) n) (pwS (abHi a) n) := by
  unfold spPow; rw [if_neg (by omega), if_neg (by omega), if_neg (by omega), if_pos (by omega)]; rfl
theorem spPow_odd (a : Int × Int) (n : Nat) (h : spChk a = 0) (h1 : n ≤ 16) (h2 : n % 2 = 1) : spPow a (n : Int) = spPowOf (pwS a.1 n) (pwS a.2 n) := by
  unfold spPow; rw [if_neg (by omega), if_neg (by omega), if_neg (by omega), if_neg (by omega)]; rfl

theorem spPowOf_bad (p q : Int × Int × Int) (h : p.2.2 ≠ 0 ∨ q.2.2 ≠ 0) : spPowOf p q = (0, 0, 6) := by unfold spPowOf; rw [if_pos h]
theorem spPowOf_ok (p q : Int × Int × Int) (h1 : p.2.2 = 0) (h2 : q.2.2 = 0) : spPowOf p q = spTold p.1 q.2.1 := by unfold spPowOf; rw [if_neg (by omega)]

end Go.Proofs.YtpdaigenffecmaaDoor

namespace Go.Proofs.YtpdaigenffecmaaDoor

abbrev UU : Int := 4294967296

/-! ### Corners -/
theorem lin_le {c M b1 b2 Y : Int} (h1 : b1 ≤ Y) (h2 : Y ≤ b2) (m1 : M ≤ c * b1) (m2 : M ≤ c * b2) : M ≤ c * Y := by
  rcases Int.le_total 0 c with h | h
  · exact Int.le_trans m1 (Int.mul_le_mul_of_nonneg_left h1 h)
  · exact Int.le_trans m2 (Int.mul_le_mul_of_nonpos_left h h2)
theorem lin_ge {c M b1 b2 Y : Int} (h1 : b1 ≤ Y) (h2 : Y ≤ b2) (m1 : c * b1 ≤ M) (m2 : c * b2 ≤ M) : c * Y ≤ M := by
  rcases Int.le_total 0 c with h | h
  · exact Int.le_trans (Int.mul_le_mul_of_nonneg_left h2 h) m2
  · exact Int.le_trans (Int.mul_le_mul_of_nonpos_left h h1) m1
theorem corner_le {M a1 a2 x b1 b2 Y : Int} (h1 : a1 ≤ x) (h2 : x ≤ a2) (k1 : b1 ≤ Y) (k2 : Y ≤ b2) (m1 : M ≤ a1 * b1) (m2 : M ≤ a1 * b2) (m3 : M ≤ a2 * b1) (m4 : M ≤ a2 * b2) : M ≤ x * Y := by
  have e1 := lin_le k1 k2 m1 m2
  have e2 := lin_le k1 k2 m3 m4
  rw [Int.mul_comm] at e1 e2 ⊢
  exact lin_le h1 h2 e1 e2
theorem corner_ge {M a1 a2 x b1 b2 Y : Int} (h1 : a1 ≤ x) (h2 : x ≤ a2) (k1 : b1 ≤ Y) (k2 : Y ≤ b2) (m1 : a1 * b1 ≤ M) (m2 : a1 * b2 ≤ M) (m3 : a2 * b1 ≤ M) (m4 : a2 * b2 ≤ M) : x * Y ≤ M := by
  have e1 := lin_ge k1 k2 m1 m2
  have e2 := lin_ge k1 k2 m3 m4
  rw [Int.mul_comm] at e1 e2 ⊢
  exact lin_ge h1 h2 e1 e2

/-! ### Rounding -/
theorem rnd_lo (n d : Int) (hd : 0 < d) : rnd n d false * d ≤ n := by
  unfold rnd; simp only [Bool.false_eq_true, if_false]
  have := Int.ediv_mul_le n (show d ≠ 0 by omega)
  exact this
theorem rnd_hi (n d : Int) (hd : 0 < d) : n ≤ rnd n d true * d := by
  unfold rnd; simp only [if_true]
  have := Int.ediv_mul_le (-n) (show d ≠ 0 by omega)
  rw [Int.neg_mul]; omega
theorem le_rnd_lo {n d v : Int} (hd : 0 < d) (h : v * d ≤ n) : v ≤ rnd n d false := by
  unfold rnd; simp only [Bool.false_eq_true, if_false]
  exact (Int.le_ediv_iff_mul_le hd).2 h
theorem rnd_hi_le {n d v : Int} (hd : 0 < d) (h : n ≤ v * d) : rnd n d true ≤ v := by
  unfold rnd; simp only [if_true]
  have : -v ≤ (-n) / d := (Int.le_ediv_iff_mul_le hd).2 (by rw [Int.neg_mul]; omega)
  omega
theorem rnd_le_rnd (n d : Int) (hd : 0 < d) : rnd n d false ≤ rnd n d true := by
  have h1 := rnd_lo n d hd
  have h2 := rnd_hi n d hd
  rcases Int.lt_or_le (rnd n d true) (rnd n d false) with h | h
  · have := Int.mul_lt_mul_of_pos_right h hd
    omega
  · exact h
theorem fit_ok {r : Int} (h : (fit r).2 = 0) : (fit r).1 = r ∧ -4503599627370496 ≤ r ∧ r ≤ 4503599627370496 := by
  unfold fit at *
  split at h
  · simp at h
  · exact ⟨by rw [if_neg (by assumption)], by omega, by omega⟩
theorem fit_mk {r : Int} (h1 : -4503599627370496 ≤ r) (h2 : r ≤ 4503599627370496) : fit r = (r, 0) := by
  unfold fit; rw [if_neg (by omega)]

/-! ### The four corners of an operation that rounds n x y by d x y -/
theorem told_ok {lo hi : Int} (h : (spTold lo hi).2.2 = 0) : spTold lo hi = (lo, hi, 0) ∧ -4503599627370496 ≤ lo ∧ hi ≤ 4503599627370496 := by
  unfold spTold at *
  split at h
  · simp at h
  · exact ⟨by rw [if_neg (by assumption)], by omega, by omega⟩
theorem told_mk {lo hi : Int} (h1 : -4503599627370496 ≤ lo) (h2 : hi ≤ 4503599627370496) : spTold lo hi = (lo, hi, 0) := by
  unfold spTold; rw [if_neg (by omega)]
/-- What it says that a result's four corners are met. -/
theorem four_ok {f : Int → Int → Bool → Int × Int} {n d : Int → Int → Int} {a b : Int × Int}
    (hf : ∀ x y up, (x = a.1 ∨ x = a.2) → (y = b.1 ∨ y = b.2) → f x y up = fit (rnd (n x y) (d x y) up)) (h : (spFour f a b).2.2 = 0) :
    (spFour f a b).2.1 ≤ 4503599627370496 ∧ -4503599627370496 ≤ (spFour f a b).1 ∧
    ∀ x y, (x = a.1 ∨ x = a.2) → (y = b.1 ∨ y = b.2) → (spFour f a b).1 ≤ rnd (n x y) (d x y) false ∧ rnd (n x y) (d x y) true ≤ (spFour f a b).2.1 := by
  unfold spFour at *
  split at h
  · simp at h
  · rename_i hc
    obtain ⟨ht, hl, hu⟩ := told_ok h
    rw [if_neg hc, ht]
    simp only [not_or, Decidable.not_not] at hc
    obtain ⟨c1, c2, c3, c4, c5, c6, c7, c8⟩ := hc
    refine ⟨hu, hl, ?_⟩
    have L : ∀ x y up, (x = a.1 ∨ x = a.2) → (y = b.1 ∨ y = b.2) → (f x y up).2 = 0 → (f x y up).1 = rnd (n x y) (d x y) up := by
      intro x y up hx hy h0
      rw [hf x y up hx hy] at *
      exact (fit_ok h0).1
    intro x y hx hy
    simp only
    rcases hx with rfl | rfl <;> rcases hy with rfl | rfl
    · rw [← L a.1 b.1 false (.inl rfl) (.inl rfl) c1, ← L a.1 b.1 true (.inl rfl) (.inl rfl) c2]; omega
    · rw [← L a.1 b.2 false (.inl rfl) (.inr rfl) c3, ← L a.1 b.2 true (.inl rfl) (.inr rfl) c4]; omega
    · rw [← L a.2 b.1 false (.inr rfl) (.inl rfl) c5, ← L a.2 b.1 true (.inr rfl) (.inl rfl) c6]; omega
    · rw [← L a.2 b.2 false (.inr rfl) (.inr rfl) c7, ← L a.2 b.2 true (.inr rfl) (.inr rfl) c8]; omega
/-- Corners that lie between l and u. -/
theorem four_mk {f : Int → Int → Bool → Int × Int} {n d : Int → Int → Int} {a b : Int × Int} {l u : Int}
    (hf : ∀ x y up, (x = a.1 ∨ x = a.2) → (y = b.1 ∨ y = b.2) → f x y up = fit (rnd (n x y) (d x y) up)) (hd : ∀ x y, (x = a.1 ∨ x = a.2) → (y = b.1 ∨ y = b.2) → 0 < d x y)
    (hl : -4503599627370496 ≤ l) (hu : u ≤ 4503599627370496)
    (h : ∀ x y, (x = a.1 ∨ x = a.2) → (y = b.1 ∨ y = b.2) → l ≤ rnd (n x y) (d x y) false ∧ rnd (n x y) (d x y) true ≤ u) :
    (spFour f a b).2.2 = 0 ∧ l ≤ (spFour f a b).1 ∧ (spFour f a b).2.1 ≤ u ∧ (spFour f a b).1 ≤ (spFour f a b).2.1 := by
  have L : ∀ x y, (x = a.1 ∨ x = a.2) → (y = b.1 ∨ y = b.2) → f x y false = (rnd (n x y) (d x y) false, 0) ∧ f x y true = (rnd (n x y) (d x y) true, 0) := by
    intro x y hx hy
    obtain ⟨h1, h2⟩ := h x y hx hy
    have h3 := rnd_le_rnd (n x y) (d x y) (hd x y hx hy)
    rw [hf x y false hx hy, hf x y true hx hy, fit_mk (by omega) (by omega), fit_mk (by omega) (by omega)]
    exact ⟨rfl, rfl⟩
  have h1 := h a.1 b.1 (.inl rfl) (.inl rfl)
  have h2 := h a.1 b.2 (.inl rfl) (.inr rfl)
  have h3 := h a.2 b.1 (.inr rfl) (.inl rfl)
  have h4 := h a.2 b.2 (.inr rfl) (.inr rfl)
  have g1 := rnd_le_rnd (n a.1 b.1) (d a.1 b.1) (hd _ _ (.inl rfl) (.inl rfl))
  unfold spFour
  obtain ⟨p1, p2⟩ := L a.1 b.1 (.inl rfl) (.inl rfl)
  obtain ⟨p3, p4⟩ := L a.1 b.2 (.inl rfl) (.inr rfl)
  obtain ⟨p5, p6⟩ := L a.2 b.1 (.inr rfl) (.inl rfl)
  obtain ⟨p7, p8⟩ := L a.2 b.2 (.inr rfl) (.inr rfl)
  rw [p1, p2, p3, p4, p5, p6, p7, p8]
  simp only
  rw [if_neg (by simp), told_mk (by omega) (by omega)]
  exact ⟨rfl, by simp only; omega, by simp only; omega, by simp only; omega⟩

/-- An interval within another one. -/
def Wi (c a : Int × Int) : Prop := a.1 ≤ c.1 ∧ c.2 ≤ a.2
theorem fxMul_rnd {a b : Int × Int} (ha : spChk a = 0) (hb : spChk b = 0) : ∀ x y up, (x = a.1 ∨ x = a.2) → (y = b.1 ∨ y = b.2) → fxMul x y up = fit (rnd (x * y) UU up) := by
  intro x y up hx hy
  obtain ⟨h1, h2, h3⟩ := spChk_ok ha
  obtain ⟨k1, k2, k3⟩ := spChk_ok hb
  unfold fxMul
  rw [if_pos]
  unfold fxAll
  rw [if_pos (fxChk_mk (by omega) (by omega))]
  exact fxChk_mk (by omega) (by omega)
/-- The product contains the products: y is a fraction with the denominator K. -/
theorem spMul_has {a b : Int × Int} {x Y K : Int} (ha : spChk a = 0) (hb : spChk b = 0) (h : (spMul a b).2.2 = 0) (hK : 0 < K) (h1 : a.1 ≤ x) (h2 : x ≤ a.2) (k1 : b.1 * K ≤ Y) (k2 : Y ≤ b.2 * K) :
    (spMul a b).1 * UU * K ≤ x * Y ∧ x * Y ≤ (spMul a b).2.1 * UU * K := by
  have e : spMul a b = spFour fxMul a b := by unfold spMul spAll; rw [if_pos ha, if_pos hb]
  rw [e] at h ⊢
  obtain ⟨_, _, hc⟩ := four_ok (n := fun x y => x * y) (d := fun _ _ => UU) (fxMul_rnd ha hb) h
  have lo : ∀ p q, (p = a.1 ∨ p = a.2) → (q = b.1 ∨ q = b.2) → (spFour fxMul a b).1 * UU * K ≤ p * (q * K) := by
    intro p q hp hq
    have h1 := (hc p q hp hq).1
    have h2 := rnd_lo (p * q) UU (by decide)
    have h3 : (spFour fxMul a b).1 * UU ≤ p * q := Int.le_trans (Int.mul_le_mul_of_nonneg_right h1 (by decide)) h2
    have := Int.mul_le_mul_of_nonneg_right h3 (Int.le_of_lt hK)
    rwa [Int.mul_assoc p q K] at this
  have up : ∀ p q, (p = a.1 ∨ p = a.2) → (q = b.1 ∨ q = b.2) → p * (q * K) ≤ (spFour fxMul a b).2.1 * UU * K := by
    intro p q hp hq
    have h1 := (hc p q hp hq).2
    have h2 := rnd_hi (p * q) UU (by decide)
    have h3 : p * q ≤ (spFour fxMul a b).2.1 * UU := Int.le_trans h2 (Int.mul_le_mul_of_nonneg_right h1 (by decide))
    have := Int.mul_le_mul_of_nonneg_right h3 (Int.le_of_lt hK)
    rwa [Int.mul_assoc p q K] at this
  exact ⟨corner_le h1 h2 k1 k2 (lo _ _ (.inl rfl) (.inl rfl)) (lo _ _ (.inl rfl) (.inr rfl)) (lo _ _ (.inr rfl) (.inl rfl)) (lo _ _ (.inr rfl) (.inr rfl)),
    corner_ge h1 h2 k1 k2 (up _ _ (.inl rfl) (.inl rfl)) (up _ _ (.inl rfl) (.inr rfl)) (up _ _ (.inr rfl) (.inl rfl)) (up _ _ (.inr rfl) (.inr rfl))⟩
theorem spMul_in {a b : Int × Int} {x y : Int} (ha : spChk a = 0) (hb : spChk b = 0) (h : (spMul a b).2.2 = 0) (h1 : a.1 ≤ x) (h2 : x ≤ a.2) (k1 : b.1 ≤ y) (k2 : y ≤ b.2) :
    (spMul a b).1 * UU ≤ x * y ∧ x * y ≤ (spMul a b).2.1 * UU := by
  have := spMul_has (K := 1) ha hb h (by decide) h1 h2 (by omega) (by omega : y ≤ b.2 * 1)
  simpa using this
theorem spMul_narrow {a b c d : Int × Int} (ha : spChk a = 0) (hb : spChk b = 0) (hc : spChk c = 0) (hd : spChk d = 0) (hca : Wi c a) (hdb : Wi d b) (h : (spMul a b).2.2 = 0) :
    (spMul c d).2.2 = 0 ∧ (spMul a b).1 ≤ (spMul c d).1 ∧ (spMul c d).2.1 ≤ (spMul a b).2.1 := by
  have e : spMul c d = spFour fxMul c d := by unfold spMul spAll; rw [if_pos hc, if_pos hd]
  have e' : spMul a b = spFour fxMul a b := by unfold spMul spAll; rw [if_pos ha, if_pos hb]
  have h' := h
  rw [e'] at h'
  obtain ⟨hu, hl, _⟩ := four_ok (n := fun x y => x * y) (d := fun _ _ => UU) (fxMul_rnd ha hb) h'
  obtain ⟨c1, c2, c3⟩ := spChk_ok hc
  obtain ⟨d1, d2, d3⟩ := spChk_ok hd
  obtain ⟨w1, w2⟩ := hca
  obtain ⟨w3, w4⟩ := hdb
  have key := four_mk (f := fxMul) (a := c) (b := d) (n := fun x y => x * y) (d := fun _ _ => UU) (fxMul_rnd hc hd) (fun _ _ _ _ => by decide) hl hu (fun x y hx hy => by
    have := spMul_in (x := x) (y := y) ha hb h (by omega) (by omega) (by omega) (by omega)
    rw [e'] at this
    exact ⟨le_rnd_lo (by decide) this.1, rnd_hi_le (by decide) this.2⟩)
  rw [e, e']
  exact ⟨key.1, key.2.1, key.2.2.1⟩

/-! ### Sums -/
theorem spAdd_eq {a b : Int × Int} (ha : spChk a = 0) (hb : spChk b = 0) : spAdd a b = spTold (a.1 + b.1) (a.2 + b.2) := by unfold spAdd spAll; rw [if_pos ha, if_pos hb]
theorem spSub_eq {a b : Int × Int} (ha : spChk a = 0) (hb : spChk b = 0) : spSub a b = spTold (a.1 - b.2) (a.2 - b.1) := by unfold spSub spAll; rw [if_pos ha, if_pos hb]
theorem spAdd_narrow {a b c d : Int × Int} (ha : spChk a = 0) (hb : spChk b = 0) (hc : spChk c = 0) (hd : spChk d = 0) (hca : Wi c a) (hdb : Wi d b) (h : (spAdd a b).2.2 = 0) :
    (spAdd c d).2.2 = 0 ∧ (spAdd a b).1 ≤ (spAdd c d).1 ∧ (spAdd c d).2.1 ≤ (spAdd a b).2.1 := by
  rw [spAdd_eq ha hb] at *
  rw [spAdd_eq hc hd]
  obtain ⟨e, h1, h2⟩ := told_ok h
  obtain ⟨c1, c2, c3⟩ := spChk_ok hc
  obtain ⟨d1, d2, d3⟩ := spChk_ok hd
  obtain ⟨w1, w2⟩ := hca
  obtain ⟨w3, w4⟩ := hdb
  rw [e, told_mk (by omega) (by omega)]
  exact ⟨rfl, by simp only; omega, by simp only; omega⟩
theorem spSub_narrow {a b c d : Int × Int} (ha : spChk a = 0) (hb : spChk b = 0) (hc : spChk c = 0) (hd : spChk d = 0) (hca : Wi c a) (hdb : Wi d b) (h : (spSub a b).2.2 = 0) :
    (spSub c d).2.2 = 0 ∧ (spSub a b).1 ≤ (spSub c d).1 ∧ (spSub c d).2.1 ≤ (spSub a b).2.1 := by
  rw [spSub_eq ha hb] at *
  rw [spSub_eq hc hd]
  obtain ⟨e, h1, h2⟩ := told_ok h
  obtain ⟨c1, c2, c3⟩ := spChk_ok hc
  obtain ⟨d1, d2, d3⟩ := spChk_ok hd
  obtain ⟨w1, w2⟩ := hca
  obtain ⟨w3, w4⟩ := hdb
  rw [e, told_mk (by omega) (by omega)]
  exact ⟨rfl, by simp only; omega, by simp only; omega⟩

end Go.Proofs.YtpdaigenffecmaaDoor
