/-
  The chapter's examples hold.
-/
import Derived.Test.YtpdaigenffecmaaM31
import Derived.Test.YtpdaigenffecmaaM32
set_option linter.all false
namespace Go.Proofs.Ytpdaigenffecmaa
open Go.RowKit Go.Shelf

theorem ev_check : chk3 0 1 0 0 0 0 0 3 = 20 := by kernel_rfl
set_option maxHeartbeats 2000000 in
theorem c_works (w : World) : Calls Try.prog 10 #[] w fun e w' => e = .returned (.bool true) ∧ Below w.heap.size w w' := by
  have HB : Hid (Below w.heap.size w w) := Below.refl _ _
  have hS : w.heap.size ≤ w.heap.size := Nat.le_refl _
  go_enter Try.func10, Try.ntmps10
  go_wp2_with (fail)
  go_at_call 35
  refine Calls.mono (c_of (5) (7) (9) (21474836480) (30064771072) (38654705664) (by decide) (by decide) (by decide) (by decide) _) ?_
  rintro e w1 ⟨rfl, hb⟩
  have hs := hb.size
  replace HB : Hid (Below w.heap.size w w1) := HB.out.trans (hb.mono (by omega))
  replace hS : w.heap.size ≤ w1.heap.size := by omega
  clear hb hs
  go_wp2_with (fail)
  go_at_call 33
  refine Calls.mono (c_is (21474836480) (21474836480) (30064771072) (30064771072) (38654705664) (38654705664) _) ?_
  rintro e w2 ⟨rfl, ⟨k0, k1, k2, k3, k4, k5⟩, hq, hb⟩
  have hs := hb.size
  replace HB : Hid (Below w.heap.size w w2) := HB.out.trans (hb.mono (by omega))
  replace hS : w.heap.size ≤ w2.heap.size := by omega
  clear hb hs
  go_wp2_with (fail)
  go_at_call 35
  refine Calls.mono (c_of (1) (2) (3) (4294967296) (8589934592) (12884901888) (by decide) (by decide) (by decide) (by decide) _) ?_
  rintro e w3 ⟨rfl, hb⟩
  have hs := hb.size
  replace k0 : w3.cell? ⟨w1.heap.size, 0, none⟩ = some (.int .i64 (21474836480)) := ((bcell hb).1 _ _ (by omega)).trans k0
  replace k1 : w3.cell? ⟨w1.heap.size, 1, none⟩ = some (.int .i64 (21474836480)) := ((bcell hb).1 _ _ (by omega)).trans k1
  replace k2 : w3.cell? ⟨w1.heap.size, 2, none⟩ = some (.int .i64 (30064771072)) := ((bcell hb).1 _ _ (by omega)).trans k2
  replace k3 : w3.cell? ⟨w1.heap.size, 3, none⟩ = some (.int .i64 (30064771072)) := ((bcell hb).1 _ _ (by omega)).trans k3
  replace k4 : w3.cell? ⟨w1.heap.size, 4, none⟩ = some (.int .i64 (38654705664)) := ((bcell hb).1 _ _ (by omega)).trans k4
  replace k5 : w3.cell? ⟨w1.heap.size, 5, none⟩ = some (.int .i64 (38654705664)) := ((bcell hb).1 _ _ (by omega)).trans k5
  replace hq : w1.heap.size < w3.heap.size := by omega
  replace HB : Hid (Below w.heap.size w w3) := HB.out.trans (hb.mono (by omega))
  replace hS : w.heap.size ≤ w3.heap.size := by omega
  clear hb hs
  go_wp2_with (fail)
  go_at_call 35
  refine Calls.mono (c_of (4) (5) (6) (17179869184) (21474836480) (25769803776) (by decide) (by decide) (by decide) (by decide) _) ?_
  rintro e w4 ⟨rfl, hb⟩
  have hs := hb.size
  replace k0 : w4.cell? ⟨w1.heap.size, 0, none⟩ = some (.int .i64 (21474836480)) := ((bcell hb).1 _ _ (by omega)).trans k0
  replace k1 : w4.cell? ⟨w1.heap.size, 1, none⟩ = some (.int .i64 (21474836480)) := ((bcell hb).1 _ _ (by omega)).trans k1
  replace k2 : w4.cell? ⟨w1.heap.size, 2, none⟩ = some (.int .i64 (30064771072)) := ((bcell hb).1 _ _ (by omega)).trans k2
  replace k3 : w4.cell? ⟨w1.heap.size, 3, none⟩ = some (.int .i64 (30064771072)) := ((bcell hb).1 _ _ (by omega)).trans k3
  replace k4 : w4.cell? ⟨w1.heap.size, 4, none⟩ = some (.int .i64 (38654705664)) := ((bcell hb).1 _ _ (by omega)).trans k4
  replace k5 : w4.cell? ⟨w1.heap.size, 5, none⟩ = some (.int .i64 (38654705664)) := ((bcell hb).1 _ _ (by omega)).trans k5
  replace hq : w1.heap.size < w4.heap.size := by omega
  replace HB : Hid (Below w.heap.size w w4) := HB.out.trans (hb.mono (by omega))
  replace hS : w.heap.size ≤ w4.heap.size := by omega
  clear hb hs
  go_wp2_with (fail)
  go_at_call 13
  refine Calls.mono (c_vecAdd (4294967296) (4294967296) (8589934592) (8589934592) (12884901888) (12884901888) (17179869184) (17179869184) (21474836480) (21474836480) (25769803776) (25769803776) _) ?_
  rw [ev0]
  rintro e w5 ⟨rfl, hb⟩
  have hs := hb.size
  replace k0 : w5.cell? ⟨w1.heap.size, 0, none⟩ = some (.int .i64 (21474836480)) := ((bcell hb).1 _ _ (by omega)).trans k0
  replace k1 : w5.cell? ⟨w1.heap.size, 1, none⟩ = some (.int .i64 (21474836480)) := ((bcell hb).1 _ _ (by omega)).trans k1
  replace k2 : w5.cell? ⟨w1.heap.size, 2, none⟩ = some (.int .i64 (30064771072)) := ((bcell hb).1 _ _ (by omega)).trans k2
  replace k3 : w5.cell? ⟨w1.heap.size, 3, none⟩ = some (.int .i64 (30064771072)) := ((bcell hb).1 _ _ (by omega)).trans k3
  replace k4 : w5.cell? ⟨w1.heap.size, 4, none⟩ = some (.int .i64 (38654705664)) := ((bcell hb).1 _ _ (by omega)).trans k4
  replace k5 : w5.cell? ⟨w1.heap.size, 5, none⟩ = some (.int .i64 (38654705664)) := ((bcell hb).1 _ _ (by omega)).trans k5
  replace hq : w1.heap.size < w5.heap.size := by omega
  replace HB : Hid (Below w.heap.size w w5) := HB.out.trans (hb.mono (by omega))
  replace hS : w.heap.size ≤ w5.heap.size := by omega
  clear hb hs
  go_wp2_with (fail)
  go_at_call 96
  refine Calls.mono (c_is1 (w1.heap.size) (21474836480) (21474836480) (30064771072) (30064771072) (38654705664) (38654705664) _ hq k0 k1 k2 k3 k4 k5) ?_
  rintro e w6 ⟨rfl, hb⟩
  have hs := hb.size
  replace k0 : w6.cell? ⟨w1.heap.size, 0, none⟩ = some (.int .i64 (21474836480)) := ((bcell hb).1 _ _ (by omega)).trans k0
  replace k1 : w6.cell? ⟨w1.heap.size, 1, none⟩ = some (.int .i64 (21474836480)) := ((bcell hb).1 _ _ (by omega)).trans k1
  replace k2 : w6.cell? ⟨w1.heap.size, 2, none⟩ = some (.int .i64 (30064771072)) := ((bcell hb).1 _ _ (by omega)).trans k2
  replace k3 : w6.cell? ⟨w1.heap.size, 3, none⟩ = some (.int .i64 (30064771072)) := ((bcell hb).1 _ _ (by omega)).trans k3
  replace k4 : w6.cell? ⟨w1.heap.size, 4, none⟩ = some (.int .i64 (38654705664)) := ((bcell hb).1 _ _ (by omega)).trans k4
  replace k5 : w6.cell? ⟨w1.heap.size, 5, none⟩ = some (.int .i64 (38654705664)) := ((bcell hb).1 _ _ (by omega)).trans k5
  replace hq : w1.heap.size < w6.heap.size := by omega
  replace HB : Hid (Below w.heap.size w w6) := HB.out.trans (hb.mono (by omega))
  replace hS : w.heap.size ≤ w6.heap.size := by omega
  clear hb hs
  clear hq k0 k1 k2 k3 k4 k5
  go_wp2_with (fail)
  go_at_call 35
  refine Calls.mono (c_of (-3) (-3) (-3) (-12884901888) (-12884901888) (-12884901888) (by decide) (by decide) (by decide) (by decide) _) ?_
  rintro e w7 ⟨rfl, hb⟩
  have hs := hb.size
  replace HB : Hid (Below w.heap.size w w7) := HB.out.trans (hb.mono (by omega))
  replace hS : w.heap.size ≤ w7.heap.size := by omega
  clear hb hs
  go_wp2_with (fail)
  go_at_call 33
  refine Calls.mono (c_is (-12884901888) (-12884901888) (-12884901888) (-12884901888) (-12884901888) (-12884901888) _) ?_
  rintro e w8 ⟨rfl, ⟨k0, k1, k2, k3, k4, k5⟩, hq, hb⟩
  have hs := hb.size
  replace HB : Hid (Below w.heap.size w w8) := HB.out.trans (hb.mono (by omega))
  replace hS : w.heap.size ≤ w8.heap.size := by omega
  clear hb hs
  go_wp2_with (fail)
  go_at_call 35
  refine Calls.mono (c_of (1) (2) (3) (4294967296) (8589934592) (12884901888) (by decide) (by decide) (by decide) (by decide) _) ?_
  rintro e w9 ⟨rfl, hb⟩
  have hs := hb.size
  replace k0 : w9.cell? ⟨w7.heap.size, 0, none⟩ = some (.int .i64 (-12884901888)) := ((bcell hb).1 _ _ (by omega)).trans k0
  replace k1 : w9.cell? ⟨w7.heap.size, 1, none⟩ = some (.int .i64 (-12884901888)) := ((bcell hb).1 _ _ (by omega)).trans k1
  replace k2 : w9.cell? ⟨w7.heap.size, 2, none⟩ = some (.int .i64 (-12884901888)) := ((bcell hb).1 _ _ (by omega)).trans k2
  replace k3 : w9.cell? ⟨w7.heap.size, 3, none⟩ = some (.int .i64 (-12884901888)) := ((bcell hb).1 _ _ (by omega)).trans k3
  replace k4 : w9.cell? ⟨w7.heap.size, 4, none⟩ = some (.int .i64 (-12884901888)) := ((bcell hb).1 _ _ (by omega)).trans k4
  replace k5 : w9.cell? ⟨w7.heap.size, 5, none⟩ = some (.int .i64 (-12884901888)) := ((bcell hb).1 _ _ (by omega)).trans k5
  replace hq : w7.heap.size < w9.heap.size := by omega
  replace HB : Hid (Below w.heap.size w w9) := HB.out.trans (hb.mono (by omega))
  replace hS : w.heap.size ≤ w9.heap.size := by omega
  clear hb hs
  go_wp2_with (fail)
  go_at_call 35
  refine Calls.mono (c_of (4) (5) (6) (17179869184) (21474836480) (25769803776) (by decide) (by decide) (by decide) (by decide) _) ?_
  rintro e w10 ⟨rfl, hb⟩
  have hs := hb.size
  replace k0 : w10.cell? ⟨w7.heap.size, 0, none⟩ = some (.int .i64 (-12884901888)) := ((bcell hb).1 _ _ (by omega)).trans k0
  replace k1 : w10.cell? ⟨w7.heap.size, 1, none⟩ = some (.int .i64 (-12884901888)) := ((bcell hb).1 _ _ (by omega)).trans k1
  replace k2 : w10.cell? ⟨w7.heap.size, 2, none⟩ = some (.int .i64 (-12884901888)) := ((bcell hb).1 _ _ (by omega)).trans k2
  replace k3 : w10.cell? ⟨w7.heap.size, 3, none⟩ = some (.int .i64 (-12884901888)) := ((bcell hb).1 _ _ (by omega)).trans k3
  replace k4 : w10.cell? ⟨w7.heap.size, 4, none⟩ = some (.int .i64 (-12884901888)) := ((bcell hb).1 _ _ (by omega)).trans k4
  replace k5 : w10.cell? ⟨w7.heap.size, 5, none⟩ = some (.int .i64 (-12884901888)) := ((bcell hb).1 _ _ (by omega)).trans k5
  replace hq : w7.heap.size < w10.heap.size := by omega
  replace HB : Hid (Below w.heap.size w w10) := HB.out.trans (hb.mono (by omega))
  replace hS : w.heap.size ≤ w10.heap.size := by omega
  clear hb hs
  go_wp2_with (fail)
  go_at_call 14
  refine Calls.mono (c_vecSub (4294967296) (4294967296) (8589934592) (8589934592) (12884901888) (12884901888) (17179869184) (17179869184) (21474836480) (21474836480) (25769803776) (25769803776) _) ?_
  rw [ev1]
  rintro e w11 ⟨rfl, hb⟩
  have hs := hb.size
  replace k0 : w11.cell? ⟨w7.heap.size, 0, none⟩ = some (.int .i64 (-12884901888)) := ((bcell hb).1 _ _ (by omega)).trans k0
  replace k1 : w11.cell? ⟨w7.heap.size, 1, none⟩ = some (.int .i64 (-12884901888)) := ((bcell hb).1 _ _ (by omega)).trans k1
  replace k2 : w11.cell? ⟨w7.heap.size, 2, none⟩ = some (.int .i64 (-12884901888)) := ((bcell hb).1 _ _ (by omega)).trans k2
  replace k3 : w11.cell? ⟨w7.heap.size, 3, none⟩ = some (.int .i64 (-12884901888)) := ((bcell hb).1 _ _ (by omega)).trans k3
  replace k4 : w11.cell? ⟨w7.heap.size, 4, none⟩ = some (.int .i64 (-12884901888)) := ((bcell hb).1 _ _ (by omega)).trans k4
  replace k5 : w11.cell? ⟨w7.heap.size, 5, none⟩ = some (.int .i64 (-12884901888)) := ((bcell hb).1 _ _ (by omega)).trans k5
  replace hq : w7.heap.size < w11.heap.size := by omega
  replace HB : Hid (Below w.heap.size w w11) := HB.out.trans (hb.mono (by omega))
  replace hS : w.heap.size ≤ w11.heap.size := by omega
  clear hb hs
  go_wp2_with (fail)
  go_at_call 96
  refine Calls.mono (c_is1 (w7.heap.size) (-12884901888) (-12884901888) (-12884901888) (-12884901888) (-12884901888) (-12884901888) _ hq k0 k1 k2 k3 k4 k5) ?_
  rintro e w12 ⟨rfl, hb⟩
  have hs := hb.size
  replace k0 : w12.cell? ⟨w7.heap.size, 0, none⟩ = some (.int .i64 (-12884901888)) := ((bcell hb).1 _ _ (by omega)).trans k0
  replace k1 : w12.cell? ⟨w7.heap.size, 1, none⟩ = some (.int .i64 (-12884901888)) := ((bcell hb).1 _ _ (by omega)).trans k1
  replace k2 : w12.cell? ⟨w7.heap.size, 2, none⟩ = some (.int .i64 (-12884901888)) := ((bcell hb).1 _ _ (by omega)).trans k2
  replace k3 : w12.cell? ⟨w7.heap.size, 3, none⟩ = some (.int .i64 (-12884901888)) := ((bcell hb).1 _ _ (by omega)).trans k3
  replace k4 : w12.cell? ⟨w7.heap.size, 4, none⟩ = some (.int .i64 (-12884901888)) := ((bcell hb).1 _ _ (by omega)).trans k4
  replace k5 : w12.cell? ⟨w7.heap.size, 5, none⟩ = some (.int .i64 (-12884901888)) := ((bcell hb).1 _ _ (by omega)).trans k5
  replace hq : w7.heap.size < w12.heap.size := by omega
  replace HB : Hid (Below w.heap.size w w12) := HB.out.trans (hb.mono (by omega))
  replace hS : w.heap.size ≤ w12.heap.size := by omega
  clear hb hs
  clear hq k0 k1 k2 k3 k4 k5
  go_wp2_with (fail)
  go_at_call 35
  refine Calls.mono (c_of (-1) (-2) (-3) (-4294967296) (-8589934592) (-12884901888) (by decide) (by decide) (by decide) (by decide) _) ?_
  rintro e w13 ⟨rfl, hb⟩
  have hs := hb.size
  replace HB : Hid (Below w.heap.size w w13) := HB.out.trans (hb.mono (by omega))
  replace hS : w.heap.size ≤ w13.heap.size := by omega
  clear hb hs
  go_wp2_with (fail)
  go_at_call 33
  refine Calls.mono (c_is (-4294967296) (-4294967296) (-8589934592) (-8589934592) (-12884901888) (-12884901888) _) ?_
  rintro e w14 ⟨rfl, ⟨k0, k1, k2, k3, k4, k5⟩, hq, hb⟩
  have hs := hb.size
  replace HB : Hid (Below w.heap.size w w14) := HB.out.trans (hb.mono (by omega))
  replace hS : w.heap.size ≤ w14.heap.size := by omega
  clear hb hs
  go_wp2_with (fail)
  go_at_call 35
  refine Calls.mono (c_of (1) (2) (3) (4294967296) (8589934592) (12884901888) (by decide) (by decide) (by decide) (by decide) _) ?_
  rintro e w15 ⟨rfl, hb⟩
  have hs := hb.size
  replace k0 : w15.cell? ⟨w13.heap.size, 0, none⟩ = some (.int .i64 (-4294967296)) := ((bcell hb).1 _ _ (by omega)).trans k0
  replace k1 : w15.cell? ⟨w13.heap.size, 1, none⟩ = some (.int .i64 (-4294967296)) := ((bcell hb).1 _ _ (by omega)).trans k1
  replace k2 : w15.cell? ⟨w13.heap.size, 2, none⟩ = some (.int .i64 (-8589934592)) := ((bcell hb).1 _ _ (by omega)).trans k2
  replace k3 : w15.cell? ⟨w13.heap.size, 3, none⟩ = some (.int .i64 (-8589934592)) := ((bcell hb).1 _ _ (by omega)).trans k3
  replace k4 : w15.cell? ⟨w13.heap.size, 4, none⟩ = some (.int .i64 (-12884901888)) := ((bcell hb).1 _ _ (by omega)).trans k4
  replace k5 : w15.cell? ⟨w13.heap.size, 5, none⟩ = some (.int .i64 (-12884901888)) := ((bcell hb).1 _ _ (by omega)).trans k5
  replace hq : w13.heap.size < w15.heap.size := by omega
  replace HB : Hid (Below w.heap.size w w15) := HB.out.trans (hb.mono (by omega))
  replace hS : w.heap.size ≤ w15.heap.size := by omega
  clear hb hs
  go_wp2_with (fail)
  go_at_call 21
  refine Calls.mono (c_vecNeg (4294967296) (4294967296) (8589934592) (8589934592) (12884901888) (12884901888) _) ?_
  rw [ev2]
  rintro e w16 ⟨rfl, hb⟩
  have hs := hb.size
  replace k0 : w16.cell? ⟨w13.heap.size, 0, none⟩ = some (.int .i64 (-4294967296)) := ((bcell hb).1 _ _ (by omega)).trans k0
  replace k1 : w16.cell? ⟨w13.heap.size, 1, none⟩ = some (.int .i64 (-4294967296)) := ((bcell hb).1 _ _ (by omega)).trans k1
  replace k2 : w16.cell? ⟨w13.heap.size, 2, none⟩ = some (.int .i64 (-8589934592)) := ((bcell hb).1 _ _ (by omega)).trans k2
  replace k3 : w16.cell? ⟨w13.heap.size, 3, none⟩ = some (.int .i64 (-8589934592)) := ((bcell hb).1 _ _ (by omega)).trans k3
  replace k4 : w16.cell? ⟨w13.heap.size, 4, none⟩ = some (.int .i64 (-12884901888)) := ((bcell hb).1 _ _ (by omega)).trans k4
  replace k5 : w16.cell? ⟨w13.heap.size, 5, none⟩ = some (.int .i64 (-12884901888)) := ((bcell hb).1 _ _ (by omega)).trans k5
  replace hq : w13.heap.size < w16.heap.size := by omega
  replace HB : Hid (Below w.heap.size w w16) := HB.out.trans (hb.mono (by omega))
  replace hS : w.heap.size ≤ w16.heap.size := by omega
  clear hb hs
  go_wp2_with (fail)
  go_at_call 96
  refine Calls.mono (c_is1 (w13.heap.size) (-4294967296) (-4294967296) (-8589934592) (-8589934592) (-12884901888) (-12884901888) _ hq k0 k1 k2 k3 k4 k5) ?_
  rintro e w17 ⟨rfl, hb⟩
  have hs := hb.size
  replace k0 : w17.cell? ⟨w13.heap.size, 0, none⟩ = some (.int .i64 (-4294967296)) := ((bcell hb).1 _ _ (by omega)).trans k0
  replace k1 : w17.cell? ⟨w13.heap.size, 1, none⟩ = some (.int .i64 (-4294967296)) := ((bcell hb).1 _ _ (by omega)).trans k1
  replace k2 : w17.cell? ⟨w13.heap.size, 2, none⟩ = some (.int .i64 (-8589934592)) := ((bcell hb).1 _ _ (by omega)).trans k2
  replace k3 : w17.cell? ⟨w13.heap.size, 3, none⟩ = some (.int .i64 (-8589934592)) := ((bcell hb).1 _ _ (by omega)).trans k3
  replace k4 : w17.cell? ⟨w13.heap.size, 4, none⟩ = some (.int .i64 (-12884901888)) := ((bcell hb).1 _ _ (by omega)).trans k4
  replace k5 : w17.cell? ⟨w13.heap.size, 5, none⟩ = some (.int .i64 (-12884901888)) := ((bcell hb).1 _ _ (by omega)).trans k5
  replace hq : w13.heap.size < w17.heap.size := by omega
  replace HB : Hid (Below w.heap.size w w17) := HB.out.trans (hb.mono (by omega))
  replace hS : w.heap.size ≤ w17.heap.size := by omega
  clear hb hs
  clear hq k0 k1 k2 k3 k4 k5
  go_wp2_with (fail)
  go_at_call 35
  refine Calls.mono (c_of (2) (4) (6) (8589934592) (17179869184) (25769803776) (by decide) (by decide) (by decide) (by decide) _) ?_
  rintro e w18 ⟨rfl, hb⟩
  have hs := hb.size
  replace HB : Hid (Below w.heap.size w w18) := HB.out.trans (hb.mono (by omega))
  replace hS : w.heap.size ≤ w18.heap.size := by omega
  clear hb hs
  go_wp2_with (fail)
  go_at_call 33
  refine Calls.mono (c_is (8589934592) (8589934592) (17179869184) (17179869184) (25769803776) (25769803776) _) ?_
  rintro e w19 ⟨rfl, ⟨k0, k1, k2, k3, k4, k5⟩, hq, hb⟩
  have hs := hb.size
  replace HB : Hid (Below w.heap.size w w19) := HB.out.trans (hb.mono (by omega))
  replace hS : w.heap.size ≤ w19.heap.size := by omega
  clear hb hs
  go_wp2_with (fail)
  go_at_call 35
  refine Calls.mono (c_of (1) (2) (3) (4294967296) (8589934592) (12884901888) (by decide) (by decide) (by decide) (by decide) _) ?_
  rintro e w20 ⟨rfl, hb⟩
  have hs := hb.size
  replace k0 : w20.cell? ⟨w18.heap.size, 0, none⟩ = some (.int .i64 (8589934592)) := ((bcell hb).1 _ _ (by omega)).trans k0
  replace k1 : w20.cell? ⟨w18.heap.size, 1, none⟩ = some (.int .i64 (8589934592)) := ((bcell hb).1 _ _ (by omega)).trans k1
  replace k2 : w20.cell? ⟨w18.heap.size, 2, none⟩ = some (.int .i64 (17179869184)) := ((bcell hb).1 _ _ (by omega)).trans k2
  replace k3 : w20.cell? ⟨w18.heap.size, 3, none⟩ = some (.int .i64 (17179869184)) := ((bcell hb).1 _ _ (by omega)).trans k3
  replace k4 : w20.cell? ⟨w18.heap.size, 4, none⟩ = some (.int .i64 (25769803776)) := ((bcell hb).1 _ _ (by omega)).trans k4
  replace k5 : w20.cell? ⟨w18.heap.size, 5, none⟩ = some (.int .i64 (25769803776)) := ((bcell hb).1 _ _ (by omega)).trans k5
  replace hq : w18.heap.size < w20.heap.size := by omega
  replace HB : Hid (Below w.heap.size w w20) := HB.out.trans (hb.mono (by omega))
  replace hS : w.heap.size ≤ w20.heap.size := by omega
  clear hb hs
  go_wp2_with (fail)
  go_at_call 37
  refine Calls.mono (c_point (2) (8589934592) (by decide) (by decide) (by decide) _) ?_
  rintro e w21 ⟨rfl, hb⟩
  have hs := hb.size
  replace k0 : w21.cell? ⟨w18.heap.size, 0, none⟩ = some (.int .i64 (8589934592)) := ((bcell hb).1 _ _ (by omega)).trans k0
  replace k1 : w21.cell? ⟨w18.heap.size, 1, none⟩ = some (.int .i64 (8589934592)) := ((bcell hb).1 _ _ (by omega)).trans k1
  replace k2 : w21.cell? ⟨w18.heap.size, 2, none⟩ = some (.int .i64 (17179869184)) := ((bcell hb).1 _ _ (by omega)).trans k2
  replace k3 : w21.cell? ⟨w18.heap.size, 3, none⟩ = some (.int .i64 (17179869184)) := ((bcell hb).1 _ _ (by omega)).trans k3
  replace k4 : w21.cell? ⟨w18.heap.size, 4, none⟩ = some (.int .i64 (25769803776)) := ((bcell hb).1 _ _ (by omega)).trans k4
  replace k5 : w21.cell? ⟨w18.heap.size, 5, none⟩ = some (.int .i64 (25769803776)) := ((bcell hb).1 _ _ (by omega)).trans k5
  replace hq : w18.heap.size < w21.heap.size := by omega
  replace HB : Hid (Below w.heap.size w w21) := HB.out.trans (hb.mono (by omega))
  replace hS : w.heap.size ≤ w21.heap.size := by omega
  clear hb hs
  go_wp2_with (fail)
  go_at_call 36
  refine Calls.mono (c_vecScale (4294967296) (4294967296) (8589934592) (8589934592) (12884901888) (12884901888) (8589934592) (8589934592) _) ?_
  rw [ev3]
  rintro e w22 ⟨rfl, hb⟩
  have hs := hb.size
  replace k0 : w22.cell? ⟨w18.heap.size, 0, none⟩ = some (.int .i64 (8589934592)) := ((bcell hb).1 _ _ (by omega)).trans k0
  replace k1 : w22.cell? ⟨w18.heap.size, 1, none⟩ = some (.int .i64 (8589934592)) := ((bcell hb).1 _ _ (by omega)).trans k1
  replace k2 : w22.cell? ⟨w18.heap.size, 2, none⟩ = some (.int .i64 (17179869184)) := ((bcell hb).1 _ _ (by omega)).trans k2
  replace k3 : w22.cell? ⟨w18.heap.size, 3, none⟩ = some (.int .i64 (17179869184)) := ((bcell hb).1 _ _ (by omega)).trans k3
  replace k4 : w22.cell? ⟨w18.heap.size, 4, none⟩ = some (.int .i64 (25769803776)) := ((bcell hb).1 _ _ (by omega)).trans k4
  replace k5 : w22.cell? ⟨w18.heap.size, 5, none⟩ = some (.int .i64 (25769803776)) := ((bcell hb).1 _ _ (by omega)).trans k5
  replace hq : w18.heap.size < w22.heap.size := by omega
  replace HB : Hid (Below w.heap.size w w22) := HB.out.trans (hb.mono (by omega))
  replace hS : w.heap.size ≤ w22.heap.size := by omega
  clear hb hs
  go_wp2_with (fail)
  go_at_call 96
  refine Calls.mono (c_is1 (w18.heap.size) (8589934592) (8589934592) (17179869184) (17179869184) (25769803776) (25769803776) _ hq k0 k1 k2 k3 k4 k5) ?_
  rintro e w23 ⟨rfl, hb⟩
  have hs := hb.size
  replace k0 : w23.cell? ⟨w18.heap.size, 0, none⟩ = some (.int .i64 (8589934592)) := ((bcell hb).1 _ _ (by omega)).trans k0
  replace k1 : w23.cell? ⟨w18.heap.size, 1, none⟩ = some (.int .i64 (8589934592)) := ((bcell hb).1 _ _ (by omega)).trans k1
  replace k2 : w23.cell? ⟨w18.heap.size, 2, none⟩ = some (.int .i64 (17179869184)) := ((bcell hb).1 _ _ (by omega)).trans k2
  replace k3 : w23.cell? ⟨w18.heap.size, 3, none⟩ = some (.int .i64 (17179869184)) := ((bcell hb).1 _ _ (by omega)).trans k3
  replace k4 : w23.cell? ⟨w18.heap.size, 4, none⟩ = some (.int .i64 (25769803776)) := ((bcell hb).1 _ _ (by omega)).trans k4
  replace k5 : w23.cell? ⟨w18.heap.size, 5, none⟩ = some (.int .i64 (25769803776)) := ((bcell hb).1 _ _ (by omega)).trans k5
  replace hq : w18.heap.size < w23.heap.size := by omega
  replace HB : Hid (Below w.heap.size w w23) := HB.out.trans (hb.mono (by omega))
  replace hS : w.heap.size ≤ w23.heap.size := by omega
  clear hb hs
  clear hq k0 k1 k2 k3 k4 k5
  go_wp2_with (fail)
  go_at_call 37
  refine Calls.mono (c_point (32) (137438953472) (by decide) (by decide) (by decide) _) ?_
  rintro e w24 ⟨rfl, hb⟩
  have hs := hb.size
  replace HB : Hid (Below w.heap.size w w24) := HB.out.trans (hb.mono (by omega))
  replace hS : w.heap.size ≤ w24.heap.size := by omega
  clear hb hs
  go_wp2_with (fail)
  go_at_call 39
  refine Calls.mono (c_says (137438953472) (137438953472) _) ?_
  rintro e w25 ⟨rfl, ⟨k0, k1⟩, hq, hb⟩
  have hs := hb.size
  replace HB : Hid (Below w.heap.size w w25) := HB.out.trans (hb.mono (by omega))
  replace hS : w.heap.size ≤ w25.heap.size := by omega
  clear hb hs
  go_wp2_with (fail)
  go_at_call 35
  refine Calls.mono (c_of (1) (2) (3) (4294967296) (8589934592) (12884901888) (by decide) (by decide) (by decide) (by decide) _) ?_
  rintro e w26 ⟨rfl, hb⟩
  have hs := hb.size
  replace k0 : w26.cell? ⟨w24.heap.size, 0, none⟩ = some (.int .i64 (137438953472)) := ((bcell hb).1 _ _ (by omega)).trans k0
  replace k1 : w26.cell? ⟨w24.heap.size, 1, none⟩ = some (.int .i64 (137438953472)) := ((bcell hb).1 _ _ (by omega)).trans k1
  replace hq : w24.heap.size < w26.heap.size := by omega
  replace HB : Hid (Below w.heap.size w w26) := HB.out.trans (hb.mono (by omega))
  replace hS : w.heap.size ≤ w26.heap.size := by omega
  clear hb hs
  go_wp2_with (fail)
  go_at_call 35
  refine Calls.mono (c_of (4) (5) (6) (17179869184) (21474836480) (25769803776) (by decide) (by decide) (by decide) (by decide) _) ?_
  rintro e w27 ⟨rfl, hb⟩
  have hs := hb.size
  replace k0 : w27.cell? ⟨w24.heap.size, 0, none⟩ = some (.int .i64 (137438953472)) := ((bcell hb).1 _ _ (by omega)).trans k0
  replace k1 : w27.cell? ⟨w24.heap.size, 1, none⟩ = some (.int .i64 (137438953472)) := ((bcell hb).1 _ _ (by omega)).trans k1
  replace hq : w24.heap.size < w27.heap.size := by omega
  replace HB : Hid (Below w.heap.size w w27) := HB.out.trans (hb.mono (by omega))
  replace hS : w.heap.size ≤ w27.heap.size := by omega
  clear hb hs
  go_wp2_with (fail)
  go_at_call 18
  refine Calls.mono (c_vecDot (4294967296) (4294967296) (8589934592) (8589934592) (12884901888) (12884901888) (17179869184) (17179869184) (21474836480) (21474836480) (25769803776) (25769803776) _) ?_
  rw [ev4]
  rintro e w28 ⟨rfl, hb⟩
  have hs := hb.size
  replace k0 : w28.cell? ⟨w24.heap.size, 0, none⟩ = some (.int .i64 (137438953472)) := ((bcell hb).1 _ _ (by omega)).trans k0
  replace k1 : w28.cell? ⟨w24.heap.size, 1, none⟩ = some (.int .i64 (137438953472)) := ((bcell hb).1 _ _ (by omega)).trans k1
  replace hq : w24.heap.size < w28.heap.size := by omega
  replace HB : Hid (Below w.heap.size w w28) := HB.out.trans (hb.mono (by omega))
  replace hS : w.heap.size ≤ w28.heap.size := by omega
  clear hb hs
  go_wp2_with (fail)
  go_at_call 99
  refine Calls.mono (c_says1 (w24.heap.size) (137438953472) (137438953472) (137438953472) (137438953472) _ hq k0 k1 (by decide) (by decide)) ?_
  rintro e w29 ⟨rfl, hb⟩
  have hs := hb.size
  replace k0 : w29.cell? ⟨w24.heap.size, 0, none⟩ = some (.int .i64 (137438953472)) := ((bcell hb).1 _ _ (by omega)).trans k0
  replace k1 : w29.cell? ⟨w24.heap.size, 1, none⟩ = some (.int .i64 (137438953472)) := ((bcell hb).1 _ _ (by omega)).trans k1
  replace hq : w24.heap.size < w29.heap.size := by omega
  replace HB : Hid (Below w.heap.size w w29) := HB.out.trans (hb.mono (by omega))
  replace hS : w.heap.size ≤ w29.heap.size := by omega
  clear hb hs
  clear hq k0 k1
  go_wp2_with (fail)
  go_at_call 35
  refine Calls.mono (c_of (0) (0) (1) (0) (0) (4294967296) (by decide) (by decide) (by decide) (by decide) _) ?_
  rintro e w30 ⟨rfl, hb⟩
  have hs := hb.size
  replace HB : Hid (Below w.heap.size w w30) := HB.out.trans (hb.mono (by omega))
  replace hS : w.heap.size ≤ w30.heap.size := by omega
  clear hb hs
  go_wp2_with (fail)
  go_at_call 33
  refine Calls.mono (c_is (0) (0) (0) (0) (4294967296) (4294967296) _) ?_
  rintro e w31 ⟨rfl, ⟨k0, k1, k2, k3, k4, k5⟩, hq, hb⟩
  have hs := hb.size
  replace HB : Hid (Below w.heap.size w w31) := HB.out.trans (hb.mono (by omega))
  replace hS : w.heap.size ≤ w31.heap.size := by omega
  clear hb hs
  go_wp2_with (fail)
  go_at_call 35
  refine Calls.mono (c_of (1) (0) (0) (4294967296) (0) (0) (by decide) (by decide) (by decide) (by decide) _) ?_
  rintro e w32 ⟨rfl, hb⟩
  have hs := hb.size
  replace k0 : w32.cell? ⟨w30.heap.size, 0, none⟩ = some (.int .i64 (0)) := ((bcell hb).1 _ _ (by omega)).trans k0
  replace k1 : w32.cell? ⟨w30.heap.size, 1, none⟩ = some (.int .i64 (0)) := ((bcell hb).1 _ _ (by omega)).trans k1
  replace k2 : w32.cell? ⟨w30.heap.size, 2, none⟩ = some (.int .i64 (0)) := ((bcell hb).1 _ _ (by omega)).trans k2
  replace k3 : w32.cell? ⟨w30.heap.size, 3, none⟩ = some (.int .i64 (0)) := ((bcell hb).1 _ _ (by omega)).trans k3
  replace k4 : w32.cell? ⟨w30.heap.size, 4, none⟩ = some (.int .i64 (4294967296)) := ((bcell hb).1 _ _ (by omega)).trans k4
  replace k5 : w32.cell? ⟨w30.heap.size, 5, none⟩ = some (.int .i64 (4294967296)) := ((bcell hb).1 _ _ (by omega)).trans k5
  replace hq : w30.heap.size < w32.heap.size := by omega
  replace HB : Hid (Below w.heap.size w w32) := HB.out.trans (hb.mono (by omega))
  replace hS : w.heap.size ≤ w32.heap.size := by omega
  clear hb hs
  go_wp2_with (fail)
  go_at_call 35
  refine Calls.mono (c_of (0) (1) (0) (0) (4294967296) (0) (by decide) (by decide) (by decide) (by decide) _) ?_
  rintro e w33 ⟨rfl, hb⟩
  have hs := hb.size
  replace k0 : w33.cell? ⟨w30.heap.size, 0, none⟩ = some (.int .i64 (0)) := ((bcell hb).1 _ _ (by omega)).trans k0
  replace k1 : w33.cell? ⟨w30.heap.size, 1, none⟩ = some (.int .i64 (0)) := ((bcell hb).1 _ _ (by omega)).trans k1
  replace k2 : w33.cell? ⟨w30.heap.size, 2, none⟩ = some (.int .i64 (0)) := ((bcell hb).1 _ _ (by omega)).trans k2
  replace k3 : w33.cell? ⟨w30.heap.size, 3, none⟩ = some (.int .i64 (0)) := ((bcell hb).1 _ _ (by omega)).trans k3
  replace k4 : w33.cell? ⟨w30.heap.size, 4, none⟩ = some (.int .i64 (4294967296)) := ((bcell hb).1 _ _ (by omega)).trans k4
  replace k5 : w33.cell? ⟨w30.heap.size, 5, none⟩ = some (.int .i64 (4294967296)) := ((bcell hb).1 _ _ (by omega)).trans k5
  replace hq : w30.heap.size < w33.heap.size := by omega
  replace HB : Hid (Below w.heap.size w w33) := HB.out.trans (hb.mono (by omega))
  replace hS : w.heap.size ≤ w33.heap.size := by omega
  clear hb hs
  go_wp2_with (fail)
  go_at_call 15
  refine Calls.mono (c_vecCross (4294967296) (4294967296) (0) (0) (0) (0) (0) (0) (4294967296) (4294967296) (0) (0) _) ?_
  rw [ev5]
  rintro e w34 ⟨rfl, hb⟩
  have hs := hb.size
  replace k0 : w34.cell? ⟨w30.heap.size, 0, none⟩ = some (.int .i64 (0)) := ((bcell hb).1 _ _ (by omega)).trans k0
  replace k1 : w34.cell? ⟨w30.heap.size, 1, none⟩ = some (.int .i64 (0)) := ((bcell hb).1 _ _ (by omega)).trans k1
  replace k2 : w34.cell? ⟨w30.heap.size, 2, none⟩ = some (.int .i64 (0)) := ((bcell hb).1 _ _ (by omega)).trans k2
  replace k3 : w34.cell? ⟨w30.heap.size, 3, none⟩ = some (.int .i64 (0)) := ((bcell hb).1 _ _ (by omega)).trans k3
  replace k4 : w34.cell? ⟨w30.heap.size, 4, none⟩ = some (.int .i64 (4294967296)) := ((bcell hb).1 _ _ (by omega)).trans k4
  replace k5 : w34.cell? ⟨w30.heap.size, 5, none⟩ = some (.int .i64 (4294967296)) := ((bcell hb).1 _ _ (by omega)).trans k5
  replace hq : w30.heap.size < w34.heap.size := by omega
  replace HB : Hid (Below w.heap.size w w34) := HB.out.trans (hb.mono (by omega))
  replace hS : w.heap.size ≤ w34.heap.size := by omega
  clear hb hs
  go_wp2_with (fail)
  go_at_call 96
  refine Calls.mono (c_is1 (w30.heap.size) (0) (0) (0) (0) (4294967296) (4294967296) _ hq k0 k1 k2 k3 k4 k5) ?_
  rintro e w35 ⟨rfl, hb⟩
  have hs := hb.size
  replace k0 : w35.cell? ⟨w30.heap.size, 0, none⟩ = some (.int .i64 (0)) := ((bcell hb).1 _ _ (by omega)).trans k0
  replace k1 : w35.cell? ⟨w30.heap.size, 1, none⟩ = some (.int .i64 (0)) := ((bcell hb).1 _ _ (by omega)).trans k1
  replace k2 : w35.cell? ⟨w30.heap.size, 2, none⟩ = some (.int .i64 (0)) := ((bcell hb).1 _ _ (by omega)).trans k2
  replace k3 : w35.cell? ⟨w30.heap.size, 3, none⟩ = some (.int .i64 (0)) := ((bcell hb).1 _ _ (by omega)).trans k3
  replace k4 : w35.cell? ⟨w30.heap.size, 4, none⟩ = some (.int .i64 (4294967296)) := ((bcell hb).1 _ _ (by omega)).trans k4
  replace k5 : w35.cell? ⟨w30.heap.size, 5, none⟩ = some (.int .i64 (4294967296)) := ((bcell hb).1 _ _ (by omega)).trans k5
  replace hq : w30.heap.size < w35.heap.size := by omega
  replace HB : Hid (Below w.heap.size w w35) := HB.out.trans (hb.mono (by omega))
  replace hS : w.heap.size ≤ w35.heap.size := by omega
  clear hb hs
  clear hq k0 k1 k2 k3 k4 k5
  go_wp2_with (fail)
  go_at_call 35
  refine Calls.mono (c_of (0) (0) (-1) (0) (0) (-4294967296) (by decide) (by decide) (by decide) (by decide) _) ?_
  rintro e w36 ⟨rfl, hb⟩
  have hs := hb.size
  replace HB : Hid (Below w.heap.size w w36) := HB.out.trans (hb.mono (by omega))
  replace hS : w.heap.size ≤ w36.heap.size := by omega
  clear hb hs
  go_wp2_with (fail)
  go_at_call 33
  refine Calls.mono (c_is (0) (0) (0) (0) (-4294967296) (-4294967296) _) ?_
  rintro e w37 ⟨rfl, ⟨k0, k1, k2, k3, k4, k5⟩, hq, hb⟩
  have hs := hb.size
  replace HB : Hid (Below w.heap.size w w37) := HB.out.trans (hb.mono (by omega))
  replace hS : w.heap.size ≤ w37.heap.size := by omega
  clear hb hs
  go_wp2_with (fail)
  go_at_call 35
  refine Calls.mono (c_of (0) (1) (0) (0) (4294967296) (0) (by decide) (by decide) (by decide) (by decide) _) ?_
  rintro e w38 ⟨rfl, hb⟩
  have hs := hb.size
  replace k0 : w38.cell? ⟨w36.heap.size, 0, none⟩ = some (.int .i64 (0)) := ((bcell hb).1 _ _ (by omega)).trans k0
  replace k1 : w38.cell? ⟨w36.heap.size, 1, none⟩ = some (.int .i64 (0)) := ((bcell hb).1 _ _ (by omega)).trans k1
  replace k2 : w38.cell? ⟨w36.heap.size, 2, none⟩ = some (.int .i64 (0)) := ((bcell hb).1 _ _ (by omega)).trans k2
  replace k3 : w38.cell? ⟨w36.heap.size, 3, none⟩ = some (.int .i64 (0)) := ((bcell hb).1 _ _ (by omega)).trans k3
  replace k4 : w38.cell? ⟨w36.heap.size, 4, none⟩ = some (.int .i64 (-4294967296)) := ((bcell hb).1 _ _ (by omega)).trans k4
  replace k5 : w38.cell? ⟨w36.heap.size, 5, none⟩ = some (.int .i64 (-4294967296)) := ((bcell hb).1 _ _ (by omega)).trans k5
  replace hq : w36.heap.size < w38.heap.size := by omega
  replace HB : Hid (Below w.heap.size w w38) := HB.out.trans (hb.mono (by omega))
  replace hS : w.heap.size ≤ w38.heap.size := by omega
  clear hb hs
  go_wp2_with (fail)
  go_at_call 35
  refine Calls.mono (c_of (1) (0) (0) (4294967296) (0) (0) (by decide) (by decide) (by decide) (by decide) _) ?_
  rintro e w39 ⟨rfl, hb⟩
  have hs := hb.size
  replace k0 : w39.cell? ⟨w36.heap.size, 0, none⟩ = some (.int .i64 (0)) := ((bcell hb).1 _ _ (by omega)).trans k0
  replace k1 : w39.cell? ⟨w36.heap.size, 1, none⟩ = some (.int .i64 (0)) := ((bcell hb).1 _ _ (by omega)).trans k1
  replace k2 : w39.cell? ⟨w36.heap.size, 2, none⟩ = some (.int .i64 (0)) := ((bcell hb).1 _ _ (by omega)).trans k2
  replace k3 : w39.cell? ⟨w36.heap.size, 3, none⟩ = some (.int .i64 (0)) := ((bcell hb).1 _ _ (by omega)).trans k3
  replace k4 : w39.cell? ⟨w36.heap.size, 4, none⟩ = some (.int .i64 (-4294967296)) := ((bcell hb).1 _ _ (by omega)).trans k4
  replace k5 : w39.cell? ⟨w36.heap.size, 5, none⟩ = some (.int .i64 (-4294967296)) := ((bcell hb).1 _ _ (by omega)).trans k5
  replace hq : w36.heap.size < w39.heap.size := by omega
  replace HB : Hid (Below w.heap.size w w39) := HB.out.trans (hb.mono (by omega))
  replace hS : w.heap.size ≤ w39.heap.size := by omega
  clear hb hs
  go_wp2_with (fail)
  go_at_call 15
  refine Calls.mono (c_vecCross (0) (0) (4294967296) (4294967296) (0) (0) (4294967296) (4294967296) (0) (0) (0) (0) _) ?_
  rw [ev6]
  rintro e w40 ⟨rfl, hb⟩
  have hs := hb.size
  replace k0 : w40.cell? ⟨w36.heap.size, 0, none⟩ = some (.int .i64 (0)) := ((bcell hb).1 _ _ (by omega)).trans k0
  replace k1 : w40.cell? ⟨w36.heap.size, 1, none⟩ = some (.int .i64 (0)) := ((bcell hb).1 _ _ (by omega)).trans k1
  replace k2 : w40.cell? ⟨w36.heap.size, 2, none⟩ = some (.int .i64 (0)) := ((bcell hb).1 _ _ (by omega)).trans k2
  replace k3 : w40.cell? ⟨w36.heap.size, 3, none⟩ = some (.int .i64 (0)) := ((bcell hb).1 _ _ (by omega)).trans k3
  replace k4 : w40.cell? ⟨w36.heap.size, 4, none⟩ = some (.int .i64 (-4294967296)) := ((bcell hb).1 _ _ (by omega)).trans k4
  replace k5 : w40.cell? ⟨w36.heap.size, 5, none⟩ = some (.int .i64 (-4294967296)) := ((bcell hb).1 _ _ (by omega)).trans k5
  replace hq : w36.heap.size < w40.heap.size := by omega
  replace HB : Hid (Below w.heap.size w w40) := HB.out.trans (hb.mono (by omega))
  replace hS : w.heap.size ≤ w40.heap.size := by omega
  clear hb hs
  go_wp2_with (fail)
  go_at_call 96
  refine Calls.mono (c_is1 (w36.heap.size) (0) (0) (0) (0) (-4294967296) (-4294967296) _ hq k0 k1 k2 k3 k4 k5) ?_
  rintro e w41 ⟨rfl, hb⟩
  have hs := hb.size
  replace k0 : w41.cell? ⟨w36.heap.size, 0, none⟩ = some (.int .i64 (0)) := ((bcell hb).1 _ _ (by omega)).trans k0
  replace k1 : w41.cell? ⟨w36.heap.size, 1, none⟩ = some (.int .i64 (0)) := ((bcell hb).1 _ _ (by omega)).trans k1
  replace k2 : w41.cell? ⟨w36.heap.size, 2, none⟩ = some (.int .i64 (0)) := ((bcell hb).1 _ _ (by omega)).trans k2
  replace k3 : w41.cell? ⟨w36.heap.size, 3, none⟩ = some (.int .i64 (0)) := ((bcell hb).1 _ _ (by omega)).trans k3
  replace k4 : w41.cell? ⟨w36.heap.size, 4, none⟩ = some (.int .i64 (-4294967296)) := ((bcell hb).1 _ _ (by omega)).trans k4
  replace k5 : w41.cell? ⟨w36.heap.size, 5, none⟩ = some (.int .i64 (-4294967296)) := ((bcell hb).1 _ _ (by omega)).trans k5
  replace hq : w36.heap.size < w41.heap.size := by omega
  replace HB : Hid (Below w.heap.size w w41) := HB.out.trans (hb.mono (by omega))
  replace hS : w.heap.size ≤ w41.heap.size := by omega
  clear hb hs
  clear hq k0 k1 k2 k3 k4 k5
  go_wp2_with (fail)
  go_at_call 37
  refine Calls.mono (c_point (7) (30064771072) (by decide) (by decide) (by decide) _) ?_
  rintro e w42 ⟨rfl, hb⟩
  have hs := hb.size
  replace HB : Hid (Below w.heap.size w w42) := HB.out.trans (hb.mono (by omega))
  replace hS : w.heap.size ≤ w42.heap.size := by omega
  clear hb hs
  go_wp2_with (fail)
  go_at_call 39
  refine Calls.mono (c_says (30064771072) (30064771072) _) ?_
  rintro e w43 ⟨rfl, ⟨k0, k1⟩, hq, hb⟩
  have hs := hb.size
  replace HB : Hid (Below w.heap.size w w43) := HB.out.trans (hb.mono (by omega))
  replace hS : w.heap.size ≤ w43.heap.size := by omega
  clear hb hs
  go_wp2_with (fail)
  go_at_call 35
  refine Calls.mono (c_of (2) (3) (6) (8589934592) (12884901888) (25769803776) (by decide) (by decide) (by decide) (by decide) _) ?_
  rintro e w44 ⟨rfl, hb⟩
  have hs := hb.size
  replace k0 : w44.cell? ⟨w42.heap.size, 0, none⟩ = some (.int .i64 (30064771072)) := ((bcell hb).1 _ _ (by omega)).trans k0
  replace k1 : w44.cell? ⟨w42.heap.size, 1, none⟩ = some (.int .i64 (30064771072)) := ((bcell hb).1 _ _ (by omega)).trans k1
  replace hq : w42.heap.size < w44.heap.size := by omega
  replace HB : Hid (Below w.heap.size w w44) := HB.out.trans (hb.mono (by omega))
  replace hS : w.heap.size ≤ w44.heap.size := by omega
  clear hb hs
  go_wp2_with (fail)
  go_at_call 20
  refine Calls.mono (c_vecNorm (8589934592) (8589934592) (12884901888) (12884901888) (25769803776) (25769803776) _) ?_
  rw [ev7]
  rintro e w45 ⟨rfl, hb⟩
  have hs := hb.size
  replace k0 : w45.cell? ⟨w42.heap.size, 0, none⟩ = some (.int .i64 (30064771072)) := ((bcell hb).1 _ _ (by omega)).trans k0
  replace k1 : w45.cell? ⟨w42.heap.size, 1, none⟩ = some (.int .i64 (30064771072)) := ((bcell hb).1 _ _ (by omega)).trans k1
  replace hq : w42.heap.size < w45.heap.size := by omega
  replace HB : Hid (Below w.heap.size w w45) := HB.out.trans (hb.mono (by omega))
  replace hS : w.heap.size ≤ w45.heap.size := by omega
  clear hb hs
  go_wp2_with (fail)
  go_at_call 99
  refine Calls.mono (c_says1 (w42.heap.size) (30064771072) (30064771072) (30064771072) (30064771072) _ hq k0 k1 (by decide) (by decide)) ?_
  rintro e w46 ⟨rfl, hb⟩
  have hs := hb.size
  replace k0 : w46.cell? ⟨w42.heap.size, 0, none⟩ = some (.int .i64 (30064771072)) := ((bcell hb).1 _ _ (by omega)).trans k0
  replace k1 : w46.cell? ⟨w42.heap.size, 1, none⟩ = some (.int .i64 (30064771072)) := ((bcell hb).1 _ _ (by omega)).trans k1
  replace hq : w42.heap.size < w46.heap.size := by omega
  replace HB : Hid (Below w.heap.size w w46) := HB.out.trans (hb.mono (by omega))
  replace hS : w.heap.size ≤ w46.heap.size := by omega
  clear hb hs
  clear hq k0 k1
  go_wp2_with (fail)
  go_at_call 35
  refine Calls.mono (c_of (0) (0) (-1) (0) (0) (-4294967296) (by decide) (by decide) (by decide) (by decide) _) ?_
  rintro e w47 ⟨rfl, hb⟩
  have hs := hb.size
  replace HB : Hid (Below w.heap.size w w47) := HB.out.trans (hb.mono (by omega))
  replace hS : w.heap.size ≤ w47.heap.size := by omega
  clear hb hs
  go_wp2_with (fail)
  go_at_call 33
  refine Calls.mono (c_is (0) (0) (0) (0) (-4294967296) (-4294967296) _) ?_
  rintro e w48 ⟨rfl, ⟨k0, k1, k2, k3, k4, k5⟩, hq, hb⟩
  have hs := hb.size
  replace HB : Hid (Below w.heap.size w w48) := HB.out.trans (hb.mono (by omega))
  replace hS : w.heap.size ≤ w48.heap.size := by omega
  clear hb hs
  go_wp2_with (fail)
  go_at_call 35
  refine Calls.mono (c_of (0) (0) (-4) (0) (0) (-17179869184) (by decide) (by decide) (by decide) (by decide) _) ?_
  rintro e w49 ⟨rfl, hb⟩
  have hs := hb.size
  replace k0 : w49.cell? ⟨w47.heap.size, 0, none⟩ = some (.int .i64 (0)) := ((bcell hb).1 _ _ (by omega)).trans k0
  replace k1 : w49.cell? ⟨w47.heap.size, 1, none⟩ = some (.int .i64 (0)) := ((bcell hb).1 _ _ (by omega)).trans k1
  replace k2 : w49.cell? ⟨w47.heap.size, 2, none⟩ = some (.int .i64 (0)) := ((bcell hb).1 _ _ (by omega)).trans k2
  replace k3 : w49.cell? ⟨w47.heap.size, 3, none⟩ = some (.int .i64 (0)) := ((bcell hb).1 _ _ (by omega)).trans k3
  replace k4 : w49.cell? ⟨w47.heap.size, 4, none⟩ = some (.int .i64 (-4294967296)) := ((bcell hb).1 _ _ (by omega)).trans k4
  replace k5 : w49.cell? ⟨w47.heap.size, 5, none⟩ = some (.int .i64 (-4294967296)) := ((bcell hb).1 _ _ (by omega)).trans k5
  replace hq : w47.heap.size < w49.heap.size := by omega
  replace HB : Hid (Below w.heap.size w w49) := HB.out.trans (hb.mono (by omega))
  replace hS : w.heap.size ≤ w49.heap.size := by omega
  clear hb hs
  go_wp2_with (fail)
  go_at_call 17
  refine Calls.mono (c_vecUnit (0) (0) (0) (0) (-17179869184) (-17179869184) _) ?_
  rw [ev8]
  rintro e w50 ⟨rfl, hb⟩
  have hs := hb.size
  replace k0 : w50.cell? ⟨w47.heap.size, 0, none⟩ = some (.int .i64 (0)) := ((bcell hb).1 _ _ (by omega)).trans k0
  replace k1 : w50.cell? ⟨w47.heap.size, 1, none⟩ = some (.int .i64 (0)) := ((bcell hb).1 _ _ (by omega)).trans k1
  replace k2 : w50.cell? ⟨w47.heap.size, 2, none⟩ = some (.int .i64 (0)) := ((bcell hb).1 _ _ (by omega)).trans k2
  replace k3 : w50.cell? ⟨w47.heap.size, 3, none⟩ = some (.int .i64 (0)) := ((bcell hb).1 _ _ (by omega)).trans k3
  replace k4 : w50.cell? ⟨w47.heap.size, 4, none⟩ = some (.int .i64 (-4294967296)) := ((bcell hb).1 _ _ (by omega)).trans k4
  replace k5 : w50.cell? ⟨w47.heap.size, 5, none⟩ = some (.int .i64 (-4294967296)) := ((bcell hb).1 _ _ (by omega)).trans k5
  replace hq : w47.heap.size < w50.heap.size := by omega
  replace HB : Hid (Below w.heap.size w w50) := HB.out.trans (hb.mono (by omega))
  replace hS : w.heap.size ≤ w50.heap.size := by omega
  clear hb hs
  go_wp2_with (fail)
  go_at_call 96
  refine Calls.mono (c_is1 (w47.heap.size) (0) (0) (0) (0) (-4294967296) (-4294967296) _ hq k0 k1 k2 k3 k4 k5) ?_
  rintro e w51 ⟨rfl, hb⟩
  have hs := hb.size
  replace k0 : w51.cell? ⟨w47.heap.size, 0, none⟩ = some (.int .i64 (0)) := ((bcell hb).1 _ _ (by omega)).trans k0
  replace k1 : w51.cell? ⟨w47.heap.size, 1, none⟩ = some (.int .i64 (0)) := ((bcell hb).1 _ _ (by omega)).trans k1
  replace k2 : w51.cell? ⟨w47.heap.size, 2, none⟩ = some (.int .i64 (0)) := ((bcell hb).1 _ _ (by omega)).trans k2
  replace k3 : w51.cell? ⟨w47.heap.size, 3, none⟩ = some (.int .i64 (0)) := ((bcell hb).1 _ _ (by omega)).trans k3
  replace k4 : w51.cell? ⟨w47.heap.size, 4, none⟩ = some (.int .i64 (-4294967296)) := ((bcell hb).1 _ _ (by omega)).trans k4
  replace k5 : w51.cell? ⟨w47.heap.size, 5, none⟩ = some (.int .i64 (-4294967296)) := ((bcell hb).1 _ _ (by omega)).trans k5
  replace hq : w47.heap.size < w51.heap.size := by omega
  replace HB : Hid (Below w.heap.size w w51) := HB.out.trans (hb.mono (by omega))
  replace hS : w.heap.size ≤ w51.heap.size := by omega
  clear hb hs
  clear hq k0 k1 k2 k3 k4 k5
  go_wp2_with (fail)
  go_at_call 34
  refine Calls.mono (c_fails (7) _) ?_
  rintro e w52 ⟨rfl, k0, hq, hb⟩
  have hs := hb.size
  replace HB : Hid (Below w.heap.size w w52) := HB.out.trans (hb.mono (by omega))
  replace hS : w.heap.size ≤ w52.heap.size := by omega
  clear hb hs
  go_wp2_with (fail)
  go_at_call 35
  refine Calls.mono (c_of (0) (0) (0) (0) (0) (0) (by decide) (by decide) (by decide) (by decide) _) ?_
  rintro e w53 ⟨rfl, hb⟩
  have hs := hb.size
  replace k0 : w53.cell? ⟨w51.heap.size, 0, none⟩ = some (.int .i64 (7)) := ((bcell hb).1 _ _ (by omega)).trans k0
  replace hq : w51.heap.size < w53.heap.size := by omega
  replace HB : Hid (Below w.heap.size w w53) := HB.out.trans (hb.mono (by omega))
  replace hS : w.heap.size ≤ w53.heap.size := by omega
  clear hb hs
  go_wp2_with (fail)
  go_at_call 17
  refine Calls.mono (c_vecUnit (0) (0) (0) (0) (0) (0) _) ?_
  rw [ev9]
  rintro e w54 ⟨rfl, hb⟩
  have hs := hb.size
  replace k0 : w54.cell? ⟨w51.heap.size, 0, none⟩ = some (.int .i64 (7)) := ((bcell hb).1 _ _ (by omega)).trans k0
  replace hq : w51.heap.size < w54.heap.size := by omega
  replace HB : Hid (Below w.heap.size w w54) := HB.out.trans (hb.mono (by omega))
  replace hS : w.heap.size ≤ w54.heap.size := by omega
  clear hb hs
  go_wp2_with (fail)
  go_at_call 97
  refine Calls.mono (c_fails1 (w51.heap.size) (7) _ hq k0) ?_
  rintro e w55 ⟨rfl, hb⟩
  have hs := hb.size
  replace k0 : w55.cell? ⟨w51.heap.size, 0, none⟩ = some (.int .i64 (7)) := ((bcell hb).1 _ _ (by omega)).trans k0
  replace hq : w51.heap.size < w55.heap.size := by omega
  replace HB : Hid (Below w.heap.size w w55) := HB.out.trans (hb.mono (by omega))
  replace hS : w.heap.size ≤ w55.heap.size := by omega
  clear hb hs
  clear hq k0
  go_wp2_with (fail)
  go_at_call 38
  refine Calls.mono (c_refuses (6) _) ?_
  rintro e w56 ⟨rfl, k0, hq, hb⟩
  have hs := hb.size
  replace HB : Hid (Below w.heap.size w w56) := HB.out.trans (hb.mono (by omega))
  replace hS : w.heap.size ≤ w56.heap.size := by omega
  clear hb hs
  go_wp2_with (fail)
  go_at_call 35
  refine Calls.mono (c_of (1024) (0) (0) (4398046511104) (0) (0) (by decide) (by decide) (by decide) (by decide) _) ?_
  rintro e w57 ⟨rfl, hb⟩
  have hs := hb.size
  replace k0 : w57.cell? ⟨w55.heap.size, 0, none⟩ = some (.int .i64 (6)) := ((bcell hb).1 _ _ (by omega)).trans k0
  replace hq : w55.heap.size < w57.heap.size := by omega
  replace HB : Hid (Below w.heap.size w w57) := HB.out.trans (hb.mono (by omega))
  replace hS : w.heap.size ≤ w57.heap.size := by omega
  clear hb hs
  go_wp2_with (fail)
  go_at_call 35
  refine Calls.mono (c_of (1025) (0) (0) (4402341478400) (0) (0) (by decide) (by decide) (by decide) (by decide) _) ?_
  rintro e w58 ⟨rfl, hb⟩
  have hs := hb.size
  replace k0 : w58.cell? ⟨w55.heap.size, 0, none⟩ = some (.int .i64 (6)) := ((bcell hb).1 _ _ (by omega)).trans k0
  replace hq : w55.heap.size < w58.heap.size := by omega
  replace HB : Hid (Below w.heap.size w w58) := HB.out.trans (hb.mono (by omega))
  replace hS : w.heap.size ≤ w58.heap.size := by omega
  clear hb hs
  go_wp2_with (fail)
  go_at_call 18
  refine Calls.mono (c_vecDot (4398046511104) (4398046511104) (0) (0) (0) (0) (4402341478400) (4402341478400) (0) (0) (0) (0) _) ?_
  rw [ev10]
  rintro e w59 ⟨rfl, hb⟩
  have hs := hb.size
  replace k0 : w59.cell? ⟨w55.heap.size, 0, none⟩ = some (.int .i64 (6)) := ((bcell hb).1 _ _ (by omega)).trans k0
  replace hq : w55.heap.size < w59.heap.size := by omega
  replace HB : Hid (Below w.heap.size w w59) := HB.out.trans (hb.mono (by omega))
  replace hS : w.heap.size ≤ w59.heap.size := by omega
  clear hb hs
  go_wp2_with (fail)
  go_at_call 98
  refine Calls.mono (c_refuses1 (w55.heap.size) (6) _ hq k0) ?_
  rintro e w60 ⟨rfl, hb⟩
  have hs := hb.size
  replace k0 : w60.cell? ⟨w55.heap.size, 0, none⟩ = some (.int .i64 (6)) := ((bcell hb).1 _ _ (by omega)).trans k0
  replace hq : w55.heap.size < w60.heap.size := by omega
  replace HB : Hid (Below w.heap.size w w60) := HB.out.trans (hb.mono (by omega))
  replace hS : w.heap.size ≤ w60.heap.size := by omega
  clear hb hs
  clear hq k0
  go_wp2_with (fail)
  go_at_call 32
  refine Calls.mono (c_vecCheck 1 0 0 0 0 0 _) ?_
  rw [ev_check]
  rintro e w61 ⟨rfl, hb⟩
  have hs := hb.size
  replace HB : Hid (Below w.heap.size w w61) := HB.out.trans (hb.mono (by omega))
  replace hS : w.heap.size ≤ w61.heap.size := by omega
  clear hb hs
  go_wp2_with (fail)
  refine bodyPost_ret (v := .bool true) (by simp [results, Try.results10, go_sem]) rfl ⟨rfl, HB.out⟩

end Go.Proofs.Ytpdaigenffecmaa
