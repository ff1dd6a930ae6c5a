/-
  The statement VecNarrows: its code answers true.
-/
import Derived.Test.YtpdaigenffecmaaM44
import Derived.Test.YtpdaigenffecmaaM45
import Derived.Test.YtpdaigenffecmaaM46
import Derived.Test.YtpdaigenffecmaaM47
set_option linter.all false
namespace Go.Proofs.Ytpdaigenffecmaa
open Go.RowKit Go.Shelf

set_option maxRecDepth 100000 in
theorem oNv_run (bd1 bn1 bd2 bn2 : Bool) : runA Try.prog (tab Try.prog (oNvF bd1 bn1 bd2 bn2) [(23, 2), (25, 6)] (oNvL bd1 bn1 bd2 bn2) []) 6 3 oNvA = some (.v (.one (.bool true))) := by
  cases bd1 <;> cases bn1 <;> cases bd2 <;> cases bn2 <;> first | exact oNv_run_tttt | exact oNv_run_tttf | exact oNv_run_ttft | exact oNv_run_ttff | exact oNv_run_tftt | exact oNv_run_tftf | exact oNv_run_tfft | exact oNv_run_tfff | exact oNv_run_fttt | exact oNv_run_fttf | exact oNv_run_ftft | exact oNv_run_ftff | exact oNv_run_fftt | exact oNv_run_fftf | exact oNv_run_ffft | exact oNv_run_ffff

set_option maxRecDepth 100000 in
set_option maxHeartbeats 4000000 in
theorem c_lawVecNarrows (x0 x1 x2 x3 x4 x5 y0 y1 y2 y3 y4 y5 d0 d1 d2 d3 d4 d5 d6 d7 d8 e0 e1 e2 e3 e4 e5 e6 e7 e8 p0 p1 p2 p3 p4 p5 q0 q1 q2 q3 q4 q5 : Int) (hd1 : 0 ≤ d1 ∧ d1 ≤ 255) (hd2 : 0 ≤ d2 ∧ d2 ≤ 4294967295) (hd4 : 0 ≤ d4 ∧ d4 ≤ 255) (hd5 : 0 ≤ d5 ∧ d5 ≤ 4294967295) (hd7 : 0 ≤ d7 ∧ d7 ≤ 255) (hd8 : 0 ≤ d8 ∧ d8 ≤ 4294967295) (he1 : 0 ≤ e1 ∧ e1 ≤ 255) (he2 : 0 ≤ e2 ∧ e2 ≤ 4294967295) (he4 : 0 ≤ e4 ∧ e4 ≤ 255) (he5 : 0 ≤ e5 ∧ e5 ≤ 4294967295) (he7 : 0 ≤ e7 ∧ e7 ≤ 255) (he8 : 0 ≤ e8 ∧ e8 ≤ 4294967295) (hp0 : 0 ≤ p0) (hp1 : 0 ≤ p1) (hp2 : 0 ≤ p2) (hp3 : 0 ≤ p3) (hp4 : 0 ≤ p4) (hp5 : 0 ≤ p5) (hq0 : 0 ≤ q0) (hq1 : 0 ≤ q1) (hq2 : 0 ≤ q2) (hq3 : 0 ≤ q3) (hq4 : 0 ≤ q4) (hq5 : 0 ≤ q5) (w : World) :
    Calls Try.prog 3 #[.agg #[.int .i64 x0, .int .i64 x1, .int .i64 x2, .int .i64 x3, .int .i64 x4, .int .i64 x5, .int .i64 y0, .int .i64 y1, .int .i64 y2, .int .i64 y3, .int .i64 y4, .int .i64 y5, .int .i64 d0, .int .u8 d1, .int .u32 d2, .int .i64 d3, .int .u8 d4, .int .u32 d5, .int .i64 d6, .int .u8 d7, .int .u32 d8, .int .i64 e0, .int .u8 e1, .int .u32 e2, .int .i64 e3, .int .u8 e4, .int .u32 e5, .int .i64 e6, .int .u8 e7, .int .u32 e8], .agg #[.int .u64 p0, .int .u64 p1, .int .u64 p2, .int .u64 p3, .int .u64 p4, .int .u64 p5], .agg #[.int .u64 q0, .int .u64 q1, .int .u64 q2, .int .u64 q3, .int .u64 q4, .int .u64 q5]] w fun e w' => e = .returned (.bool true) ∧ Below w.heap.size w w' := by
  obtain ⟨a1r0, a1r1, a1r2, a1r3, a1r4, a1r5, a1re, a1s0, a1s1, a1s2, a1s3, a1s4, a1s5, a1se, ha1r, ha1s, ha1h⟩ := narV_Add (dspan_valid d0 d1 d2 hd2) (dspan_valid d3 d4 d5 hd5) (dspan_valid d6 d7 d8 hd8) (dsmall_valid e0 e1 e2 he2).ok (dsmall_valid e3 e4 e5 he5).ok (dsmall_valid e6 e7 e8 he8).ok (two_in (dspan_valid d0 d1 d2 hd2) (atI_in (dspan_valid d0 d1 d2 hd2) hp0) (atI_in (dspan_valid d0 d1 d2 hd2) hp1)).1 (two_in (dspan_valid d3 d4 d5 hd5) (atI_in (dspan_valid d3 d4 d5 hd5) hp2) (atI_in (dspan_valid d3 d4 d5 hd5) hp3)).1 (two_in (dspan_valid d6 d7 d8 hd8) (atI_in (dspan_valid d6 d7 d8 hd8) hp4) (atI_in (dspan_valid d6 d7 d8 hd8) hp5)).1 (two_in (dsmall_valid e0 e1 e2 he2).ok (atI_in (dsmall_valid e0 e1 e2 he2).ok hq0) (atI_in (dsmall_valid e0 e1 e2 he2).ok hq1)).1 (two_in (dsmall_valid e3 e4 e5 he5).ok (atI_in (dsmall_valid e3 e4 e5 he5).ok hq2) (atI_in (dsmall_valid e3 e4 e5 he5).ok hq3)).1 (two_in (dsmall_valid e6 e7 e8 he8).ok (atI_in (dsmall_valid e6 e7 e8 he8).ok hq4) (atI_in (dsmall_valid e6 e7 e8 he8).ok hq5)).1 (two_in (dspan_valid d0 d1 d2 hd2) (atI_in (dspan_valid d0 d1 d2 hd2) hp0) (atI_in (dspan_valid d0 d1 d2 hd2) hp1)).2 (two_in (dspan_valid d3 d4 d5 hd5) (atI_in (dspan_valid d3 d4 d5 hd5) hp2) (atI_in (dspan_valid d3 d4 d5 hd5) hp3)).2 (two_in (dspan_valid d6 d7 d8 hd8) (atI_in (dspan_valid d6 d7 d8 hd8) hp4) (atI_in (dspan_valid d6 d7 d8 hd8) hp5)).2 (two_in (dsmall_valid e0 e1 e2 he2).ok (atI_in (dsmall_valid e0 e1 e2 he2).ok hq0) (atI_in (dsmall_valid e0 e1 e2 he2).ok hq1)).2 (two_in (dsmall_valid e3 e4 e5 he5).ok (atI_in (dsmall_valid e3 e4 e5 he5).ok hq2) (atI_in (dsmall_valid e3 e4 e5 he5).ok hq3)).2 (two_in (dsmall_valid e6 e7 e8 he8).ok (atI_in (dsmall_valid e6 e7 e8 he8).ok hq4) (atI_in (dsmall_valid e6 e7 e8 he8).ok hq5)).2
  replace ha1r := Lib.hid ha1r
  replace ha1s := Lib.hid ha1s
  obtain ⟨s1r0, s1r1, s1r2, s1r3, s1r4, s1r5, s1re, s1s0, s1s1, s1s2, s1s3, s1s4, s1s5, s1se, hs1r, hs1s, hs1h⟩ := narV_Sub (dspan_valid d0 d1 d2 hd2) (dspan_valid d3 d4 d5 hd5) (dspan_valid d6 d7 d8 hd8) (dsmall_valid e0 e1 e2 he2).ok (dsmall_valid e3 e4 e5 he5).ok (dsmall_valid e6 e7 e8 he8).ok (two_in (dspan_valid d0 d1 d2 hd2) (atI_in (dspan_valid d0 d1 d2 hd2) hp0) (atI_in (dspan_valid d0 d1 d2 hd2) hp1)).1 (two_in (dspan_valid d3 d4 d5 hd5) (atI_in (dspan_valid d3 d4 d5 hd5) hp2) (atI_in (dspan_valid d3 d4 d5 hd5) hp3)).1 (two_in (dspan_valid d6 d7 d8 hd8) (atI_in (dspan_valid d6 d7 d8 hd8) hp4) (atI_in (dspan_valid d6 d7 d8 hd8) hp5)).1 (two_in (dsmall_valid e0 e1 e2 he2).ok (atI_in (dsmall_valid e0 e1 e2 he2).ok hq0) (atI_in (dsmall_valid e0 e1 e2 he2).ok hq1)).1 (two_in (dsmall_valid e3 e4 e5 he5).ok (atI_in (dsmall_valid e3 e4 e5 he5).ok hq2) (atI_in (dsmall_valid e3 e4 e5 he5).ok hq3)).1 (two_in (dsmall_valid e6 e7 e8 he8).ok (atI_in (dsmall_valid e6 e7 e8 he8).ok hq4) (atI_in (dsmall_valid e6 e7 e8 he8).ok hq5)).1 (two_in (dspan_valid d0 d1 d2 hd2) (atI_in (dspan_valid d0 d1 d2 hd2) hp0) (atI_in (dspan_valid d0 d1 d2 hd2) hp1)).2 (two_in (dspan_valid d3 d4 d5 hd5) (atI_in (dspan_valid d3 d4 d5 hd5) hp2) (atI_in (dspan_valid d3 d4 d5 hd5) hp3)).2 (two_in (dspan_valid d6 d7 d8 hd8) (atI_in (dspan_valid d6 d7 d8 hd8) hp4) (atI_in (dspan_valid d6 d7 d8 hd8) hp5)).2 (two_in (dsmall_valid e0 e1 e2 he2).ok (atI_in (dsmall_valid e0 e1 e2 he2).ok hq0) (atI_in (dsmall_valid e0 e1 e2 he2).ok hq1)).2 (two_in (dsmall_valid e3 e4 e5 he5).ok (atI_in (dsmall_valid e3 e4 e5 he5).ok hq2) (atI_in (dsmall_valid e3 e4 e5 he5).ok hq3)).2 (two_in (dsmall_valid e6 e7 e8 he8).ok (atI_in (dsmall_valid e6 e7 e8 he8).ok hq4) (atI_in (dsmall_valid e6 e7 e8 he8).ok hq5)).2
  replace hs1r := Lib.hid hs1r
  replace hs1s := Lib.hid hs1s
  obtain ⟨c1r0, c1r1, c1r2, c1r3, c1r4, c1r5, c1re, c1s0, c1s1, c1s2, c1s3, c1s4, c1s5, c1se, hc1r, hc1s, hc1h⟩ := narV_Cross (dspan_valid d0 d1 d2 hd2) (dspan_valid d3 d4 d5 hd5) (dspan_valid d6 d7 d8 hd8) (dsmall_valid e0 e1 e2 he2).ok (dsmall_valid e3 e4 e5 he5).ok (dsmall_valid e6 e7 e8 he8).ok (two_in (dspan_valid d0 d1 d2 hd2) (atI_in (dspan_valid d0 d1 d2 hd2) hp0) (atI_in (dspan_valid d0 d1 d2 hd2) hp1)).1 (two_in (dspan_valid d3 d4 d5 hd5) (atI_in (dspan_valid d3 d4 d5 hd5) hp2) (atI_in (dspan_valid d3 d4 d5 hd5) hp3)).1 (two_in (dspan_valid d6 d7 d8 hd8) (atI_in (dspan_valid d6 d7 d8 hd8) hp4) (atI_in (dspan_valid d6 d7 d8 hd8) hp5)).1 (two_in (dsmall_valid e0 e1 e2 he2).ok (atI_in (dsmall_valid e0 e1 e2 he2).ok hq0) (atI_in (dsmall_valid e0 e1 e2 he2).ok hq1)).1 (two_in (dsmall_valid e3 e4 e5 he5).ok (atI_in (dsmall_valid e3 e4 e5 he5).ok hq2) (atI_in (dsmall_valid e3 e4 e5 he5).ok hq3)).1 (two_in (dsmall_valid e6 e7 e8 he8).ok (atI_in (dsmall_valid e6 e7 e8 he8).ok hq4) (atI_in (dsmall_valid e6 e7 e8 he8).ok hq5)).1 (two_in (dspan_valid d0 d1 d2 hd2) (atI_in (dspan_valid d0 d1 d2 hd2) hp0) (atI_in (dspan_valid d0 d1 d2 hd2) hp1)).2 (two_in (dspan_valid d3 d4 d5 hd5) (atI_in (dspan_valid d3 d4 d5 hd5) hp2) (atI_in (dspan_valid d3 d4 d5 hd5) hp3)).2 (two_in (dspan_valid d6 d7 d8 hd8) (atI_in (dspan_valid d6 d7 d8 hd8) hp4) (atI_in (dspan_valid d6 d7 d8 hd8) hp5)).2 (two_in (dsmall_valid e0 e1 e2 he2).ok (atI_in (dsmall_valid e0 e1 e2 he2).ok hq0) (atI_in (dsmall_valid e0 e1 e2 he2).ok hq1)).2 (two_in (dsmall_valid e3 e4 e5 he5).ok (atI_in (dsmall_valid e3 e4 e5 he5).ok hq2) (atI_in (dsmall_valid e3 e4 e5 he5).ok hq3)).2 (two_in (dsmall_valid e6 e7 e8 he8).ok (atI_in (dsmall_valid e6 e7 e8 he8).ok hq4) (atI_in (dsmall_valid e6 e7 e8 he8).ok hq5)).2
  replace hc1r := Lib.hid hc1r
  replace hc1s := Lib.hid hc1s
  obtain ⟨u1r0, u1r1, u1r2, u1r3, u1r4, u1r5, u1re, u1s0, u1s1, u1s2, u1s3, u1s4, u1s5, u1se, hu1r, hu1s, hu1h⟩ := narV_Unit (dspan_valid d0 d1 d2 hd2) (dspan_valid d3 d4 d5 hd5) (dspan_valid d6 d7 d8 hd8) (two_in (dspan_valid d0 d1 d2 hd2) (atI_in (dspan_valid d0 d1 d2 hd2) hp0) (atI_in (dspan_valid d0 d1 d2 hd2) hp1)).1 (two_in (dspan_valid d3 d4 d5 hd5) (atI_in (dspan_valid d3 d4 d5 hd5) hp2) (atI_in (dspan_valid d3 d4 d5 hd5) hp3)).1 (two_in (dspan_valid d6 d7 d8 hd8) (atI_in (dspan_valid d6 d7 d8 hd8) hp4) (atI_in (dspan_valid d6 d7 d8 hd8) hp5)).1 (two_in (dspan_valid d0 d1 d2 hd2) (atI_in (dspan_valid d0 d1 d2 hd2) hp0) (atI_in (dspan_valid d0 d1 d2 hd2) hp1)).2 (two_in (dspan_valid d3 d4 d5 hd5) (atI_in (dspan_valid d3 d4 d5 hd5) hp2) (atI_in (dspan_valid d3 d4 d5 hd5) hp3)).2 (two_in (dspan_valid d6 d7 d8 hd8) (atI_in (dspan_valid d6 d7 d8 hd8) hp4) (atI_in (dspan_valid d6 d7 d8 hd8) hp5)).2
  replace hu1r := Lib.hid hu1r
  replace hu1s := Lib.hid hu1s
  obtain ⟨d1r0, d1r1, d1re, d1s0, d1s1, d1se, hd1r, hd1s, hd1h⟩ := narV_Dot (dspan_valid d0 d1 d2 hd2) (dspan_valid d3 d4 d5 hd5) (dspan_valid d6 d7 d8 hd8) (dsmall_valid e0 e1 e2 he2).ok (dsmall_valid e3 e4 e5 he5).ok (dsmall_valid e6 e7 e8 he8).ok (two_in (dspan_valid d0 d1 d2 hd2) (atI_in (dspan_valid d0 d1 d2 hd2) hp0) (atI_in (dspan_valid d0 d1 d2 hd2) hp1)).1 (two_in (dspan_valid d3 d4 d5 hd5) (atI_in (dspan_valid d3 d4 d5 hd5) hp2) (atI_in (dspan_valid d3 d4 d5 hd5) hp3)).1 (two_in (dspan_valid d6 d7 d8 hd8) (atI_in (dspan_valid d6 d7 d8 hd8) hp4) (atI_in (dspan_valid d6 d7 d8 hd8) hp5)).1 (two_in (dsmall_valid e0 e1 e2 he2).ok (atI_in (dsmall_valid e0 e1 e2 he2).ok hq0) (atI_in (dsmall_valid e0 e1 e2 he2).ok hq1)).1 (two_in (dsmall_valid e3 e4 e5 he5).ok (atI_in (dsmall_valid e3 e4 e5 he5).ok hq2) (atI_in (dsmall_valid e3 e4 e5 he5).ok hq3)).1 (two_in (dsmall_valid e6 e7 e8 he8).ok (atI_in (dsmall_valid e6 e7 e8 he8).ok hq4) (atI_in (dsmall_valid e6 e7 e8 he8).ok hq5)).1 (two_in (dspan_valid d0 d1 d2 hd2) (atI_in (dspan_valid d0 d1 d2 hd2) hp0) (atI_in (dspan_valid d0 d1 d2 hd2) hp1)).2 (two_in (dspan_valid d3 d4 d5 hd5) (atI_in (dspan_valid d3 d4 d5 hd5) hp2) (atI_in (dspan_valid d3 d4 d5 hd5) hp3)).2 (two_in (dspan_valid d6 d7 d8 hd8) (atI_in (dspan_valid d6 d7 d8 hd8) hp4) (atI_in (dspan_valid d6 d7 d8 hd8) hp5)).2 (two_in (dsmall_valid e0 e1 e2 he2).ok (atI_in (dsmall_valid e0 e1 e2 he2).ok hq0) (atI_in (dsmall_valid e0 e1 e2 he2).ok hq1)).2 (two_in (dsmall_valid e3 e4 e5 he5).ok (atI_in (dsmall_valid e3 e4 e5 he5).ok hq2) (atI_in (dsmall_valid e3 e4 e5 he5).ok hq3)).2 (two_in (dsmall_valid e6 e7 e8 he8).ok (atI_in (dsmall_valid e6 e7 e8 he8).ok hq4) (atI_in (dsmall_valid e6 e7 e8 he8).ok hq5)).2
  replace hd1r := Lib.hid hd1r
  replace hd1s := Lib.hid hd1s
  obtain ⟨bd1, hbd1⟩ : ∃ b, b = (d1se == 0) := ⟨_, rfl⟩
  obtain ⟨n1r0, n1r1, n1re, n1s0, n1s1, n1se, hn1r, hn1s, hn1h⟩ := narV_Norm (dspan_valid d0 d1 d2 hd2) (dspan_valid d3 d4 d5 hd5) (dspan_valid d6 d7 d8 hd8) (two_in (dspan_valid d0 d1 d2 hd2) (atI_in (dspan_valid d0 d1 d2 hd2) hp0) (atI_in (dspan_valid d0 d1 d2 hd2) hp1)).1 (two_in (dspan_valid d3 d4 d5 hd5) (atI_in (dspan_valid d3 d4 d5 hd5) hp2) (atI_in (dspan_valid d3 d4 d5 hd5) hp3)).1 (two_in (dspan_valid d6 d7 d8 hd8) (atI_in (dspan_valid d6 d7 d8 hd8) hp4) (atI_in (dspan_valid d6 d7 d8 hd8) hp5)).1 (two_in (dspan_valid d0 d1 d2 hd2) (atI_in (dspan_valid d0 d1 d2 hd2) hp0) (atI_in (dspan_valid d0 d1 d2 hd2) hp1)).2 (two_in (dspan_valid d3 d4 d5 hd5) (atI_in (dspan_valid d3 d4 d5 hd5) hp2) (atI_in (dspan_valid d3 d4 d5 hd5) hp3)).2 (two_in (dspan_valid d6 d7 d8 hd8) (atI_in (dspan_valid d6 d7 d8 hd8) hp4) (atI_in (dspan_valid d6 d7 d8 hd8) hp5)).2
  replace hn1r := Lib.hid hn1r
  replace hn1s := Lib.hid hn1s
  obtain ⟨bn1, hbn1⟩ : ∃ b, b = (n1se == 0) := ⟨_, rfl⟩
  obtain ⟨a2r0, a2r1, a2r2, a2r3, a2r4, a2r5, a2re, a2s0, a2s1, a2s2, a2s3, a2s4, a2s5, a2se, ha2r, ha2s, ha2h⟩ := narV_Add (dsmall_valid d0 d1 d2 hd2).ok (dsmall_valid d3 d4 d5 hd5).ok (dsmall_valid d6 d7 d8 hd8).ok (dsmall_valid e0 e1 e2 he2).ok (dsmall_valid e3 e4 e5 he5).ok (dsmall_valid e6 e7 e8 he8).ok (two_in (dsmall_valid d0 d1 d2 hd2).ok (atI_in (dsmall_valid d0 d1 d2 hd2).ok hp0) (atI_in (dsmall_valid d0 d1 d2 hd2).ok hp1)).1 (two_in (dsmall_valid d3 d4 d5 hd5).ok (atI_in (dsmall_valid d3 d4 d5 hd5).ok hp2) (atI_in (dsmall_valid d3 d4 d5 hd5).ok hp3)).1 (two_in (dsmall_valid d6 d7 d8 hd8).ok (atI_in (dsmall_valid d6 d7 d8 hd8).ok hp4) (atI_in (dsmall_valid d6 d7 d8 hd8).ok hp5)).1 (two_in (dsmall_valid e0 e1 e2 he2).ok (atI_in (dsmall_valid e0 e1 e2 he2).ok hq0) (atI_in (dsmall_valid e0 e1 e2 he2).ok hq1)).1 (two_in (dsmall_valid e3 e4 e5 he5).ok (atI_in (dsmall_valid e3 e4 e5 he5).ok hq2) (atI_in (dsmall_valid e3 e4 e5 he5).ok hq3)).1 (two_in (dsmall_valid e6 e7 e8 he8).ok (atI_in (dsmall_valid e6 e7 e8 he8).ok hq4) (atI_in (dsmall_valid e6 e7 e8 he8).ok hq5)).1 (two_in (dsmall_valid d0 d1 d2 hd2).ok (atI_in (dsmall_valid d0 d1 d2 hd2).ok hp0) (atI_in (dsmall_valid d0 d1 d2 hd2).ok hp1)).2 (two_in (dsmall_valid d3 d4 d5 hd5).ok (atI_in (dsmall_valid d3 d4 d5 hd5).ok hp2) (atI_in (dsmall_valid d3 d4 d5 hd5).ok hp3)).2 (two_in (dsmall_valid d6 d7 d8 hd8).ok (atI_in (dsmall_valid d6 d7 d8 hd8).ok hp4) (atI_in (dsmall_valid d6 d7 d8 hd8).ok hp5)).2 (two_in (dsmall_valid e0 e1 e2 he2).ok (atI_in (dsmall_valid e0 e1 e2 he2).ok hq0) (atI_in (dsmall_valid e0 e1 e2 he2).ok hq1)).2 (two_in (dsmall_valid e3 e4 e5 he5).ok (atI_in (dsmall_valid e3 e4 e5 he5).ok hq2) (atI_in (dsmall_valid e3 e4 e5 he5).ok hq3)).2 (two_in (dsmall_valid e6 e7 e8 he8).ok (atI_in (dsmall_valid e6 e7 e8 he8).ok hq4) (atI_in (dsmall_valid e6 e7 e8 he8).ok hq5)).2
  replace ha2r := Lib.hid ha2r
  replace ha2s := Lib.hid ha2s
  obtain ⟨s2r0, s2r1, s2r2, s2r3, s2r4, s2r5, s2re, s2s0, s2s1, s2s2, s2s3, s2s4, s2s5, s2se, hs2r, hs2s, hs2h⟩ := narV_Sub (dsmall_valid d0 d1 d2 hd2).ok (dsmall_valid d3 d4 d5 hd5).ok (dsmall_valid d6 d7 d8 hd8).ok (dsmall_valid e0 e1 e2 he2).ok (dsmall_valid e3 e4 e5 he5).ok (dsmall_valid e6 e7 e8 he8).ok (two_in (dsmall_valid d0 d1 d2 hd2).ok (atI_in (dsmall_valid d0 d1 d2 hd2).ok hp0) (atI_in (dsmall_valid d0 d1 d2 hd2).ok hp1)).1 (two_in (dsmall_valid d3 d4 d5 hd5).ok (atI_in (dsmall_valid d3 d4 d5 hd5).ok hp2) (atI_in (dsmall_valid d3 d4 d5 hd5).ok hp3)).1 (two_in (dsmall_valid d6 d7 d8 hd8).ok (atI_in (dsmall_valid d6 d7 d8 hd8).ok hp4) (atI_in (dsmall_valid d6 d7 d8 hd8).ok hp5)).1 (two_in (dsmall_valid e0 e1 e2 he2).ok (atI_in (dsmall_valid e0 e1 e2 he2).ok hq0) (atI_in (dsmall_valid e0 e1 e2 he2).ok hq1)).1 (two_in (dsmall_valid e3 e4 e5 he5).ok (atI_in (dsmall_valid e3 e4 e5 he5).ok hq2) (atI_in (dsmall_valid e3 e4 e5 he5).ok hq3)).1 (two_in (dsmall_valid e6 e7 e8 he8).ok (atI_in (dsmall_valid e6 e7 e8 he8).ok hq4) (atI_in (dsmall_valid e6 e7 e8 he8).ok hq5)).1 (two_in (dsmall_valid d0 d1 d2 hd2).ok (atI_in (dsmall_valid d0 d1 d2 hd2).ok hp0) (atI_in (dsmall_valid d0 d1 d2 hd2).ok hp1)).2 (two_in (dsmall_valid d3 d4 d5 hd5).ok (atI_in (dsmall_valid d3 d4 d5 hd5).ok hp2) (atI_in (dsmall_valid d3 d4 d5 hd5).ok hp3)).2 (two_in (dsmall_valid d6 d7 d8 hd8).ok (atI_in (dsmall_valid d6 d7 d8 hd8).ok hp4) (atI_in (dsmall_valid d6 d7 d8 hd8).ok hp5)).2 (two_in (dsmall_valid e0 e1 e2 he2).ok (atI_in (dsmall_valid e0 e1 e2 he2).ok hq0) (atI_in (dsmall_valid e0 e1 e2 he2).ok hq1)).2 (two_in (dsmall_valid e3 e4 e5 he5).ok (atI_in (dsmall_valid e3 e4 e5 he5).ok hq2) (atI_in (dsmall_valid e3 e4 e5 he5).ok hq3)).2 (two_in (dsmall_valid e6 e7 e8 he8).ok (atI_in (dsmall_valid e6 e7 e8 he8).ok hq4) (atI_in (dsmall_valid e6 e7 e8 he8).ok hq5)).2
  replace hs2r := Lib.hid hs2r
  replace hs2s := Lib.hid hs2s
  obtain ⟨c2r0, c2r1, c2r2, c2r3, c2r4, c2r5, c2re, c2s0, c2s1, c2s2, c2s3, c2s4, c2s5, c2se, hc2r, hc2s, hc2h⟩ := narV_Cross (dsmall_valid d0 d1 d2 hd2).ok (dsmall_valid d3 d4 d5 hd5).ok (dsmall_valid d6 d7 d8 hd8).ok (dsmall_valid e0 e1 e2 he2).ok (dsmall_valid e3 e4 e5 he5).ok (dsmall_valid e6 e7 e8 he8).ok (two_in (dsmall_valid d0 d1 d2 hd2).ok (atI_in (dsmall_valid d0 d1 d2 hd2).ok hp0) (atI_in (dsmall_valid d0 d1 d2 hd2).ok hp1)).1 (two_in (dsmall_valid d3 d4 d5 hd5).ok (atI_in (dsmall_valid d3 d4 d5 hd5).ok hp2) (atI_in (dsmall_valid d3 d4 d5 hd5).ok hp3)).1 (two_in (dsmall_valid d6 d7 d8 hd8).ok (atI_in (dsmall_valid d6 d7 d8 hd8).ok hp4) (atI_in (dsmall_valid d6 d7 d8 hd8).ok hp5)).1 (two_in (dsmall_valid e0 e1 e2 he2).ok (atI_in (dsmall_valid e0 e1 e2 he2).ok hq0) (atI_in (dsmall_valid e0 e1 e2 he2).ok hq1)).1 (two_in (dsmall_valid e3 e4 e5 he5).ok (atI_in (dsmall_valid e3 e4 e5 he5).ok hq2) (atI_in (dsmall_valid e3 e4 e5 he5).ok hq3)).1 (two_in (dsmall_valid e6 e7 e8 he8).ok (atI_in (dsmall_valid e6 e7 e8 he8).ok hq4) (atI_in (dsmall_valid e6 e7 e8 he8).ok hq5)).1 (two_in (dsmall_valid d0 d1 d2 hd2).ok (atI_in (dsmall_valid d0 d1 d2 hd2).ok hp0) (atI_in (dsmall_valid d0 d1 d2 hd2).ok hp1)).2 (two_in (dsmall_valid d3 d4 d5 hd5).ok (atI_in (dsmall_valid d3 d4 d5 hd5).ok hp2) (atI_in (dsmall_valid d3 d4 d5 hd5).ok hp3)).2 (two_in (dsmall_valid d6 d7 d8 hd8).ok (atI_in (dsmall_valid d6 d7 d8 hd8).ok hp4) (atI_in (dsmall_valid d6 d7 d8 hd8).ok hp5)).2 (two_in (dsmall_valid e0 e1 e2 he2).ok (atI_in (dsmall_valid e0 e1 e2 he2).ok hq0) (atI_in (dsmall_valid e0 e1 e2 he2).ok hq1)).2 (two_in (dsmall_valid e3 e4 e5 he5).ok (atI_in (dsmall_valid e3 e4 e5 he5).ok hq2) (atI_in (dsmall_valid e3 e4 e5 he5).ok hq3)).2 (two_in (dsmall_valid e6 e7 e8 he8).ok (atI_in (dsmall_valid e6 e7 e8 he8).ok hq4) (atI_in (dsmall_valid e6 e7 e8 he8).ok hq5)).2
  replace hc2r := Lib.hid hc2r
  replace hc2s := Lib.hid hc2s
  obtain ⟨u2r0, u2r1, u2r2, u2r3, u2r4, u2r5, u2re, u2s0, u2s1, u2s2, u2s3, u2s4, u2s5, u2se, hu2r, hu2s, hu2h⟩ := narV_Unit (dsmall_valid d0 d1 d2 hd2).ok (dsmall_valid d3 d4 d5 hd5).ok (dsmall_valid d6 d7 d8 hd8).ok (two_in (dsmall_valid d0 d1 d2 hd2).ok (atI_in (dsmall_valid d0 d1 d2 hd2).ok hp0) (atI_in (dsmall_valid d0 d1 d2 hd2).ok hp1)).1 (two_in (dsmall_valid d3 d4 d5 hd5).ok (atI_in (dsmall_valid d3 d4 d5 hd5).ok hp2) (atI_in (dsmall_valid d3 d4 d5 hd5).ok hp3)).1 (two_in (dsmall_valid d6 d7 d8 hd8).ok (atI_in (dsmall_valid d6 d7 d8 hd8).ok hp4) (atI_in (dsmall_valid d6 d7 d8 hd8).ok hp5)).1 (two_in (dsmall_valid d0 d1 d2 hd2).ok (atI_in (dsmall_valid d0 d1 d2 hd2).ok hp0) (atI_in (dsmall_valid d0 d1 d2 hd2).ok hp1)).2 (two_in (dsmall_valid d3 d4 d5 hd5).ok (atI_in (dsmall_valid d3 d4 d5 hd5).ok hp2) (atI_in (dsmall_valid d3 d4 d5 hd5).ok hp3)).2 (two_in (dsmall_valid d6 d7 d8 hd8).ok (atI_in (dsmall_valid d6 d7 d8 hd8).ok hp4) (atI_in (dsmall_valid d6 d7 d8 hd8).ok hp5)).2
  replace hu2r := Lib.hid hu2r
  replace hu2s := Lib.hid hu2s
  obtain ⟨d2r0, d2r1, d2re, d2s0, d2s1, d2se, hd2r, hd2s, hd2h⟩ := narV_Dot (dsmall_valid d0 d1 d2 hd2).ok (dsmall_valid d3 d4 d5 hd5).ok (dsmall_valid d6 d7 d8 hd8).ok (dsmall_valid e0 e1 e2 he2).ok (dsmall_valid e3 e4 e5 he5).ok (dsmall_valid e6 e7 e8 he8).ok (two_in (dsmall_valid d0 d1 d2 hd2).ok (atI_in (dsmall_valid d0 d1 d2 hd2).ok hp0) (atI_in (dsmall_valid d0 d1 d2 hd2).ok hp1)).1 (two_in (dsmall_valid d3 d4 d5 hd5).ok (atI_in (dsmall_valid d3 d4 d5 hd5).ok hp2) (atI_in (dsmall_valid d3 d4 d5 hd5).ok hp3)).1 (two_in (dsmall_valid d6 d7 d8 hd8).ok (atI_in (dsmall_valid d6 d7 d8 hd8).ok hp4) (atI_in (dsmall_valid d6 d7 d8 hd8).ok hp5)).1 (two_in (dsmall_valid e0 e1 e2 he2).ok (atI_in (dsmall_valid e0 e1 e2 he2).ok hq0) (atI_in (dsmall_valid e0 e1 e2 he2).ok hq1)).1 (two_in (dsmall_valid e3 e4 e5 he5).ok (atI_in (dsmall_valid e3 e4 e5 he5).ok hq2) (atI_in (dsmall_valid e3 e4 e5 he5).ok hq3)).1 (two_in (dsmall_valid e6 e7 e8 he8).ok (atI_in (dsmall_valid e6 e7 e8 he8).ok hq4) (atI_in (dsmall_valid e6 e7 e8 he8).ok hq5)).1 (two_in (dsmall_valid d0 d1 d2 hd2).ok (atI_in (dsmall_valid d0 d1 d2 hd2).ok hp0) (atI_in (dsmall_valid d0 d1 d2 hd2).ok hp1)).2 (two_in (dsmall_valid d3 d4 d5 hd5).ok (atI_in (dsmall_valid d3 d4 d5 hd5).ok hp2) (atI_in (dsmall_valid d3 d4 d5 hd5).ok hp3)).2 (two_in (dsmall_valid d6 d7 d8 hd8).ok (atI_in (dsmall_valid d6 d7 d8 hd8).ok hp4) (atI_in (dsmall_valid d6 d7 d8 hd8).ok hp5)).2 (two_in (dsmall_valid e0 e1 e2 he2).ok (atI_in (dsmall_valid e0 e1 e2 he2).ok hq0) (atI_in (dsmall_valid e0 e1 e2 he2).ok hq1)).2 (two_in (dsmall_valid e3 e4 e5 he5).ok (atI_in (dsmall_valid e3 e4 e5 he5).ok hq2) (atI_in (dsmall_valid e3 e4 e5 he5).ok hq3)).2 (two_in (dsmall_valid e6 e7 e8 he8).ok (atI_in (dsmall_valid e6 e7 e8 he8).ok hq4) (atI_in (dsmall_valid e6 e7 e8 he8).ok hq5)).2
  replace hd2r := Lib.hid hd2r
  replace hd2s := Lib.hid hd2s
  obtain ⟨bd2, hbd2⟩ : ∃ b, b = (d2se == 0) := ⟨_, rfl⟩
  obtain ⟨n2r0, n2r1, n2re, n2s0, n2s1, n2se, hn2r, hn2s, hn2h⟩ := narV_Norm (dsmall_valid d0 d1 d2 hd2).ok (dsmall_valid d3 d4 d5 hd5).ok (dsmall_valid d6 d7 d8 hd8).ok (two_in (dsmall_valid d0 d1 d2 hd2).ok (atI_in (dsmall_valid d0 d1 d2 hd2).ok hp0) (atI_in (dsmall_valid d0 d1 d2 hd2).ok hp1)).1 (two_in (dsmall_valid d3 d4 d5 hd5).ok (atI_in (dsmall_valid d3 d4 d5 hd5).ok hp2) (atI_in (dsmall_valid d3 d4 d5 hd5).ok hp3)).1 (two_in (dsmall_valid d6 d7 d8 hd8).ok (atI_in (dsmall_valid d6 d7 d8 hd8).ok hp4) (atI_in (dsmall_valid d6 d7 d8 hd8).ok hp5)).1 (two_in (dsmall_valid d0 d1 d2 hd2).ok (atI_in (dsmall_valid d0 d1 d2 hd2).ok hp0) (atI_in (dsmall_valid d0 d1 d2 hd2).ok hp1)).2 (two_in (dsmall_valid d3 d4 d5 hd5).ok (atI_in (dsmall_valid d3 d4 d5 hd5).ok hp2) (atI_in (dsmall_valid d3 d4 d5 hd5).ok hp3)).2 (two_in (dsmall_valid d6 d7 d8 hd8).ok (atI_in (dsmall_valid d6 d7 d8 hd8).ok hp4) (atI_in (dsmall_valid d6 d7 d8 hd8).ok hp5)).2
  replace hn2r := Lib.hid hn2r
  replace hn2s := Lib.hid hn2s
  obtain ⟨bn2, hbn2⟩ : ∃ b, b = (n2se == 0) := ⟨_, rfl⟩
  obtain ⟨ρ, hρ⟩ : ∃ ρ, ρ = ρL [x0, x1, x2, x3, x4, x5, y0, y1, y2, y3, y4, y5, d0, d1, d2, d3, d4, d5, d6, d7, d8, e0, e1, e2, e3, e4, e5, e6, e7, e8, p0, p1, p2, p3, p4, p5, q0, q1, q2, q3, q4, q5, (dLo 52 d0 d1), (dHi d0 d1 d2), (dLo 52 d3 d4), (dHi d3 d4 d5), (dLo 52 d6 d7), (dHi d6 d7 d8), (dLo 37 d0 d1), (dHs d0 d1 d2), (dLo 37 d3 d4), (dHs d3 d4 d5), (dLo 37 d6 d7), (dHs d6 d7 d8), (dLo 37 e0 e1), (dHs e0 e1 e2), (dLo 37 e3 e4), (dHs e3 e4 e5), (dLo 37 e6 e7), (dHs e6 e7 e8), (min (atI (dLo 52 d0 d1) (dHi d0 d1 d2) p0) (atI (dLo 52 d0 d1) (dHi d0 d1 d2) p1)), (max (atI (dLo 52 d0 d1) (dHi d0 d1 d2) p0) (atI (dLo 52 d0 d1) (dHi d0 d1 d2) p1)), (min (atI (dLo 52 d3 d4) (dHi d3 d4 d5) p2) (atI (dLo 52 d3 d4) (dHi d3 d4 d5) p3)), (max (atI (dLo 52 d3 d4) (dHi d3 d4 d5) p2) (atI (dLo 52 d3 d4) (dHi d3 d4 d5) p3)), (min (atI (dLo 52 d6 d7) (dHi d6 d7 d8) p4) (atI (dLo 52 d6 d7) (dHi d6 d7 d8) p5)), (max (atI (dLo 52 d6 d7) (dHi d6 d7 d8) p4) (atI (dLo 52 d6 d7) (dHi d6 d7 d8) p5)), (min (atI (dLo 37 e0 e1) (dHs e0 e1 e2) q0) (atI (dLo 37 e0 e1) (dHs e0 e1 e2) q1)), (max (atI (dLo 37 e0 e1) (dHs e0 e1 e2) q0) (atI (dLo 37 e0 e1) (dHs e0 e1 e2) q1)), (min (atI (dLo 37 e3 e4) (dHs e3 e4 e5) q2) (atI (dLo 37 e3 e4) (dHs e3 e4 e5) q3)), (max (atI (dLo 37 e3 e4) (dHs e3 e4 e5) q2) (atI (dLo 37 e3 e4) (dHs e3 e4 e5) q3)), (min (atI (dLo 37 e6 e7) (dHs e6 e7 e8) q4) (atI (dLo 37 e6 e7) (dHs e6 e7 e8) q5)), (max (atI (dLo 37 e6 e7) (dHs e6 e7 e8) q4) (atI (dLo 37 e6 e7) (dHs e6 e7 e8) q5)), a1r0, a1r1, a1r2, a1r3, a1r4, a1r5, a1re, a1s0, a1s1, a1s2, a1s3, a1s4, a1s5, a1se, s1r0, s1r1, s1r2, s1r3, s1r4, s1r5, s1re, s1s0, s1s1, s1s2, s1s3, s1s4, s1s5, s1se, c1r0, c1r1, c1r2, c1r3, c1r4, c1r5, c1re, c1s0, c1s1, c1s2, c1s3, c1s4, c1s5, c1se, u1r0, u1r1, u1r2, u1r3, u1r4, u1r5, u1re, u1s0, u1s1, u1s2, u1s3, u1s4, u1s5, u1se, d1r0, d1r1, d1re, d1s0, d1s1, d1se, n1r0, n1r1, n1re, n1s0, n1s1, n1se, (min (atI (dLo 37 d0 d1) (dHs d0 d1 d2) p0) (atI (dLo 37 d0 d1) (dHs d0 d1 d2) p1)), (max (atI (dLo 37 d0 d1) (dHs d0 d1 d2) p0) (atI (dLo 37 d0 d1) (dHs d0 d1 d2) p1)), (min (atI (dLo 37 d3 d4) (dHs d3 d4 d5) p2) (atI (dLo 37 d3 d4) (dHs d3 d4 d5) p3)), (max (atI (dLo 37 d3 d4) (dHs d3 d4 d5) p2) (atI (dLo 37 d3 d4) (dHs d3 d4 d5) p3)), (min (atI (dLo 37 d6 d7) (dHs d6 d7 d8) p4) (atI (dLo 37 d6 d7) (dHs d6 d7 d8) p5)), (max (atI (dLo 37 d6 d7) (dHs d6 d7 d8) p4) (atI (dLo 37 d6 d7) (dHs d6 d7 d8) p5)), a2r0, a2r1, a2r2, a2r3, a2r4, a2r5, a2re, a2s0, a2s1, a2s2, a2s3, a2s4, a2s5, a2se, s2r0, s2r1, s2r2, s2r3, s2r4, s2r5, s2re, s2s0, s2s1, s2s2, s2s3, s2s4, s2s5, s2se, c2r0, c2r1, c2r2, c2r3, c2r4, c2r5, c2re, c2s0, c2s1, c2s2, c2s3, c2s4, c2s5, c2se, u2r0, u2r1, u2r2, u2r3, u2r4, u2r5, u2re, u2s0, u2s1, u2s2, u2s3, u2s4, u2s5, u2se, d2r0, d2r1, d2re, d2s0, d2s1, d2se, n2r0, n2r1, n2re, n2s0, n2s1, n2se] := ⟨_, rfl⟩
  have hL : ∀ e ∈ oNvL bd1 bn1 bd2 bn2, EntOk Try.prog ρ e := by
    intro e he
    simp only [oNvL, List.mem_cons, List.not_mem_nil, or_false] at he
    rcases he with rfl | rfl | rfl | rfl | rfl | rfl | rfl | rfl | rfl | rfl | rfl | rfl | rfl | rfl | rfl | rfl | rfl | rfl | rfl | rfl | rfl | rfl | rfl | rfl | rfl | rfl | rfl | rfl | rfl | rfl | rfl | rfl | rfl | rfl | rfl | rfl | rfl | rfl | rfl | rfl | rfl | rfl | rfl | rfl | rfl | rfl | rfl | rfl | rfl | rfl | rfl
    · rw [hρ]; exact fun s w => c_dspanD d0 d1 d2 hd1 hd2 w
    · rw [hρ]; exact fun s w => c_dspanD d3 d4 d5 hd4 hd5 w
    · rw [hρ]; exact fun s w => c_dspanD d6 d7 d8 hd7 hd8 w
    · rw [hρ]; exact fun s w => c_dsmallD d0 d1 d2 hd1 hd2 w
    · rw [hρ]; exact fun s w => c_dsmallD d3 d4 d5 hd4 hd5 w
    · rw [hρ]; exact fun s w => c_dsmallD d6 d7 d8 hd7 hd8 w
    · rw [hρ]; exact fun s w => c_dsmallD e0 e1 e2 he1 he2 w
    · rw [hρ]; exact fun s w => c_dsmallD e3 e4 e5 he4 he5 w
    · rw [hρ]; exact fun s w => c_dsmallD e6 e7 e8 he7 he8 w
    · rw [hρ]; exact fun s w => c_part _ _ _ _ (dspan_valid d0 d1 d2 hd2) hp0 hp1 w
    · rw [hρ]; exact fun s w => c_part _ _ _ _ (dspan_valid d3 d4 d5 hd5) hp2 hp3 w
    · rw [hρ]; exact fun s w => c_part _ _ _ _ (dspan_valid d6 d7 d8 hd8) hp4 hp5 w
    · rw [hρ]; exact fun s w => c_part _ _ _ _ (dsmall_valid e0 e1 e2 he2).ok hq0 hq1 w
    · rw [hρ]; exact fun s w => c_part _ _ _ _ (dsmall_valid e3 e4 e5 he5).ok hq2 hq3 w
    · rw [hρ]; exact fun s w => c_part _ _ _ _ (dsmall_valid e6 e7 e8 he8).ok hq4 hq5 w
    · rw [hρ]; exact fun s w => ha1r.out w
    · rw [hρ]; exact fun s w => ha1s.out w
    · rw [hρ]; exact fun s w => c_vinside _ _ _ _ _ _ _ _ _ _ _ _ _ _ ha1h w
    · rw [hρ]; exact fun s w => hs1r.out w
    · rw [hρ]; exact fun s w => hs1s.out w
    · rw [hρ]; exact fun s w => c_vinside _ _ _ _ _ _ _ _ _ _ _ _ _ _ hs1h w
    · rw [hρ]; exact fun s w => hc1r.out w
    · rw [hρ]; exact fun s w => hc1s.out w
    · rw [hρ]; exact fun s w => c_vinside _ _ _ _ _ _ _ _ _ _ _ _ _ _ hc1h w
    · rw [hρ]; exact fun s w => hu1r.out w
    · rw [hρ]; exact fun s w => hu1s.out w
    · rw [hρ]; exact fun s w => c_vinside _ _ _ _ _ _ _ _ _ _ _ _ _ _ hu1h w
    · rw [hρ]; exact fun s w => hd1r.out w
    · rw [hρ]; exact fun s w => hd1s.out w
    · rw [hρ]; exact fun s w => hn1r.out w
    · rw [hρ]; exact fun s w => hn1s.out w
    · rw [hρ]; exact fun s w => c_part _ _ _ _ (dsmall_valid d0 d1 d2 hd2).ok hp0 hp1 w
    · rw [hρ]; exact fun s w => c_part _ _ _ _ (dsmall_valid d3 d4 d5 hd5).ok hp2 hp3 w
    · rw [hρ]; exact fun s w => c_part _ _ _ _ (dsmall_valid d6 d7 d8 hd8).ok hp4 hp5 w
    · rw [hρ]; exact fun s w => ha2r.out w
    · rw [hρ]; exact fun s w => ha2s.out w
    · rw [hρ]; exact fun s w => c_vinside _ _ _ _ _ _ _ _ _ _ _ _ _ _ ha2h w
    · rw [hρ]; exact fun s w => hs2r.out w
    · rw [hρ]; exact fun s w => hs2s.out w
    · rw [hρ]; exact fun s w => c_vinside _ _ _ _ _ _ _ _ _ _ _ _ _ _ hs2h w
    · rw [hρ]; exact fun s w => hc2r.out w
    · rw [hρ]; exact fun s w => hc2s.out w
    · rw [hρ]; exact fun s w => c_vinside _ _ _ _ _ _ _ _ _ _ _ _ _ _ hc2h w
    · rw [hρ]; exact fun s w => hu2r.out w
    · rw [hρ]; exact fun s w => hu2s.out w
    · rw [hρ]; exact fun s w => c_vinside _ _ _ _ _ _ _ _ _ _ _ _ _ _ hu2h w
    · rw [hρ]; exact fun s w => hd2r.out w
    · rw [hρ]; exact fun s w => hd2s.out w
    · rw [hρ]; exact fun s w => hn2r.out w
    · rw [hρ]; exact fun s w => hn2s.out w
    · rw [hρ]; exact fun s w => c_works w
  have hF : FactsOk ρ (oNvF bd1 bn1 bd2 bn2) := by
    refine ⟨?_, by simp [oNvF], by simp [oNvF], by simp [oNvF]⟩
    intro e he
    simp only [oNvF, List.mem_append, List.mem_cons, List.not_mem_nil, or_false] at he
    rcases he with (((((rfl | rfl | rfl | rfl) | he) | he) | he) | he)
    · rw [hρ, hbd1]; rfl
    · rw [hρ, hbn1]; rfl
    · rw [hρ, hbd2]; rfl
    · rw [hρ, hbn2]; rfl
    · obtain ⟨hb, he⟩ := cond_mem he
      rw [hb] at hbd1
      obtain ⟨g1, g2, g3⟩ := hd1h (by simpa using hbd1.symm)
      simp only [List.mem_cons, List.not_mem_nil, or_false] at he
      rw [hρ]
      rcases he with rfl | rfl | rfl
      · show some (d1re != 0) = some false; rw [g1]; rfl
      · show some (decide (d1s0 ≤ d1r0)) = some true; rw [decide_eq_true g2]
      · show some (decide (d1r1 ≤ d1s1)) = some true; rw [decide_eq_true g3]
    · obtain ⟨hb, he⟩ := cond_mem he
      rw [hb] at hbn1
      obtain ⟨g1, g2, g3⟩ := hn1h (by simpa using hbn1.symm)
      simp only [List.mem_cons, List.not_mem_nil, or_false] at he
      rw [hρ]
      rcases he with rfl | rfl | rfl
      · show some (n1re != 0) = some false; rw [g1]; rfl
      · show some (decide (n1s0 ≤ n1r0)) = some true; rw [decide_eq_true g2]
      · show some (decide (n1r1 ≤ n1s1)) = some true; rw [decide_eq_true g3]
    · obtain ⟨hb, he⟩ := cond_mem he
      rw [hb] at hbd2
      obtain ⟨g1, g2, g3⟩ := hd2h (by simpa using hbd2.symm)
      simp only [List.mem_cons, List.not_mem_nil, or_false] at he
      rw [hρ]
      rcases he with rfl | rfl | rfl
      · show some (d2re != 0) = some false; rw [g1]; rfl
      · show some (decide (d2s0 ≤ d2r0)) = some true; rw [decide_eq_true g2]
      · show some (decide (d2r1 ≤ d2s1)) = some true; rw [decide_eq_true g3]
    · obtain ⟨hb, he⟩ := cond_mem he
      rw [hb] at hbn2
      obtain ⟨g1, g2, g3⟩ := hn2h (by simpa using hbn2.symm)
      simp only [List.mem_cons, List.not_mem_nil, or_false] at he
      rw [hρ]
      rcases he with rfl | rfl | rfl
      · show some (n2re != 0) = some false; rw [g1]; rfl
      · show some (decide (n2s0 ≤ n2r0)) = some true; rw [decide_eq_true g2]
      · show some (decide (n2r1 ≤ n2s1)) = some true; rw [decide_eq_true g3]
  have h := calls_run (oNv_run bd1 bn1 bd2 bn2) hF (by intro e he; simp only [List.mem_cons, List.not_mem_nil, or_false] at he; rcases he with rfl | rfl; exact eqOk_span; exact eqOk_vec) hL (by simp) rfl w
  rw [hρ] at h
  refine (show Calls Try.prog 3 #[.agg #[.int .i64 x0, .int .i64 x1, .int .i64 x2, .int .i64 x3, .int .i64 x4, .int .i64 x5, .int .i64 y0, .int .i64 y1, .int .i64 y2, .int .i64 y3, .int .i64 y4, .int .i64 y5, .int .i64 d0, .int .u8 d1, .int .u32 d2, .int .i64 d3, .int .u8 d4, .int .u32 d5, .int .i64 d6, .int .u8 d7, .int .u32 d8, .int .i64 e0, .int .u8 e1, .int .u32 e2, .int .i64 e3, .int .u8 e4, .int .u32 e5, .int .i64 e6, .int .u8 e7, .int .u32 e8], .agg #[.int .u64 p0, .int .u64 p1, .int .u64 p2, .int .u64 p3, .int .u64 p4, .int .u64 p5], .agg #[.int .u64 q0, .int .u64 q1, .int .u64 q2, .int .u64 q3, .int .u64 q4, .int .u64 q5]] w _ from h).mono ?_
  rintro e w' ⟨⟨s, he⟩, hb⟩
  exact ⟨he, hb⟩

end Go.Proofs.Ytpdaigenffecmaa
