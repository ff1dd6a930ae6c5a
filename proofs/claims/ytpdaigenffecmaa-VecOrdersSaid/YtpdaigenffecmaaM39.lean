/-
  The statement VecOrders: its code answers true. The statements' arguments: read, opened and shut. The statements' argument: two vectors and two drafts.
-/
import Derived.Test.YtpdaigenffecmaaM31
import Derived.Test.YtpdaigenffecmaaM33
import Derived.Test.YtpdaigenffecmaaM34
import Derived.Test.YtpdaigenffecmaaM38
set_option linter.all false
namespace Go.Proofs.Ytpdaigenffecmaa
open Go.RowKit Go.Shelf

def oKoL (b11 b12 b21 b22 : Bool) : List Ent := [
  ⟨100, [.v (.agg (dr 12))], .v (SR (rg 30 2))⟩,
  ⟨100, [.v (.agg (dr 15))], .v (SR (rg 32 2))⟩,
  ⟨100, [.v (.agg (dr 18))], .v (SR (rg 34 2))⟩,
  ⟨101, [.v (.agg (dr 12))], .v (SR (rg 36 2))⟩,
  ⟨101, [.v (.agg (dr 15))], .v (SR (rg 38 2))⟩,
  ⟨101, [.v (.agg (dr 18))], .v (SR (rg 40 2))⟩,
  ⟨101, [.v (.agg (dr 21))], .v (SR (rg 42 2))⟩,
  ⟨101, [.v (.agg (dr 24))], .v (SR (rg 44 2))⟩,
  ⟨101, [.v (.agg (dr 27))], .v (SR (rg 46 2))⟩,
  ⟨13, [SV (rg 30 6), SV (rg 42 6)], SE (rg 48 6) 54⟩,
  ⟨13, [SV (rg 42 6), SV (rg 30 6)], SE (rg 48 6) 54⟩,
  ⟨18, [SV (rg 30 6), SV (rg 42 6)], SE (rg 55 2) 57⟩,
  ⟨18, [SV (rg 42 6), SV (rg 30 6)], SE (rg 55 2) 57⟩,
  ⟨14, [SV (rg 30 6), SV (rg 42 6)], SE (rg 58 6) 64⟩,
  ⟨14, [SV (rg 42 6), SV (rg 30 6)], SE (rg 65 6) 64⟩,
  ⟨21, [SV (rg 65 6)], SE0 (if b11 then rg 58 6 else rg 84 6)⟩,
  ⟨15, [SV (rg 30 6), SV (rg 42 6)], SE (rg 71 6) 77⟩,
  ⟨15, [SV (rg 42 6), SV (rg 30 6)], SE (rg 78 6) 77⟩,
  ⟨21, [SV (rg 78 6)], SE0 (if b12 then rg 71 6 else rg 90 6)⟩,
  ⟨21, [SV (rg 42 6)], SE0 (rg 96 6)⟩,
  ⟨13, [SV (rg 30 6), SV (rg 96 6)], SE (rg 58 6) 64⟩,
  ⟨13, [SV (rg 36 6), SV (rg 42 6)], SE (rg 102 6) 108⟩,
  ⟨13, [SV (rg 42 6), SV (rg 36 6)], SE (rg 102 6) 108⟩,
  ⟨18, [SV (rg 36 6), SV (rg 42 6)], SE (rg 109 2) 111⟩,
  ⟨18, [SV (rg 42 6), SV (rg 36 6)], SE (rg 109 2) 111⟩,
  ⟨14, [SV (rg 36 6), SV (rg 42 6)], SE (rg 112 6) 118⟩,
  ⟨14, [SV (rg 42 6), SV (rg 36 6)], SE (rg 119 6) 118⟩,
  ⟨21, [SV (rg 119 6)], SE0 (if b21 then rg 112 6 else rg 138 6)⟩,
  ⟨15, [SV (rg 36 6), SV (rg 42 6)], SE (rg 125 6) 131⟩,
  ⟨15, [SV (rg 42 6), SV (rg 36 6)], SE (rg 132 6) 131⟩,
  ⟨21, [SV (rg 132 6)], SE0 (if b22 then rg 125 6 else rg 144 6)⟩,
  ⟨13, [SV (rg 36 6), SV (rg 96 6)], SE (rg 112 6) 118⟩,
  ⟨10, [], .v (.one (.bool true))⟩]
def oKoF (b11 b12 b21 b22 : Bool) : Facts := { cmp := [(.eql, .sym 64, .lit 0, b11), (.eql, .sym 77, .lit 0, b12), (.eql, .sym 118, .lit 0, b21), (.eql, .sym 131, .lit 0, b22)] }
def oKoA : List AV := [.v (.agg ((rg 0 12).map S1 ++ dr 12 ++ dr 15 ++ dr 18 ++ dr 21 ++ dr 24 ++ dr 27))]

set_option maxRecDepth 100000 in
theorem oKo_run (b11 b12 b21 b22 : Bool) : runA Try.prog (tab Try.prog (oKoF b11 b12 b21 b22) [(23, 2), (25, 6)] (oKoL b11 b12 b21 b22) []) 6 4 oKoA = some (.v (.one (.bool true))) := by
  cases b11 <;> cases b12 <;> cases b21 <;> cases b22 <;> kernel_rfl

set_option maxRecDepth 100000 in
set_option maxHeartbeats 4000000 in
theorem c_lawVecOrders (x0 x1 x2 x3 x4 x5 y0 y1 y2 y3 y4 y5 d0 d1 d2 d3 d4 d5 d6 d7 d8 e0 e1 e2 e3 e4 e5 e6 e7 e8 : Int) (hd1 : 0 ≤ d1 ∧ d1 ≤ 255) (hd2 : 0 ≤ d2 ∧ d2 ≤ 4294967295) (hd4 : 0 ≤ d4 ∧ d4 ≤ 255) (hd5 : 0 ≤ d5 ∧ d5 ≤ 4294967295) (hd7 : 0 ≤ d7 ∧ d7 ≤ 255) (hd8 : 0 ≤ d8 ∧ d8 ≤ 4294967295) (he1 : 0 ≤ e1 ∧ e1 ≤ 255) (he2 : 0 ≤ e2 ∧ e2 ≤ 4294967295) (he4 : 0 ≤ e4 ∧ e4 ≤ 255) (he5 : 0 ≤ e5 ∧ e5 ≤ 4294967295) (he7 : 0 ≤ e7 ∧ e7 ≤ 255) (he8 : 0 ≤ e8 ∧ e8 ≤ 4294967295) (w : World) :
    Calls Try.prog 4 #[.agg #[.int .i64 x0, .int .i64 x1, .int .i64 x2, .int .i64 x3, .int .i64 x4, .int .i64 x5, .int .i64 y0, .int .i64 y1, .int .i64 y2, .int .i64 y3, .int .i64 y4, .int .i64 y5, .int .i64 d0, .int .u8 d1, .int .u32 d2, .int .i64 d3, .int .u8 d4, .int .u32 d5, .int .i64 d6, .int .u8 d7, .int .u32 d8, .int .i64 e0, .int .u8 e1, .int .u32 e2, .int .i64 e3, .int .u8 e4, .int .u32 e5, .int .i64 e6, .int .u8 e7, .int .u32 e8]] w fun e w' => e = .returned (.bool true) ∧ Below w.heap.size w w' := by
  obtain ⟨q1a0, q1a1, q1a2, q1a3, q1a4, q1a5, q1ae, q1d0, q1d1, q1de, q1s0, q1s1, q1s2, q1s3, q1s4, q1s5, q1se, q1r0, q1r1, q1r2, q1r3, q1r4, q1r5, q1c0, q1c1, q1c2, q1c3, q1c4, q1c5, q1ce, q1k0, q1k1, q1k2, q1k3, q1k4, q1k5, h1_0, h1_1, h1_2, h1_3, h1_4, h1_5, h1_6, h1_7, h1_8, h1_9, h1_10, h1_11, hse1, hce1⟩ := round_orders (dLo 52 d0 d1) (dHi d0 d1 d2) (dLo 52 d3 d4) (dHi d3 d4 d5) (dLo 52 d6 d7) (dHi d6 d7 d8) (dLo 37 e0 e1) (dHs e0 e1 e2) (dLo 37 e3 e4) (dHs e3 e4 e5) (dLo 37 e6 e7) (dHs e6 e7 e8) (dspan_valid d0 d1 d2 hd2) (dspan_valid d3 d4 d5 hd5) (dspan_valid d6 d7 d8 hd8) (dsmall_valid e0 e1 e2 he2).ok (dsmall_valid e3 e4 e5 he5).ok (dsmall_valid e6 e7 e8 he8).ok
  replace h1_0 := Lib.hid h1_0
  replace h1_1 := Lib.hid h1_1
  replace h1_2 := Lib.hid h1_2
  replace h1_3 := Lib.hid h1_3
  replace h1_4 := Lib.hid h1_4
  replace h1_5 := Lib.hid h1_5
  replace h1_6 := Lib.hid h1_6
  replace h1_7 := Lib.hid h1_7
  replace h1_8 := Lib.hid h1_8
  replace h1_9 := Lib.hid h1_9
  replace h1_10 := Lib.hid h1_10
  replace h1_11 := Lib.hid h1_11
  obtain ⟨q2a0, q2a1, q2a2, q2a3, q2a4, q2a5, q2ae, q2d0, q2d1, q2de, q2s0, q2s1, q2s2, q2s3, q2s4, q2s5, q2se, q2r0, q2r1, q2r2, q2r3, q2r4, q2r5, q2c0, q2c1, q2c2, q2c3, q2c4, q2c5, q2ce, q2k0, q2k1, q2k2, q2k3, q2k4, q2k5, h2_0, h2_1, h2_2, h2_3, h2_4, h2_5, h2_6, h2_7, h2_8, h2_9, h2_10, h2_11, hse2, hce2⟩ := round_orders (dLo 37 d0 d1) (dHs d0 d1 d2) (dLo 37 d3 d4) (dHs d3 d4 d5) (dLo 37 d6 d7) (dHs d6 d7 d8) (dLo 37 e0 e1) (dHs e0 e1 e2) (dLo 37 e3 e4) (dHs e3 e4 e5) (dLo 37 e6 e7) (dHs e6 e7 e8) (dsmall_valid d0 d1 d2 hd2).ok (dsmall_valid d3 d4 d5 hd5).ok (dsmall_valid d6 d7 d8 hd8).ok (dsmall_valid e0 e1 e2 he2).ok (dsmall_valid e3 e4 e5 he5).ok (dsmall_valid e6 e7 e8 he8).ok
  replace h2_0 := Lib.hid h2_0
  replace h2_1 := Lib.hid h2_1
  replace h2_2 := Lib.hid h2_2
  replace h2_3 := Lib.hid h2_3
  replace h2_4 := Lib.hid h2_4
  replace h2_5 := Lib.hid h2_5
  replace h2_6 := Lib.hid h2_6
  replace h2_7 := Lib.hid h2_7
  replace h2_8 := Lib.hid h2_8
  replace h2_9 := Lib.hid h2_9
  replace h2_10 := Lib.hid h2_10
  replace h2_11 := Lib.hid h2_11
  obtain ⟨ρ, hρ⟩ : ∃ ρ, ρ = ρL [x0, x1, x2, x3, x4, x5, y0, y1, y2, y3, y4, y5, d0, d1, d2, d3, d4, d5, d6, d7, d8, e0, e1, e2, e3, e4, e5, e6, e7, e8, (dLo 52 d0 d1), (dHi d0 d1 d2), (dLo 52 d3 d4), (dHi d3 d4 d5), (dLo 52 d6 d7), (dHi d6 d7 d8), (dLo 37 d0 d1), (dHs d0 d1 d2), (dLo 37 d3 d4), (dHs d3 d4 d5), (dLo 37 d6 d7), (dHs d6 d7 d8), (dLo 37 e0 e1), (dHs e0 e1 e2), (dLo 37 e3 e4), (dHs e3 e4 e5), (dLo 37 e6 e7), (dHs e6 e7 e8), q1a0, q1a1, q1a2, q1a3, q1a4, q1a5, q1ae, q1d0, q1d1, q1de, q1s0, q1s1, q1s2, q1s3, q1s4, q1s5, q1se, q1r0, q1r1, q1r2, q1r3, q1r4, q1r5, q1c0, q1c1, q1c2, q1c3, q1c4, q1c5, q1ce, q1k0, q1k1, q1k2, q1k3, q1k4, q1k5, (-q1r1), (-q1r0), (-q1r3), (-q1r2), (-q1r5), (-q1r4), (-q1k1), (-q1k0), (-q1k3), (-q1k2), (-q1k5), (-q1k4), (-(dHs e0 e1 e2)), (-(dLo 37 e0 e1)), (-(dHs e3 e4 e5)), (-(dLo 37 e3 e4)), (-(dHs e6 e7 e8)), (-(dLo 37 e6 e7)), q2a0, q2a1, q2a2, q2a3, q2a4, q2a5, q2ae, q2d0, q2d1, q2de, q2s0, q2s1, q2s2, q2s3, q2s4, q2s5, q2se, q2r0, q2r1, q2r2, q2r3, q2r4, q2r5, q2c0, q2c1, q2c2, q2c3, q2c4, q2c5, q2ce, q2k0, q2k1, q2k2, q2k3, q2k4, q2k5, (-q2r1), (-q2r0), (-q2r3), (-q2r2), (-q2r5), (-q2r4), (-q2k1), (-q2k0), (-q2k3), (-q2k2), (-q2k5), (-q2k4)] := ⟨_, rfl⟩
  obtain ⟨b11, hb11⟩ : ∃ b, b = (q1se == 0) := ⟨_, rfl⟩
  obtain ⟨b12, hb12⟩ : ∃ b, b = (q1ce == 0) := ⟨_, rfl⟩
  obtain ⟨b21, hb21⟩ : ∃ b, b = (q2se == 0) := ⟨_, rfl⟩
  obtain ⟨b22, hb22⟩ : ∃ b, b = (q2ce == 0) := ⟨_, rfl⟩
  have N1r : EntOk Try.prog (ρL [x0, x1, x2, x3, x4, x5, y0, y1, y2, y3, y4, y5, d0, d1, d2, d3, d4, d5, d6, d7, d8, e0, e1, e2, e3, e4, e5, e6, e7, e8, (dLo 52 d0 d1), (dHi d0 d1 d2), (dLo 52 d3 d4), (dHi d3 d4 d5), (dLo 52 d6 d7), (dHi d6 d7 d8), (dLo 37 d0 d1), (dHs d0 d1 d2), (dLo 37 d3 d4), (dHs d3 d4 d5), (dLo 37 d6 d7), (dHs d6 d7 d8), (dLo 37 e0 e1), (dHs e0 e1 e2), (dLo 37 e3 e4), (dHs e3 e4 e5), (dLo 37 e6 e7), (dHs e6 e7 e8), q1a0, q1a1, q1a2, q1a3, q1a4, q1a5, q1ae, q1d0, q1d1, q1de, q1s0, q1s1, q1s2, q1s3, q1s4, q1s5, q1se, q1r0, q1r1, q1r2, q1r3, q1r4, q1r5, q1c0, q1c1, q1c2, q1c3, q1c4, q1c5, q1ce, q1k0, q1k1, q1k2, q1k3, q1k4, q1k5, (-q1r1), (-q1r0), (-q1r3), (-q1r2), (-q1r5), (-q1r4), (-q1k1), (-q1k0), (-q1k3), (-q1k2), (-q1k5), (-q1k4), (-(dHs e0 e1 e2)), (-(dLo 37 e0 e1)), (-(dHs e3 e4 e5)), (-(dLo 37 e3 e4)), (-(dHs e6 e7 e8)), (-(dLo 37 e6 e7)), q2a0, q2a1, q2a2, q2a3, q2a4, q2a5, q2ae, q2d0, q2d1, q2de, q2s0, q2s1, q2s2, q2s3, q2s4, q2s5, q2se, q2r0, q2r1, q2r2, q2r3, q2r4, q2r5, q2c0, q2c1, q2c2, q2c3, q2c4, q2c5, q2ce, q2k0, q2k1, q2k2, q2k3, q2k4, q2k5, (-q2r1), (-q2r0), (-q2r3), (-q2r2), (-q2r5), (-q2r4), (-q2k1), (-q2k0), (-q2k3), (-q2k2), (-q2k5), (-q2k4)]) ⟨21, [SV (rg 65 6)], SE0 (if b11 then rg 58 6 else rg 84 6)⟩ := by
    cases hbb : b11
    · exact fun s w => h1_6.out w
    · rw [hbb] at hb11
      obtain ⟨e0, e1, e2, e3, e4, e5⟩ := hse1 (by simpa using hb11.symm)
      intro s w
      have h := h1_6.out w
      rw [← e0, ← e1, ← e2, ← e3, ← e4, ← e5] at h
      exact h
  have N1k : EntOk Try.prog (ρL [x0, x1, x2, x3, x4, x5, y0, y1, y2, y3, y4, y5, d0, d1, d2, d3, d4, d5, d6, d7, d8, e0, e1, e2, e3, e4, e5, e6, e7, e8, (dLo 52 d0 d1), (dHi d0 d1 d2), (dLo 52 d3 d4), (dHi d3 d4 d5), (dLo 52 d6 d7), (dHi d6 d7 d8), (dLo 37 d0 d1), (dHs d0 d1 d2), (dLo 37 d3 d4), (dHs d3 d4 d5), (dLo 37 d6 d7), (dHs d6 d7 d8), (dLo 37 e0 e1), (dHs e0 e1 e2), (dLo 37 e3 e4), (dHs e3 e4 e5), (dLo 37 e6 e7), (dHs e6 e7 e8), q1a0, q1a1, q1a2, q1a3, q1a4, q1a5, q1ae, q1d0, q1d1, q1de, q1s0, q1s1, q1s2, q1s3, q1s4, q1s5, q1se, q1r0, q1r1, q1r2, q1r3, q1r4, q1r5, q1c0, q1c1, q1c2, q1c3, q1c4, q1c5, q1ce, q1k0, q1k1, q1k2, q1k3, q1k4, q1k5, (-q1r1), (-q1r0), (-q1r3), (-q1r2), (-q1r5), (-q1r4), (-q1k1), (-q1k0), (-q1k3), (-q1k2), (-q1k5), (-q1k4), (-(dHs e0 e1 e2)), (-(dLo 37 e0 e1)), (-(dHs e3 e4 e5)), (-(dLo 37 e3 e4)), (-(dHs e6 e7 e8)), (-(dLo 37 e6 e7)), q2a0, q2a1, q2a2, q2a3, q2a4, q2a5, q2ae, q2d0, q2d1, q2de, q2s0, q2s1, q2s2, q2s3, q2s4, q2s5, q2se, q2r0, q2r1, q2r2, q2r3, q2r4, q2r5, q2c0, q2c1, q2c2, q2c3, q2c4, q2c5, q2ce, q2k0, q2k1, q2k2, q2k3, q2k4, q2k5, (-q2r1), (-q2r0), (-q2r3), (-q2r2), (-q2r5), (-q2r4), (-q2k1), (-q2k0), (-q2k3), (-q2k2), (-q2k5), (-q2k4)]) ⟨21, [SV (rg 78 6)], SE0 (if b12 then rg 71 6 else rg 90 6)⟩ := by
    cases hbb : b12
    · exact fun s w => h1_9.out w
    · rw [hbb] at hb12
      obtain ⟨e0, e1, e2, e3, e4, e5⟩ := hce1 (by simpa using hb12.symm)
      intro s w
      have h := h1_9.out w
      rw [← e0, ← e1, ← e2, ← e3, ← e4, ← e5] at h
      exact h
  have N2r : EntOk Try.prog (ρL [x0, x1, x2, x3, x4, x5, y0, y1, y2, y3, y4, y5, d0, d1, d2, d3, d4, d5, d6, d7, d8, e0, e1, e2, e3, e4, e5, e6, e7, e8, (dLo 52 d0 d1), (dHi d0 d1 d2), (dLo 52 d3 d4), (dHi d3 d4 d5), (dLo 52 d6 d7), (dHi d6 d7 d8), (dLo 37 d0 d1), (dHs d0 d1 d2), (dLo 37 d3 d4), (dHs d3 d4 d5), (dLo 37 d6 d7), (dHs d6 d7 d8), (dLo 37 e0 e1), (dHs e0 e1 e2), (dLo 37 e3 e4), (dHs e3 e4 e5), (dLo 37 e6 e7), (dHs e6 e7 e8), q1a0, q1a1, q1a2, q1a3, q1a4, q1a5, q1ae, q1d0, q1d1, q1de, q1s0, q1s1, q1s2, q1s3, q1s4, q1s5, q1se, q1r0, q1r1, q1r2, q1r3, q1r4, q1r5, q1c0, q1c1, q1c2, q1c3, q1c4, q1c5, q1ce, q1k0, q1k1, q1k2, q1k3, q1k4, q1k5, (-q1r1), (-q1r0), (-q1r3), (-q1r2), (-q1r5), (-q1r4), (-q1k1), (-q1k0), (-q1k3), (-q1k2), (-q1k5), (-q1k4), (-(dHs e0 e1 e2)), (-(dLo 37 e0 e1)), (-(dHs e3 e4 e5)), (-(dLo 37 e3 e4)), (-(dHs e6 e7 e8)), (-(dLo 37 e6 e7)), q2a0, q2a1, q2a2, q2a3, q2a4, q2a5, q2ae, q2d0, q2d1, q2de, q2s0, q2s1, q2s2, q2s3, q2s4, q2s5, q2se, q2r0, q2r1, q2r2, q2r3, q2r4, q2r5, q2c0, q2c1, q2c2, q2c3, q2c4, q2c5, q2ce, q2k0, q2k1, q2k2, q2k3, q2k4, q2k5, (-q2r1), (-q2r0), (-q2r3), (-q2r2), (-q2r5), (-q2r4), (-q2k1), (-q2k0), (-q2k3), (-q2k2), (-q2k5), (-q2k4)]) ⟨21, [SV (rg 119 6)], SE0 (if b21 then rg 112 6 else rg 138 6)⟩ := by
    cases hbb : b21
    · exact fun s w => h2_6.out w
    · rw [hbb] at hb21
      obtain ⟨e0, e1, e2, e3, e4, e5⟩ := hse2 (by simpa using hb21.symm)
      intro s w
      have h := h2_6.out w
      rw [← e0, ← e1, ← e2, ← e3, ← e4, ← e5] at h
      exact h
  have N2k : EntOk Try.prog (ρL [x0, x1, x2, x3, x4, x5, y0, y1, y2, y3, y4, y5, d0, d1, d2, d3, d4, d5, d6, d7, d8, e0, e1, e2, e3, e4, e5, e6, e7, e8, (dLo 52 d0 d1), (dHi d0 d1 d2), (dLo 52 d3 d4), (dHi d3 d4 d5), (dLo 52 d6 d7), (dHi d6 d7 d8), (dLo 37 d0 d1), (dHs d0 d1 d2), (dLo 37 d3 d4), (dHs d3 d4 d5), (dLo 37 d6 d7), (dHs d6 d7 d8), (dLo 37 e0 e1), (dHs e0 e1 e2), (dLo 37 e3 e4), (dHs e3 e4 e5), (dLo 37 e6 e7), (dHs e6 e7 e8), q1a0, q1a1, q1a2, q1a3, q1a4, q1a5, q1ae, q1d0, q1d1, q1de, q1s0, q1s1, q1s2, q1s3, q1s4, q1s5, q1se, q1r0, q1r1, q1r2, q1r3, q1r4, q1r5, q1c0, q1c1, q1c2, q1c3, q1c4, q1c5, q1ce, q1k0, q1k1, q1k2, q1k3, q1k4, q1k5, (-q1r1), (-q1r0), (-q1r3), (-q1r2), (-q1r5), (-q1r4), (-q1k1), (-q1k0), (-q1k3), (-q1k2), (-q1k5), (-q1k4), (-(dHs e0 e1 e2)), (-(dLo 37 e0 e1)), (-(dHs e3 e4 e5)), (-(dLo 37 e3 e4)), (-(dHs e6 e7 e8)), (-(dLo 37 e6 e7)), q2a0, q2a1, q2a2, q2a3, q2a4, q2a5, q2ae, q2d0, q2d1, q2de, q2s0, q2s1, q2s2, q2s3, q2s4, q2s5, q2se, q2r0, q2r1, q2r2, q2r3, q2r4, q2r5, q2c0, q2c1, q2c2, q2c3, q2c4, q2c5, q2ce, q2k0, q2k1, q2k2, q2k3, q2k4, q2k5, (-q2r1), (-q2r0), (-q2r3), (-q2r2), (-q2r5), (-q2r4), (-q2k1), (-q2k0), (-q2k3), (-q2k2), (-q2k5), (-q2k4)]) ⟨21, [SV (rg 132 6)], SE0 (if b22 then rg 125 6 else rg 144 6)⟩ := by
    cases hbb : b22
    · exact fun s w => h2_9.out w
    · rw [hbb] at hb22
      obtain ⟨e0, e1, e2, e3, e4, e5⟩ := hce2 (by simpa using hb22.symm)
      intro s w
      have h := h2_9.out w
      rw [← e0, ← e1, ← e2, ← e3, ← e4, ← e5] at h
      exact h
  have hL : ∀ e ∈ oKoL b11 b12 b21 b22, EntOk Try.prog ρ e := by
    intro e he
    simp only [oKoL, List.mem_cons, List.not_mem_nil, or_false] at he
    rcases he with rfl | rfl | rfl | rfl | rfl | rfl | rfl | rfl | rfl | rfl | rfl | rfl | rfl | rfl | rfl | rfl | rfl | rfl | rfl | rfl | rfl | rfl | rfl | rfl | rfl | rfl | rfl | rfl | rfl | rfl | rfl | rfl | rfl
    · rw [hρ]; exact fun s w => c_dspanD d0 d1 d2 hd1 hd2 w
    · rw [hρ]; exact fun s w => c_dspanD d3 d4 d5 hd4 hd5 w
    · rw [hρ]; exact fun s w => c_dspanD d6 d7 d8 hd7 hd8 w
    · rw [hρ]; exact fun s w => c_dsmallD d0 d1 d2 hd1 hd2 w
    · rw [hρ]; exact fun s w => c_dsmallD d3 d4 d5 hd4 hd5 w
    · rw [hρ]; exact fun s w => c_dsmallD d6 d7 d8 hd7 hd8 w
    · rw [hρ]; exact fun s w => c_dsmallD e0 e1 e2 he1 he2 w
    · rw [hρ]; exact fun s w => c_dsmallD e3 e4 e5 he4 he5 w
    · rw [hρ]; exact fun s w => c_dsmallD e6 e7 e8 he7 he8 w
    · rw [hρ]; exact fun s w => h1_0.out w
    · rw [hρ]; exact fun s w => h1_1.out w
    · rw [hρ]; exact fun s w => h1_2.out w
    · rw [hρ]; exact fun s w => h1_3.out w
    · rw [hρ]; exact fun s w => h1_4.out w
    · rw [hρ]; exact fun s w => h1_5.out w
    · rw [hρ]; exact N1r
    · rw [hρ]; exact fun s w => h1_7.out w
    · rw [hρ]; exact fun s w => h1_8.out w
    · rw [hρ]; exact N1k
    · rw [hρ]; exact fun s w => h1_10.out w
    · rw [hρ]; exact fun s w => h1_11.out w
    · rw [hρ]; exact fun s w => h2_0.out w
    · rw [hρ]; exact fun s w => h2_1.out w
    · rw [hρ]; exact fun s w => h2_2.out w
    · rw [hρ]; exact fun s w => h2_3.out w
    · rw [hρ]; exact fun s w => h2_4.out w
    · rw [hρ]; exact fun s w => h2_5.out w
    · rw [hρ]; exact N2r
    · rw [hρ]; exact fun s w => h2_7.out w
    · rw [hρ]; exact fun s w => h2_8.out w
    · rw [hρ]; exact N2k
    · rw [hρ]; exact fun s w => h2_11.out w
    · rw [hρ]; exact fun s w => c_works w
  have hF : FactsOk ρ (oKoF b11 b12 b21 b22) := by
    refine ⟨?_, by simp [oKoF], by simp [oKoF], by simp [oKoF]⟩
    intro e he
    simp only [oKoF, List.mem_cons, List.not_mem_nil, or_false] at he
    rcases he with rfl | rfl | rfl | rfl
    · rw [hρ, hb11]; rfl
    · rw [hρ, hb12]; rfl
    · rw [hρ, hb21]; rfl
    · rw [hρ, hb22]; rfl
  have h := calls_run (oKo_run b11 b12 b21 b22) hF (by intro e he; simp only [List.mem_cons, List.not_mem_nil, or_false] at he; rcases he with rfl | rfl; exact eqOk_span; exact eqOk_vec) hL (by simp) rfl (fun _ => 0) w
  rw [hρ] at h
  refine (show Calls Try.prog 4 #[.agg #[.int .i64 x0, .int .i64 x1, .int .i64 x2, .int .i64 x3, .int .i64 x4, .int .i64 x5, .int .i64 y0, .int .i64 y1, .int .i64 y2, .int .i64 y3, .int .i64 y4, .int .i64 y5, .int .i64 d0, .int .u8 d1, .int .u32 d2, .int .i64 d3, .int .u8 d4, .int .u32 d5, .int .i64 d6, .int .u8 d7, .int .u32 d8, .int .i64 e0, .int .u8 e1, .int .u32 e2, .int .i64 e3, .int .u8 e4, .int .u32 e5, .int .i64 e6, .int .u8 e7, .int .u32 e8]] w _ from h).mono ?_
  rintro e w' ⟨⟨s, he⟩, hb⟩
  exact ⟨he, hb⟩

end Go.Proofs.Ytpdaigenffecmaa

namespace Go.Proofs.Ytpdaigenffecmaa
open Go.RowKit Go.ChangeShapes Go.WideShapes Go.Joins Go.Deep

theorem Try.cellsTwo : Try.prog.cellsOf 32 = 30 := by kernel_rfl
theorem Try.cellsVec : Try.prog.cellsOf 25 = 6 := by kernel_rfl
theorem Try.cellsDrafts : Try.prog.cellsOf 30 = 9 := by kernel_rfl
theorem Try.cellsSpan : Try.prog.cellsOf 23 = 2 := by kernel_rfl
theorem Try.cellsDraft : Try.prog.cellsOf 28 = 3 := by kernel_rfl
theorem Try.cellsInt : Try.prog.cellsOf 3 = 1 := by kernel_rfl
theorem Try.cellsU8 : Try.prog.cellsOf 5 = 1 := by kernel_rfl
theorem Try.cellsU32 : Try.prog.cellsOf 26 = 1 := by kernel_rfl

def dSpan {H : Type} (a b : Int) : DataW H := .agg [.lit (.int .i64 a), .lit (.int .i64 b)]
def dVec {H : Type} (a b c d e f : Int) : DataW H := .agg [dSpan a b, dSpan c d, dSpan e f]
def dDraft {H : Type} (a b c : Int) : DataW H := .agg [.lit (.int .i64 a), .lit (.int .u8 b), .lit (.int .u32 c)]
def dDrafts {H : Type} (a b c d e f g h i : Int) : DataW H := .agg [dDraft a b c, dDraft d e f, dDraft g h i]
/-- An integer of 64 bits. -/
def I64 (a : Int) : Prop := (Lit.int .i64 a).wf = true
def U8 (a : Int) : Prop := (Lit.int .u8 a).wf = true
def U32 (a : Int) : Prop := (Lit.int .u32 a).wf = true
theorem U8.bounds {a : Int} (h : U8 a) : 0 ≤ a ∧ a ≤ 255 := bounds_u8 h
theorem U32.bounds {a : Int} (h : U32 a) : 0 ≤ a ∧ a ≤ 4294967295 := bounds_u32 h

section
variable {H : Type} {enc : TypeId × Value → H} {w : World} {base : Nat} {spare : Nat → Bool} {held : Bool}
theorem m_span (n : Nat) {a b : Int} (ha : I64 a) (hb : I64 b) : DataW.trod enc Try.prog w base spare held (n + 2) 23 [.int .i64 a, .int .i64 b] = some (dSpan a b, []) := by
  have h0 : (Lit.int .i64 a).wf = true := ha
  have h1 : (Lit.int .i64 b).wf = true := hb
  exact trod_struct2_mk (y0 := (.lit (.int .i64 a), [])) (y1 := (.lit (.int .i64 b), [])) Try.underlying23 (by rw [Try.cellsSpan]; rfl) (by simp only [Try.cellsInt, Try.cellsU8, Try.cellsU32, Try.cellsDraft]; exact trod_int_mk n Try.underlying3 h0) (by simp only [Try.cellsInt, Try.cellsU8, Try.cellsU32, Try.cellsDraft]; exact trod_int_mk n Try.underlying3 h1)
theorem m_draft (n : Nat) {a b c : Int} (ha : I64 a) (hb : U8 b) (hc : U32 c) : DataW.trod enc Try.prog w base spare held (n + 2) 28 [.int .i64 a, .int .u8 b, .int .u32 c] = some (dDraft a b c, []) := by
  have h0 : (Lit.int .i64 a).wf = true := ha
  have h1 : (Lit.int .u8 b).wf = true := hb
  have h2 : (Lit.int .u32 c).wf = true := hc
  exact trod_struct3_mk (y0 := (.lit (.int .i64 a), [])) (y1 := (.lit (.int .u8 b), [])) (y2 := (.lit (.int .u32 c), [])) Try.underlying28 (by rw [Try.cellsDraft]; rfl) (by simp only [Try.cellsInt, Try.cellsU8, Try.cellsU32, Try.cellsDraft]; exact trod_int_mk n Try.underlying3 h0) (by simp only [Try.cellsInt, Try.cellsU8, Try.cellsU32, Try.cellsDraft]; exact trod_int_mk n Try.underlying5 h1) (by simp only [Try.cellsInt, Try.cellsU8, Try.cellsU32, Try.cellsDraft]; exact trod_int_mk n Try.underlying26 h2)
theorem m_drafts (n : Nat) {a b c d e f g h i : Int} (ha : I64 a) (hb : U8 b) (hc : U32 c) (hd : I64 d) (he : U8 e) (hf : U32 f) (hg : I64 g) (hh : U8 h) (hi : U32 i) :
    DataW.trod enc Try.prog w base spare held (n + 3) 30 [.int .i64 a, .int .u8 b, .int .u32 c, .int .i64 d, .int .u8 e, .int .u32 f, .int .i64 g, .int .u8 h, .int .u32 i] = some (dDrafts a b c d e f g h i, []) :=
  trod_struct3_mk (y0 := (dDraft a b c, [])) (y1 := (dDraft d e f, [])) (y2 := (dDraft g h i, [])) Try.underlying30 (by rw [Try.cellsDrafts]; rfl) (by simp only [Try.cellsInt, Try.cellsU8, Try.cellsU32, Try.cellsDraft]; exact m_draft n ha hb hc) (by simp only [Try.cellsInt, Try.cellsU8, Try.cellsU32, Try.cellsDraft]; exact m_draft n hd he hf) (by simp only [Try.cellsInt, Try.cellsU8, Try.cellsU32, Try.cellsDraft]; exact m_draft n hg hh hi)
theorem m_vec (n : Nat) {a b c d e f : Int} (ha : I64 a) (hb : I64 b) (hc : I64 c) (hd : I64 d) (he : I64 e) (hf : I64 f) :
    DataW.trod enc Try.prog w base spare held (n + 3) 25 [.int .i64 a, .int .i64 b, .int .i64 c, .int .i64 d, .int .i64 e, .int .i64 f] = some (dVec a b c d e f, []) := by
  have e0 : DataW.trod enc Try.prog w base spare held (n + 2) 23 [.int .i64 a, .int .i64 b] = some (dSpan a b, []) := m_span n ha hb
  have e1 : DataW.trod enc Try.prog w base spare held (n + 2) 23 [.int .i64 c, .int .i64 d] = some (dSpan c d, []) := m_span n hc hd
  have e2 : DataW.trod enc Try.prog w base spare held (n + 2) 23 [.int .i64 e, .int .i64 f] = some (dSpan e f, []) := m_span n he hf
  unfold DataW.trod
  rw [show Try.prog.underlying 25 = some (.array 3 23) by kernel_rfl]
  simp [Try.cellsVec, Try.cellsSpan, List.range, List.range.loop, e0, e1, e2, dVec]
theorem o_span {fuel : Nat} {u v : Value} {x : DataW H × List MemPlace} (h : DataW.trod enc Try.prog w base spare held fuel 23 [u, v] = some x) : ∃ a b, u = .int .i64 a ∧ v = .int .i64 b ∧ x = (dSpan a b, []) ∧ I64 a ∧ I64 b := by
  obtain ⟨y0, y1, n, hx, _, h0, h1⟩ := trod_struct2 Try.underlying23 h
  obtain ⟨a, e0, rfl, wa⟩ := DataW.trod_int Try.underlying3 h0
  obtain ⟨b, e1, rfl, wb⟩ := DataW.trod_int Try.underlying3 h1
  simp [Try.cellsInt] at e0 e1
  exact ⟨a, b, e0, e1, hx, wa, wb⟩
theorem o_draft {fuel : Nat} {u v z : Value} {x : DataW H × List MemPlace} (h : DataW.trod enc Try.prog w base spare held fuel 28 [u, v, z] = some x) : ∃ a b c, u = .int .i64 a ∧ v = .int .u8 b ∧ z = .int .u32 c ∧ x = (dDraft a b c, []) ∧ I64 a ∧ U8 b ∧ U32 c := by
  obtain ⟨y0, y1, y2, n, hx, _, h0, h1, h2⟩ := trod_struct3 Try.underlying28 h
  obtain ⟨a, e0, rfl, wa⟩ := DataW.trod_int Try.underlying3 h0
  obtain ⟨b, e1, rfl, wb⟩ := DataW.trod_int Try.underlying5 h1
  obtain ⟨c, e2, rfl, wc⟩ := DataW.trod_int Try.underlying26 h2
  simp [Try.cellsInt, Try.cellsU8, Try.cellsU32] at e0 e1 e2
  exact ⟨a, b, c, e0, e1, e2, hx, wa, wb, wc⟩
theorem o_vec {fuel : Nat} {c0 c1 c2 c3 c4 c5 : Value} {x : DataW H × List MemPlace} (h : DataW.trod enc Try.prog w base spare held fuel 25 [c0, c1, c2, c3, c4, c5] = some x) :
    ∃ a b c d e f, [c0, c1, c2, c3, c4, c5] = [.int .i64 a, .int .i64 b, .int .i64 c, .int .i64 d, .int .i64 e, .int .i64 f] ∧ x = (dVec a b c d e f, []) ∧ I64 a ∧ I64 b ∧ I64 c ∧ I64 d ∧ I64 e ∧ I64 f := by
  obtain ⟨xs, m, _, hx, _, hl, hf⟩ := DataW.trod_array (show Try.prog.underlying 25 = some (.array 3 23) by kernel_rfl) h
  obtain ⟨x0, x1, x2, rfl⟩ : ∃ x0 x1 x2, xs = [x0, x1, x2] := by
    match xs, hl with
    | [x0, x1, x2], _ => exact ⟨x0, x1, x2, rfl⟩
  have h0 := hf 0 (by decide); have h1 := hf 1 (by decide); have h2 := hf 2 (by decide)
  rw [Try.cellsSpan] at h0 h1 h2
  obtain ⟨a, b, rfl, rfl, rfl, wa, wb⟩ := o_span (by simpa using h0)
  obtain ⟨c, d, rfl, rfl, rfl, wc, wd⟩ := o_span (by simpa using h1)
  obtain ⟨e, f, rfl, rfl, rfl, we, wf⟩ := o_span (by simpa using h2)
  exact ⟨a, b, c, d, e, f, rfl, by rw [hx]; rfl, wa, wb, wc, wd, we, wf⟩
theorem o_drafts {fuel : Nat} {c0 c1 c2 c3 c4 c5 c6 c7 c8 : Value} {x : DataW H × List MemPlace} (h : DataW.trod enc Try.prog w base spare held fuel 30 [c0, c1, c2, c3, c4, c5, c6, c7, c8] = some x) :
    ∃ a b c d e f g i j, [c0, c1, c2, c3, c4, c5, c6, c7, c8] = [.int .i64 a, .int .u8 b, .int .u32 c, .int .i64 d, .int .u8 e, .int .u32 f, .int .i64 g, .int .u8 i, .int .u32 j] ∧ x = (dDrafts a b c d e f g i j, []) ∧
      I64 a ∧ U8 b ∧ U32 c ∧ I64 d ∧ U8 e ∧ U32 f ∧ I64 g ∧ U8 i ∧ U32 j := by
  obtain ⟨y0, y1, y2, n, hx, _, h0, h1, h2⟩ := trod_struct3 Try.underlying30 h
  simp only [Try.cellsDraft] at h0 h1 h2
  obtain ⟨a, b, c, rfl, rfl, rfl, rfl, wa, wb, wc⟩ := o_draft (by simpa using h0)
  obtain ⟨d, e, f, rfl, rfl, rfl, rfl, wd, we, wf⟩ := o_draft (by simpa using h1)
  obtain ⟨g, i, j, rfl, rfl, rfl, rfl, wg, wi, wj⟩ := o_draft (by simpa using h2)
  exact ⟨a, b, c, d, e, f, g, i, j, rfl, hx, wa, wb, wc, wd, we, wf, wg, wi, wj⟩
end

end Go.Proofs.Ytpdaigenffecmaa

namespace Go.Proofs.Ytpdaigenffecmaa
open Go.RowKit Go.ChangeShapes Go.WideShapes Go.Joins Go.Deep

theorem list30 {l : List Value} (h : l.length = 30) : ∃ c0 c1 c2 c3 c4 c5 c6 c7 c8 c9 c10 c11 c12 c13 c14 c15 c16 c17 c18 c19 c20 c21 c22 c23 c24 c25 c26 c27 c28 c29, l = [c0, c1, c2, c3, c4, c5, c6, c7, c8, c9, c10, c11, c12, c13, c14, c15, c16, c17, c18, c19, c20, c21, c22, c23, c24, c25, c26, c27, c28, c29] := by
  match l, h with
  | [c0, c1, c2, c3, c4, c5, c6, c7, c8, c9, c10, c11, c12, c13, c14, c15, c16, c17, c18, c19, c20, c21, c22, c23, c24, c25, c26, c27, c28, c29], _ => exact ⟨c0, c1, c2, c3, c4, c5, c6, c7, c8, c9, c10, c11, c12, c13, c14, c15, c16, c17, c18, c19, c20, c21, c22, c23, c24, c25, c26, c27, c28, c29, rfl⟩
section
variable {H : Type} {enc : TypeId × Value → H} {w : World} {base : Nat} {spare : Nat → Bool} {held : Bool}
set_option maxRecDepth 100000 in
theorem m_two {x0 x1 x2 x3 x4 x5 y0 y1 y2 y3 y4 y5 d0 d1 d2 d3 d4 d5 d6 d7 d8 e0 e1 e2 e3 e4 e5 e6 e7 e8 : Int} (w_x0 : I64 x0) (w_x1 : I64 x1) (w_x2 : I64 x2) (w_x3 : I64 x3) (w_x4 : I64 x4) (w_x5 : I64 x5) (w_y0 : I64 y0) (w_y1 : I64 y1) (w_y2 : I64 y2) (w_y3 : I64 y3) (w_y4 : I64 y4) (w_y5 : I64 y5) (w_d0 : I64 d0) (w_d1 : U8 d1) (w_d2 : U32 d2) (w_d3 : I64 d3) (w_d4 : U8 d4) (w_d5 : U32 d5) (w_d6 : I64 d6) (w_d7 : U8 d7) (w_d8 : U32 d8) (w_e0 : I64 e0) (w_e1 : U8 e1) (w_e2 : U32 e2) (w_e3 : I64 e3) (w_e4 : U8 e4) (w_e5 : U32 e5) (w_e6 : I64 e6) (w_e7 : U8 e7) (w_e8 : U32 e8) : DataW.Trod enc Try.prog w base spare held 32 (.agg #[.int .i64 x0, .int .i64 x1, .int .i64 x2, .int .i64 x3, .int .i64 x4, .int .i64 x5, .int .i64 y0, .int .i64 y1, .int .i64 y2, .int .i64 y3, .int .i64 y4, .int .i64 y5, .int .i64 d0, .int .u8 d1, .int .u32 d2, .int .i64 d3, .int .u8 d4, .int .u32 d5, .int .i64 d6, .int .u8 d7, .int .u32 d8, .int .i64 e0, .int .u8 e1, .int .u32 e2, .int .i64 e3, .int .u8 e4, .int .u32 e5, .int .i64 e6, .int .u8 e7, .int .u32 e8]) (.agg [dVec x0 x1 x2 x3 x4 x5, dVec y0 y1 y2 y3 y4 y5, dDrafts d0 d1 d2 d3 d4 d5 d6 d7 d8, dDrafts e0 e1 e2 e3 e4 e5 e6 e7 e8]) [] :=
  ⟨4, trod_struct4_mk (y0 := (dVec x0 x1 x2 x3 x4 x5, [])) (y1 := (dVec y0 y1 y2 y3 y4 y5, [])) (y2 := (dDrafts d0 d1 d2 d3 d4 d5 d6 d7 d8, [])) (y3 := (dDrafts e0 e1 e2 e3 e4 e5 e6 e7 e8, [])) Try.underlying32 (by rw [Try.cellsTwo]; rfl)
    (by simp only [Try.cellsVec]; exact m_vec 0 w_x0 w_x1 w_x2 w_x3 w_x4 w_x5) (by simp only [Try.cellsVec]; exact m_vec 0 w_y0 w_y1 w_y2 w_y3 w_y4 w_y5) (by simp only [Try.cellsDrafts]; exact m_drafts 0 w_d0 w_d1 w_d2 w_d3 w_d4 w_d5 w_d6 w_d7 w_d8) (by simp only [Try.cellsDrafts]; exact m_drafts 0 w_e0 w_e1 w_e2 w_e3 w_e4 w_e5 w_e6 w_e7 w_e8)⟩
set_option maxRecDepth 100000 in
theorem o_two {r : Reach} {b0 : Nat} {v : Value} {d : DataW H} {p : List MemPlace} (hv : Value.okWide Try.prog w r b0 32 v) (h : DataW.Trod enc Try.prog w base spare held 32 v d p) :
    ∃ x0 x1 x2 x3 x4 x5 y0 y1 y2 y3 y4 y5 d0 d1 d2 d3 d4 d5 d6 d7 d8 e0 e1 e2 e3 e4 e5 e6 e7 e8, v = .agg #[.int .i64 x0, .int .i64 x1, .int .i64 x2, .int .i64 x3, .int .i64 x4, .int .i64 x5, .int .i64 y0, .int .i64 y1, .int .i64 y2, .int .i64 y3, .int .i64 y4, .int .i64 y5, .int .i64 d0, .int .u8 d1, .int .u32 d2, .int .i64 d3, .int .u8 d4, .int .u32 d5, .int .i64 d6, .int .u8 d7, .int .u32 d8, .int .i64 e0, .int .u8 e1, .int .u32 e2, .int .i64 e3, .int .u8 e4, .int .u32 e5, .int .i64 e6, .int .u8 e7, .int .u32 e8] ∧ d = .agg [dVec x0 x1 x2 x3 x4 x5, dVec y0 y1 y2 y3 y4 y5, dDrafts d0 d1 d2 d3 d4 d5 d6 d7 d8, dDrafts e0 e1 e2 e3 e4 e5 e6 e7 e8] ∧ p = [] ∧ I64 x0 ∧ I64 x1 ∧ I64 x2 ∧ I64 x3 ∧ I64 x4 ∧ I64 x5 ∧ I64 y0 ∧ I64 y1 ∧ I64 y2 ∧ I64 y3 ∧ I64 y4 ∧ I64 y5 ∧ I64 d0 ∧ U8 d1 ∧ U32 d2 ∧ I64 d3 ∧ U8 d4 ∧ U32 d5 ∧ I64 d6 ∧ U8 d7 ∧ U32 d8 ∧ I64 e0 ∧ U8 e1 ∧ U32 e2 ∧ I64 e3 ∧ U8 e4 ∧ U32 e5 ∧ I64 e6 ∧ U8 e7 ∧ U32 e8 := by
  obtain ⟨cs, rfl, hsz⟩ := okWide_struct Try.underlying32 hv
  obtain ⟨l⟩ := cs
  obtain ⟨c0, c1, c2, c3, c4, c5, c6, c7, c8, c9, c10, c11, c12, c13, c14, c15, c16, c17, c18, c19, c20, c21, c22, c23, c24, c25, c26, c27, c28, c29, rfl⟩ := list30 (show l.length = 30 by rw [Try.cellsTwo] at hsz; simpa using hsz)
  obtain ⟨fuel, hf⟩ := h
  obtain ⟨y0, y1, y2, y3, n, hx, _, h0, h1, h2, h3⟩ := trod_struct4 Try.underlying32 hf
  simp only [Try.cellsVec, Try.cellsDrafts] at h0 h1 h2 h3
  obtain ⟨x0, x1, x2, x3, x4, x5, hc0, rfl, wx0, wx1, wx2, wx3, wx4, wx5⟩ := o_vec (by simpa [Value.cells] using h0)
  obtain ⟨y0, y1, y2, y3, y4, y5, hc1, rfl, wy0, wy1, wy2, wy3, wy4, wy5⟩ := o_vec (by simpa [Value.cells] using h1)
  obtain ⟨d0, d1, d2, d3, d4, d5, d6, d7, d8, hc2, rfl, wd0, wd1, wd2, wd3, wd4, wd5, wd6, wd7, wd8⟩ := o_drafts (by simpa [Value.cells] using h2)
  obtain ⟨e0, e1, e2, e3, e4, e5, e6, e7, e8, hc3, rfl, we0, we1, we2, we3, we4, we5, we6, we7, we8⟩ := o_drafts (by simpa [Value.cells] using h3)
  simp only [List.cons.injEq, and_true] at hc0 hc1 hc2 hc3
  obtain ⟨rfl, rfl, rfl, rfl, rfl, rfl⟩ := hc0
  obtain ⟨rfl, rfl, rfl, rfl, rfl, rfl⟩ := hc1
  obtain ⟨rfl, rfl, rfl, rfl, rfl, rfl, rfl, rfl, rfl⟩ := hc2
  obtain ⟨rfl, rfl, rfl, rfl, rfl, rfl, rfl, rfl, rfl⟩ := hc3
  simp only [Prod.mk.injEq] at hx
  exact ⟨x0, x1, x2, x3, x4, x5, y0, y1, y2, y3, y4, y5, d0, d1, d2, d3, d4, d5, d6, d7, d8, e0, e1, e2, e3, e4, e5, e6, e7, e8, rfl, hx.1, by simpa using hx.2, wx0, wx1, wx2, wx3, wx4, wx5, wy0, wy1, wy2, wy3, wy4, wy5, wd0, wd1, wd2, wd3, wd4, wd5, wd6, wd7, wd8, we0, we1, we2, we3, we4, we5, we6, we7, we8⟩
end

end Go.Proofs.Ytpdaigenffecmaa
