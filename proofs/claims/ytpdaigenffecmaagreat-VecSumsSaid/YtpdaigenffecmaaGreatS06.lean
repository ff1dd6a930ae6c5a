/-
  The statement VecSums: its code answers true.
-/
import Derived.Deep.MidRow
import Derived.Test.YtpdaigenffecmaaGreatS04
import Derived.Test.YtpdaigenffecmaaGreatS05
import Derived.Test.YtpdaigenffecmaaGreatM01
set_option linter.all false
namespace Go.Proofs.YtpdaigenffecmaaGreat
open Go.RowKit Go.Shelf

section
variable {n b o p : Nat} {w w' : World} {v : Option Value} {x : Obj}
theorem kn2 {c : Array Value} {t : TypeId} (hb : Below ((w.alloc x).alloc (.cells c t)).heap.size ((w.alloc x).alloc (.cells c t)) w') (i : Nat) : w'.cell? ⟨w.heap.size + 1, i, none⟩ = c[i]? :=
  kp hb (by simp) (World.cell?_alloc_at _ _ _ _ (by simp))
theorem ka (hn : b < w.heap.size) (h : w.cell? ⟨b, o, none⟩ = v) : (w.alloc x).cell? ⟨b, o, none⟩ = v := (World.cell?_alloc_past _ _ _ hn).trans h
end
section
variable {w : World}
theorem idxS (a b c d : Int) : (Instr.index 43 (.agg #[.int .i64 a, .int .i64 b, .int .i64 c, .int .i64 d]) (.int .i64 0)).run Tryz.prog w = .ok (.agg #[.int .i64 a, .int .i64 b]) w := by
  have u : Tryz.prog.underlying 43 = some (.array 2 23) := by kernel_rfl
  simp only [Instr.index, asIntOf, Sem.run_bind, run_underlying u, Sem.run_pure, Result.andThen_ok]
  simp [part, Tryz.sizeOf23, Tryz.isAgg23, go_sem]
theorem idxT (a b c d : Int) : (Instr.index 43 (.agg #[.int .i64 a, .int .i64 b, .int .i64 c, .int .i64 d]) (.int .i64 1)).run Tryz.prog w = .ok (.agg #[.int .i64 c, .int .i64 d]) w := by
  have u : Tryz.prog.underlying 43 = some (.array 2 23) := by kernel_rfl
  simp only [Instr.index, asIntOf, Sem.run_bind, run_underlying u, Sem.run_pure, Result.andThen_ok]
  simp [part, Tryz.sizeOf23, Tryz.isAgg23, go_sem]
end
attribute [go_sem] idxS idxT

set_option maxRecDepth 100000 in
set_option maxHeartbeats 4000000 in
theorem c_lawVecSums (x0 x1 x2 x3 x4 x5 y0 y1 y2 y3 y4 y5 d0 d1 d2 d3 d4 d5 d6 d7 d8 e0 e1 e2 e3 e4 e5 e6 e7 e8 s0 s1 g0 g1 g2 : Int) (hd1 : 0 ≤ d1 ∧ d1 ≤ 255) (hd2 : 0 ≤ d2 ∧ d2 ≤ 4294967295) (hd4 : 0 ≤ d4 ∧ d4 ≤ 255) (hd5 : 0 ≤ d5 ∧ d5 ≤ 4294967295) (hd7 : 0 ≤ d7 ∧ d7 ≤ 255) (hd8 : 0 ≤ d8 ∧ d8 ≤ 4294967295) (he1 : 0 ≤ e1 ∧ e1 ≤ 255) (he2 : 0 ≤ e2 ∧ e2 ≤ 4294967295) (he4 : 0 ≤ e4 ∧ e4 ≤ 255) (he5 : 0 ≤ e5 ∧ e5 ≤ 4294967295) (he7 : 0 ≤ e7 ∧ e7 ≤ 255) (he8 : 0 ≤ e8 ∧ e8 ≤ 4294967295) (hg1 : 0 ≤ g1 ∧ g1 ≤ 255) (hg2 : 0 ≤ g2 ∧ g2 ≤ 4294967295) (w : World) :
    Calls Tryz.prog 3 #[.agg #[.int .i64 x0, .int .i64 x1, .int .i64 x2, .int .i64 x3, .int .i64 x4, .int .i64 x5, .int .i64 y0, .int .i64 y1, .int .i64 y2, .int .i64 y3, .int .i64 y4, .int .i64 y5, .int .i64 d0, .int .u8 d1, .int .u32 d2, .int .i64 d3, .int .u8 d4, .int .u32 d5, .int .i64 d6, .int .u8 d7, .int .u32 d8, .int .i64 e0, .int .u8 e1, .int .u32 e2, .int .i64 e3, .int .u8 e4, .int .u32 e5, .int .i64 e6, .int .u8 e7, .int .u32 e8], .agg #[.int .i64 s0, .int .i64 s1], .agg #[.int .i64 g0, .int .u8 g1, .int .u32 g2]] w fun e w' => e = .returned (.bool true) ∧ Below w.heap.size w w' := by
  obtain ⟨W, hW⟩ : ∃ W, W = (((w.alloc (Obj.cells #[Value.int IntKind.i64 x0, Value.int IntKind.i64 x1, Value.int IntKind.i64 x2, Value.int IntKind.i64 x3, Value.int IntKind.i64 x4, Value.int IntKind.i64 x5, Value.int IntKind.i64 y0, Value.int IntKind.i64 y1, Value.int IntKind.i64 y2, Value.int IntKind.i64 y3, Value.int IntKind.i64 y4, Value.int IntKind.i64 y5, Value.int IntKind.i64 d0, .int .u8 d1, .int .u32 d2, Value.int IntKind.i64 d3, .int .u8 d4, .int .u32 d5, Value.int IntKind.i64 d6, .int .u8 d7, .int .u32 d8, Value.int IntKind.i64 e0, .int .u8 e1, .int .u32 e2, Value.int IntKind.i64 e3, .int .u8 e4, .int .u32 e5, Value.int IntKind.i64 e6, .int .u8 e7, .int .u32 e8] 32)).alloc (Obj.cells #[Value.int IntKind.i64 s0, Value.int IntKind.i64 s1] 23)).alloc (Obj.cells #[Value.int IntKind.i64 g0, .int .u8 g1, .int .u32 g2] 28)) := ⟨_, rfl⟩
  have hsW : w.heap.size + 1 + 1 < W.heap.size := by rw [hW]; simp
  have HB : Hid (Below w.heap.size w W) := by rw [hW]; unfold Hid; (repeat' (first | (with_reducible exact Below.refl _ _) | (with_reducible refine Below.setCell ?_ ?_ _) | (with_reducible refine Below.alloc ?_ ?_ _) | (with_reducible refine Below.drew ?_) | (with_reducible refine below_drewN ?_ _) | (with_reducible assumption) | (with_reducible refine Below.trans ?_ (Below.mono (by with_reducible assumption) ?_)) | omega | (simp; done) | (simp; omega) | (simp [World.setCell]; omega)))
  have hS : w.heap.size ≤ W.heap.size := by omega
  have c0 : W.cell? ⟨w.heap.size, 0, none⟩ = some (.int .i64 x0) := by rw [hW]; simp [go_sem]
  have c1 : W.cell? ⟨w.heap.size, 1, none⟩ = some (.int .i64 x1) := by rw [hW]; simp [go_sem]
  have c2 : W.cell? ⟨w.heap.size, 2, none⟩ = some (.int .i64 x2) := by rw [hW]; simp [go_sem]
  have c3 : W.cell? ⟨w.heap.size, 3, none⟩ = some (.int .i64 x3) := by rw [hW]; simp [go_sem]
  have c4 : W.cell? ⟨w.heap.size, 4, none⟩ = some (.int .i64 x4) := by rw [hW]; simp [go_sem]
  have c5 : W.cell? ⟨w.heap.size, 5, none⟩ = some (.int .i64 x5) := by rw [hW]; simp [go_sem]
  have c6 : W.cell? ⟨w.heap.size, 6, none⟩ = some (.int .i64 y0) := by rw [hW]; simp [go_sem]
  have c7 : W.cell? ⟨w.heap.size, 7, none⟩ = some (.int .i64 y1) := by rw [hW]; simp [go_sem]
  have c8 : W.cell? ⟨w.heap.size, 8, none⟩ = some (.int .i64 y2) := by rw [hW]; simp [go_sem]
  have c9 : W.cell? ⟨w.heap.size, 9, none⟩ = some (.int .i64 y3) := by rw [hW]; simp [go_sem]
  have c10 : W.cell? ⟨w.heap.size, 10, none⟩ = some (.int .i64 y4) := by rw [hW]; simp [go_sem]
  have c11 : W.cell? ⟨w.heap.size, 11, none⟩ = some (.int .i64 y5) := by rw [hW]; simp [go_sem]
  have c12 : W.cell? ⟨w.heap.size, 12, none⟩ = some (.int .i64 d0) := by rw [hW]; simp [go_sem]
  have c13 : W.cell? ⟨w.heap.size, 13, none⟩ = some (.int .u8 d1) := by rw [hW]; simp [go_sem]
  have c14 : W.cell? ⟨w.heap.size, 14, none⟩ = some (.int .u32 d2) := by rw [hW]; simp [go_sem]
  have c15 : W.cell? ⟨w.heap.size, 15, none⟩ = some (.int .i64 d3) := by rw [hW]; simp [go_sem]
  have c16 : W.cell? ⟨w.heap.size, 16, none⟩ = some (.int .u8 d4) := by rw [hW]; simp [go_sem]
  have c17 : W.cell? ⟨w.heap.size, 17, none⟩ = some (.int .u32 d5) := by rw [hW]; simp [go_sem]
  have c18 : W.cell? ⟨w.heap.size, 18, none⟩ = some (.int .i64 d6) := by rw [hW]; simp [go_sem]
  have c19 : W.cell? ⟨w.heap.size, 19, none⟩ = some (.int .u8 d7) := by rw [hW]; simp [go_sem]
  have c20 : W.cell? ⟨w.heap.size, 20, none⟩ = some (.int .u32 d8) := by rw [hW]; simp [go_sem]
  have c21 : W.cell? ⟨w.heap.size, 21, none⟩ = some (.int .i64 e0) := by rw [hW]; simp [go_sem]
  have c22 : W.cell? ⟨w.heap.size, 22, none⟩ = some (.int .u8 e1) := by rw [hW]; simp [go_sem]
  have c23 : W.cell? ⟨w.heap.size, 23, none⟩ = some (.int .u32 e2) := by rw [hW]; simp [go_sem]
  have c24 : W.cell? ⟨w.heap.size, 24, none⟩ = some (.int .i64 e3) := by rw [hW]; simp [go_sem]
  have c25 : W.cell? ⟨w.heap.size, 25, none⟩ = some (.int .u8 e4) := by rw [hW]; simp [go_sem]
  have c26 : W.cell? ⟨w.heap.size, 26, none⟩ = some (.int .u32 e5) := by rw [hW]; simp [go_sem]
  have c27 : W.cell? ⟨w.heap.size, 27, none⟩ = some (.int .i64 e6) := by rw [hW]; simp [go_sem]
  have c28 : W.cell? ⟨w.heap.size, 28, none⟩ = some (.int .u8 e7) := by rw [hW]; simp [go_sem]
  have c29 : W.cell? ⟨w.heap.size, 29, none⟩ = some (.int .u32 e8) := by rw [hW]; simp [go_sem]
  have vs0 : W.cell? ⟨w.heap.size + 1, 0, none⟩ = some (.int .i64 s0) := by rw [hW]; simp [go_sem]
  have vs1 : W.cell? ⟨w.heap.size + 1, 1, none⟩ = some (.int .i64 s1) := by rw [hW]; simp [go_sem]
  have vg0 : W.cell? ⟨w.heap.size + 1 + 1, 0, none⟩ = some (.int .i64 g0) := by rw [hW]; simp [go_sem]
  have vg1 : W.cell? ⟨w.heap.size + 1 + 1, 1, none⟩ = some (.int .u8 g1) := by rw [hW]; simp [go_sem]
  have vg2 : W.cell? ⟨w.heap.size + 1 + 1, 2, none⟩ = some (.int .u32 g2) := by rw [hW]; simp [go_sem]
  have b0 : w.heap.size < W.heap.size := by omega
  have b1 : w.heap.size + 1 < W.heap.size := by omega
  have b2 : w.heap.size + 1 + 1 < W.heap.size := by omega
  go_enter Tryz.func3, Tryz.ntmps3
  go_wp2_with (fail)
  rw [← hW]
  clear hW hsW
  go_at_call 9
  refine Calls.mono (c_works _) ?_
  rintro e w1 ⟨rfl, hb⟩
  have hs := hb.size
  try simp only [World.size_alloc, World.drew_heap] at hs
  have b0_ : w.heap.size < w1.heap.size := by omega
  have b1_ : w.heap.size + 1 < w1.heap.size := by omega
  have b2_ : w.heap.size + 1 + 1 < w1.heap.size := by omega
  replace c0 := kp hb (by omega) c0
  replace c1 := kp hb (by omega) c1
  replace c2 := kp hb (by omega) c2
  replace c3 := kp hb (by omega) c3
  replace c4 := kp hb (by omega) c4
  replace c5 := kp hb (by omega) c5
  replace c6 := kp hb (by omega) c6
  replace c7 := kp hb (by omega) c7
  replace c8 := kp hb (by omega) c8
  replace c9 := kp hb (by omega) c9
  replace c10 := kp hb (by omega) c10
  replace c11 := kp hb (by omega) c11
  replace c12 := kp hb (by omega) c12
  replace c13 := kp hb (by omega) c13
  replace c14 := kp hb (by omega) c14
  replace c15 := kp hb (by omega) c15
  replace c16 := kp hb (by omega) c16
  replace c17 := kp hb (by omega) c17
  replace c18 := kp hb (by omega) c18
  replace c19 := kp hb (by omega) c19
  replace c20 := kp hb (by omega) c20
  replace c21 := kp hb (by omega) c21
  replace c22 := kp hb (by omega) c22
  replace c23 := kp hb (by omega) c23
  replace c24 := kp hb (by omega) c24
  replace c25 := kp hb (by omega) c25
  replace c26 := kp hb (by omega) c26
  replace c27 := kp hb (by omega) c27
  replace c28 := kp hb (by omega) c28
  replace c29 := kp hb (by omega) c29
  replace vs0 := kp hb (by omega) vs0
  replace vs1 := kp hb (by omega) vs1
  replace vg0 := kp hb (by omega) vg0
  replace vg1 := kp hb (by omega) vg1
  replace vg2 := kp hb (by omega) vg2
  replace HB : Hid (Below w.heap.size w w1) := by first | exact HB.out.trans (hb.mono (by first | omega | (simp [go_sem]; done) | (simp [go_sem]; omega))) | exact (HB.out.alloc (by first | omega | (simp [go_sem]; done) | (simp [go_sem]; omega)) _).trans (hb.mono (by first | omega | (simp [go_sem]; done) | (simp [go_sem]; omega))) | exact ((HB.out.alloc (by first | omega | (simp [go_sem]; done) | (simp [go_sem]; omega)) _).alloc (by first | omega | (simp [go_sem]; done) | (simp [go_sem]; omega)) _).trans (hb.mono (by first | omega | (simp [go_sem]; done) | (simp [go_sem]; omega))) | exact (((HB.out.alloc (by first | omega | (simp [go_sem]; done) | (simp [go_sem]; omega)) _).alloc (by first | omega | (simp [go_sem]; done) | (simp [go_sem]; omega)) _).alloc (by first | omega | (simp [go_sem]; done) | (simp [go_sem]; omega)) _).trans (hb.mono (by first | omega | (simp [go_sem]; done) | (simp [go_sem]; omega)))
  replace hS : w.heap.size ≤ w1.heap.size := by omega
  replace b0 := b0_
  clear b0_
  replace b1 := b1_
  clear b1_
  replace b2 := b2_
  clear b2_
  clear hb hs
  have HR : Hid (w1.rangeAt (w.heap.size) 0 [.int .i64 x0, .int .i64 x1, .int .i64 x2, .int .i64 x3, .int .i64 x4, .int .i64 x5, .int .i64 y0, .int .i64 y1, .int .i64 y2, .int .i64 y3, .int .i64 y4, .int .i64 y5, .int .i64 d0, .int .u8 d1, .int .u32 d2, .int .i64 d3, .int .u8 d4, .int .u32 d5, .int .i64 d6, .int .u8 d7, .int .u32 d8, .int .i64 e0, .int .u8 e1, .int .u32 e2, .int .i64 e3, .int .u8 e4, .int .u32 e5, .int .i64 e6, .int .u8 e7, .int .u32 e8]) := by
    intro j v hv
    rcases (by have := (List.getElem?_eq_some_iff.1 hv).1; simp at this; omega : j = 0 ∨ j = 1 ∨ j = 2 ∨ j = 3 ∨ j = 4 ∨ j = 5 ∨ j = 6 ∨ j = 7 ∨ j = 8 ∨ j = 9 ∨ j = 10 ∨ j = 11 ∨ j = 12 ∨ j = 13 ∨ j = 14 ∨ j = 15 ∨ j = 16 ∨ j = 17 ∨ j = 18 ∨ j = 19 ∨ j = 20 ∨ j = 21 ∨ j = 22 ∨ j = 23 ∨ j = 24 ∨ j = 25 ∨ j = 26 ∨ j = 27 ∨ j = 28 ∨ j = 29) with rfl | rfl | rfl | rfl | rfl | rfl | rfl | rfl | rfl | rfl | rfl | rfl | rfl | rfl | rfl | rfl | rfl | rfl | rfl | rfl | rfl | rfl | rfl | rfl | rfl | rfl | rfl | rfl | rfl | rfl <;> (simp at hv; subst hv; simp only [Nat.zero_add]; assumption)
  go_wp2_with (first | (refine wpList_load_mid rfl 32 _ rfl (w.heap.size) 0 rfl _ _ HR.out Tryz.underlying32 rfl (by kernel_rfl) ?_))
  go_at_call 10
  refine Calls.mono (c_pairs x0 x1 x2 x3 x4 x5 y0 y1 y2 y3 y4 y5 d0 d1 d2 d3 d4 d5 d6 d7 d8 e0 e1 e2 e3 e4 e5 e6 e7 e8 hd1 hd2 hd4 hd5 hd7 hd8 he1 he2 he4 he5 he7 he8 _) ?_
  rintro e w2 ⟨pb, f, hv, HP, hpb0, hpb, rfl, hb⟩
  have hs := hb.size
  try simp only [World.size_alloc, World.drew_heap] at hs
  have b0_ : w.heap.size < w2.heap.size := by omega
  have b1_ : w.heap.size + 1 < w2.heap.size := by omega
  have b2_ : w.heap.size + 1 + 1 < w2.heap.size := by omega
  replace c0 := kp hb (by omega) c0
  replace c1 := kp hb (by omega) c1
  replace c2 := kp hb (by omega) c2
  replace c3 := kp hb (by omega) c3
  replace c4 := kp hb (by omega) c4
  replace c5 := kp hb (by omega) c5
  replace c6 := kp hb (by omega) c6
  replace c7 := kp hb (by omega) c7
  replace c8 := kp hb (by omega) c8
  replace c9 := kp hb (by omega) c9
  replace c10 := kp hb (by omega) c10
  replace c11 := kp hb (by omega) c11
  replace c12 := kp hb (by omega) c12
  replace c13 := kp hb (by omega) c13
  replace c14 := kp hb (by omega) c14
  replace c15 := kp hb (by omega) c15
  replace c16 := kp hb (by omega) c16
  replace c17 := kp hb (by omega) c17
  replace c18 := kp hb (by omega) c18
  replace c19 := kp hb (by omega) c19
  replace c20 := kp hb (by omega) c20
  replace c21 := kp hb (by omega) c21
  replace c22 := kp hb (by omega) c22
  replace c23 := kp hb (by omega) c23
  replace c24 := kp hb (by omega) c24
  replace c25 := kp hb (by omega) c25
  replace c26 := kp hb (by omega) c26
  replace c27 := kp hb (by omega) c27
  replace c28 := kp hb (by omega) c28
  replace c29 := kp hb (by omega) c29
  replace vs0 := kp hb (by omega) vs0
  replace vs1 := kp hb (by omega) vs1
  replace vg0 := kp hb (by omega) vg0
  replace vg1 := kp hb (by omega) vg1
  replace vg2 := kp hb (by omega) vg2
  replace HB : Hid (Below w.heap.size w w2) := by first | exact HB.out.trans (hb.mono (by first | omega | (simp [go_sem]; done) | (simp [go_sem]; omega))) | exact (HB.out.alloc (by first | omega | (simp [go_sem]; done) | (simp [go_sem]; omega)) _).trans (hb.mono (by first | omega | (simp [go_sem]; done) | (simp [go_sem]; omega))) | exact ((HB.out.alloc (by first | omega | (simp [go_sem]; done) | (simp [go_sem]; omega)) _).alloc (by first | omega | (simp [go_sem]; done) | (simp [go_sem]; omega)) _).trans (hb.mono (by first | omega | (simp [go_sem]; done) | (simp [go_sem]; omega))) | exact (((HB.out.alloc (by first | omega | (simp [go_sem]; done) | (simp [go_sem]; omega)) _).alloc (by first | omega | (simp [go_sem]; done) | (simp [go_sem]; omega)) _).alloc (by first | omega | (simp [go_sem]; done) | (simp [go_sem]; omega)) _).trans (hb.mono (by first | omega | (simp [go_sem]; done) | (simp [go_sem]; omega)))
  replace hS : w.heap.size ≤ w2.heap.size := by omega
  replace b0 := b0_
  clear b0_
  replace b1 := b1_
  clear b1_
  replace b2 := b2_
  clear b2_
  clear hb hs
  clear HR
  replace HP := Lib.hid HP
  clear hv hpb0
  clear c0 c1 c2 c3 c4 c5 c6 c7 c8 c9 c10 c11 c12 c13 c14 c15 c16 c17 c18 c19 c20 c21 c22 c23 c24 c25 c26 c27 c28 c29 b0
  go_wp2_with (fail)
  go_loopw [32] (fun iv wr => ∃ k : Nat, k ≤ 4 ∧ iv = .int .i64 (k : Int) ∧ Hid (∀ j, j < 48 → wr.cell? ⟨pb, j, none⟩ = some (.int .i64 (f j))) ∧ Hid (Below w.heap.size w wr) ∧ w.heap.size ≤ wr.heap.size ∧ pb < wr.heap.size ∧ w.heap.size + 1 + 1 < wr.heap.size ∧ wr.cell? ⟨w.heap.size + 1, 0, none⟩ = some (.int .i64 s0) ∧ wr.cell? ⟨w.heap.size + 1, 1, none⟩ = some (.int .i64 s1) ∧ wr.cell? ⟨w.heap.size + 1 + 1, 0, none⟩ = some (.int .i64 g0) ∧ wr.cell? ⟨w.heap.size + 1 + 1, 1, none⟩ = some (.int .u8 g1) ∧ wr.cell? ⟨w.heap.size + 1 + 1, 2, none⟩ = some (.int .u32 g2)) (fun iv _ => 4 - (intOf iv).toNat)
  case atStart => exact ⟨0, by omega, rfl, HP, HB, hS, hpb, b2, vs0, vs1, vg0, vg1, vg2⟩
  case round =>
    clear HP HB hS hpb b1 b2 vs0 vs1 vg0 vg1 vg2
    obtain ⟨k, hk, rfl, HP, HB, hS, hpb, b2, vs0, vs1, vg0, vg1, vg2⟩ := hrel
    by_cases h4 : k = 4
    · subst h4
      go_wp2_with (fail)
      have HBX := HB.out
      refine bodyPost_ret (v := .bool true) (by simp [results, Tryz.results3, go_sem]) rfl ⟨rfl, by (repeat' (first | (with_reducible exact Below.refl _ _) | (with_reducible refine Below.setCell ?_ ?_ _) | (with_reducible refine Below.alloc ?_ ?_ _) | (with_reducible refine Below.drew ?_) | (with_reducible refine below_drewN ?_ _) | (with_reducible assumption) | (with_reducible refine Below.trans ?_ (Below.mono (by with_reducible assumption) ?_)) | omega | (simp; done) | (simp; omega) | (simp [World.setCell]; omega)))⟩
    · have hk4 : (k : Int) < 4 := by omega
      have hkt : decide ((k : Int) < 4) = true := by simp; omega
      have hk0 : (0 : Int) ≤ k := by omega
      have b1 : w.heap.size + 1 < wr.heap.size := by omega
      have u0 : wr.cell? ⟨pb, k * 12, none⟩ = some (.int .i64 (f (12 * k + 0))) := by have := HP.out (12 * k + 0) (by omega); simpa [Nat.mul_comm] using this
      have u1 : wr.cell? ⟨pb, k * 12 + 1, none⟩ = some (.int .i64 (f (12 * k + 1))) := by have := HP.out (12 * k + 1) (by omega); simpa [Nat.mul_comm] using this
      have u2 : wr.cell? ⟨pb, k * 12 + 2, none⟩ = some (.int .i64 (f (12 * k + 2))) := by have := HP.out (12 * k + 2) (by omega); simpa [Nat.mul_comm] using this
      have u3 : wr.cell? ⟨pb, k * 12 + 3, none⟩ = some (.int .i64 (f (12 * k + 3))) := by have := HP.out (12 * k + 3) (by omega); simpa [Nat.mul_comm] using this
      have u4 : wr.cell? ⟨pb, k * 12 + 4, none⟩ = some (.int .i64 (f (12 * k + 4))) := by have := HP.out (12 * k + 4) (by omega); simpa [Nat.mul_comm] using this
      have u5 : wr.cell? ⟨pb, k * 12 + 5, none⟩ = some (.int .i64 (f (12 * k + 5))) := by have := HP.out (12 * k + 5) (by omega); simpa [Nat.mul_comm] using this
      have u6 : wr.cell? ⟨pb, k * 12 + 6, none⟩ = some (.int .i64 (f (12 * k + 6))) := by have := HP.out (12 * k + 6) (by omega); simpa [Nat.mul_comm] using this
      have u7 : wr.cell? ⟨pb, k * 12 + 7, none⟩ = some (.int .i64 (f (12 * k + 7))) := by have := HP.out (12 * k + 7) (by omega); simpa [Nat.mul_comm] using this
      have u8 : wr.cell? ⟨pb, k * 12 + 8, none⟩ = some (.int .i64 (f (12 * k + 8))) := by have := HP.out (12 * k + 8) (by omega); simpa [Nat.mul_comm] using this
      have u9 : wr.cell? ⟨pb, k * 12 + 9, none⟩ = some (.int .i64 (f (12 * k + 9))) := by have := HP.out (12 * k + 9) (by omega); simpa [Nat.mul_comm] using this
      have u10 : wr.cell? ⟨pb, k * 12 + 10, none⟩ = some (.int .i64 (f (12 * k + 10))) := by have := HP.out (12 * k + 10) (by omega); simpa [Nat.mul_comm] using this
      have u11 : wr.cell? ⟨pb, k * 12 + 11, none⟩ = some (.int .i64 (f (12 * k + 11))) := by have := HP.out (12 * k + 11) (by omega); simpa [Nat.mul_comm] using this
      obtain ⟨an0, an1, an2, an3, an4, an5, am0, am1, am2, am3, am4, am5, aen, aem, aN, aee, CAa, CBa⟩ := pair_Add (f (12 * k + 0)) (f (12 * k + 1)) (f (12 * k + 2)) (f (12 * k + 3)) (f (12 * k + 4)) (f (12 * k + 5)) (f (12 * k + 6)) (f (12 * k + 7)) (f (12 * k + 8)) (f (12 * k + 9)) (f (12 * k + 10)) (f (12 * k + 11))
      replace CAa := Lib.hid CAa
      replace CBa := Lib.hid CBa
      obtain ⟨dn0, dn1, dn2, dn3, dn4, dn5, dm0, dm1, dm2, dm3, dm4, dm5, den, dem, dN, dee, CAd, CBd⟩ := pair_Sub (f (12 * k + 0)) (f (12 * k + 1)) (f (12 * k + 2)) (f (12 * k + 3)) (f (12 * k + 4)) (f (12 * k + 5)) (f (12 * k + 6)) (f (12 * k + 7)) (f (12 * k + 8)) (f (12 * k + 9)) (f (12 * k + 10)) (f (12 * k + 11))
      replace CAd := Lib.hid CAd
      replace CBd := Lib.hid CBd
      obtain ⟨hn0, hn1, hn2, hn3, hn4, hn5, hm0, hm1, hm2, hm3, hm4, hm5, hen, hem, hN, hee, CAh, CBh⟩ := pair_Neg (f (12 * k + 0)) (f (12 * k + 1)) (f (12 * k + 2)) (f (12 * k + 3)) (f (12 * k + 4)) (f (12 * k + 5))
      replace CAh := Lib.hid CAh
      replace CBh := Lib.hid CBh
      obtain ⟨qen, qem, qee, CAq, CBq⟩ := pair_Check (f (12 * k + 0)) (f (12 * k + 1)) (f (12 * k + 2)) (f (12 * k + 3)) (f (12 * k + 4)) (f (12 * k + 5))
      replace CAq := Lib.hid CAq
      replace CBq := Lib.hid CBq
      go_wp2_with (fail)
      go_at_call 11
      refine Calls.mono (CAa.out _) ?_
      rintro e wr1 ⟨rfl, hb⟩
      have hs := hb.size
      try simp only [World.size_alloc, World.drew_heap] at hs
      have b2_ : w.heap.size + 1 + 1 < wr1.heap.size := by omega
      have b1_ : w.heap.size + 1 < wr1.heap.size := by omega
      have bp : wr.heap.size < wr1.heap.size := by omega
      replace vs0 := kp1 hb (by omega) vs0
      replace vs1 := kp1 hb (by omega) vs1
      replace vg0 := kp1 hb (by omega) vg0
      replace vg1 := kp1 hb (by omega) vg1
      replace vg2 := kp1 hb (by omega) vg2
      have p0 : wr1.cell? ⟨wr.heap.size, 0, none⟩ = some (.int .i64 (f (12 * k + 0))) := (kn hb 0).trans rfl
      have p1 : wr1.cell? ⟨wr.heap.size, 1, none⟩ = some (.int .i64 (f (12 * k + 1))) := (kn hb 1).trans rfl
      have p2 : wr1.cell? ⟨wr.heap.size, 2, none⟩ = some (.int .i64 (f (12 * k + 2))) := (kn hb 2).trans rfl
      have p3 : wr1.cell? ⟨wr.heap.size, 3, none⟩ = some (.int .i64 (f (12 * k + 3))) := (kn hb 3).trans rfl
      have p4 : wr1.cell? ⟨wr.heap.size, 4, none⟩ = some (.int .i64 (f (12 * k + 4))) := (kn hb 4).trans rfl
      have p5 : wr1.cell? ⟨wr.heap.size, 5, none⟩ = some (.int .i64 (f (12 * k + 5))) := (kn hb 5).trans rfl
      have p6 : wr1.cell? ⟨wr.heap.size, 6, none⟩ = some (.int .i64 (f (12 * k + 6))) := (kn hb 6).trans rfl
      have p7 : wr1.cell? ⟨wr.heap.size, 7, none⟩ = some (.int .i64 (f (12 * k + 7))) := (kn hb 7).trans rfl
      have p8 : wr1.cell? ⟨wr.heap.size, 8, none⟩ = some (.int .i64 (f (12 * k + 8))) := (kn hb 8).trans rfl
      have p9 : wr1.cell? ⟨wr.heap.size, 9, none⟩ = some (.int .i64 (f (12 * k + 9))) := (kn hb 9).trans rfl
      have p10 : wr1.cell? ⟨wr.heap.size, 10, none⟩ = some (.int .i64 (f (12 * k + 10))) := (kn hb 10).trans rfl
      have p11 : wr1.cell? ⟨wr.heap.size, 11, none⟩ = some (.int .i64 (f (12 * k + 11))) := (kn hb 11).trans rfl
      have hpb_ : pb < wr1.heap.size := by omega
      replace HP : Hid (∀ j, j < 48 → wr1.cell? ⟨pb, j, none⟩ = some (.int .i64 (f j))) := fun j hj => kp1 hb (by omega) (HP.out j hj)
      replace HB : Hid (Below w.heap.size w wr1) := by first | exact HB.out.trans (hb.mono (by first | omega | (simp [go_sem]; done) | (simp [go_sem]; omega))) | exact (HB.out.alloc (by first | omega | (simp [go_sem]; done) | (simp [go_sem]; omega)) _).trans (hb.mono (by first | omega | (simp [go_sem]; done) | (simp [go_sem]; omega))) | exact ((HB.out.alloc (by first | omega | (simp [go_sem]; done) | (simp [go_sem]; omega)) _).alloc (by first | omega | (simp [go_sem]; done) | (simp [go_sem]; omega)) _).trans (hb.mono (by first | omega | (simp [go_sem]; done) | (simp [go_sem]; omega))) | exact (((HB.out.alloc (by first | omega | (simp [go_sem]; done) | (simp [go_sem]; omega)) _).alloc (by first | omega | (simp [go_sem]; done) | (simp [go_sem]; omega)) _).alloc (by first | omega | (simp [go_sem]; done) | (simp [go_sem]; omega)) _).trans (hb.mono (by first | omega | (simp [go_sem]; done) | (simp [go_sem]; omega)))
      replace hS : w.heap.size ≤ wr1.heap.size := by omega
      replace b2 := b2_
      clear b2_
      replace b1 := b1_
      clear b1_
      replace hpb := hpb_
      clear hpb_
      clear hb hs
      clear u0 u1 u2 u3 u4 u5 u6 u7 u8 u9 u10 u11
      go_wp2_with (fail)
      go_at_call 12
      refine Calls.mono (CBa.out _) ?_
      rintro e wr2 ⟨rfl, hb⟩
      have hs := hb.size
      try simp only [World.size_alloc, World.drew_heap] at hs
      have b2_ : w.heap.size + 1 + 1 < wr2.heap.size := by omega
      have b1_ : w.heap.size + 1 < wr2.heap.size := by omega
      have bp_ : wr.heap.size < wr2.heap.size := by omega
      have ban : wr1.heap.size < wr2.heap.size := by omega
      replace vs0 := kp1 hb (by omega) vs0
      replace vs1 := kp1 hb (by omega) vs1
      replace vg0 := kp1 hb (by omega) vg0
      replace vg1 := kp1 hb (by omega) vg1
      replace vg2 := kp1 hb (by omega) vg2
      replace p0 := kp1 hb (by omega) p0
      replace p1 := kp1 hb (by omega) p1
      replace p2 := kp1 hb (by omega) p2
      replace p3 := kp1 hb (by omega) p3
      replace p4 := kp1 hb (by omega) p4
      replace p5 := kp1 hb (by omega) p5
      replace p6 := kp1 hb (by omega) p6
      replace p7 := kp1 hb (by omega) p7
      replace p8 := kp1 hb (by omega) p8
      replace p9 := kp1 hb (by omega) p9
      replace p10 := kp1 hb (by omega) p10
      replace p11 := kp1 hb (by omega) p11
      have an_0 : wr2.cell? ⟨wr1.heap.size, 0, none⟩ = some (.int .i64 an0) := (kn hb 0).trans rfl
      have an_1 : wr2.cell? ⟨wr1.heap.size, 1, none⟩ = some (.int .i64 an1) := (kn hb 1).trans rfl
      have an_2 : wr2.cell? ⟨wr1.heap.size, 2, none⟩ = some (.int .i64 an2) := (kn hb 2).trans rfl
      have an_3 : wr2.cell? ⟨wr1.heap.size, 3, none⟩ = some (.int .i64 an3) := (kn hb 3).trans rfl
      have an_4 : wr2.cell? ⟨wr1.heap.size, 4, none⟩ = some (.int .i64 an4) := (kn hb 4).trans rfl
      have an_5 : wr2.cell? ⟨wr1.heap.size, 5, none⟩ = some (.int .i64 an5) := (kn hb 5).trans rfl
      have hpb_ : pb < wr2.heap.size := by omega
      replace HP : Hid (∀ j, j < 48 → wr2.cell? ⟨pb, j, none⟩ = some (.int .i64 (f j))) := fun j hj => kp1 hb (by omega) (HP.out j hj)
      replace HB : Hid (Below w.heap.size w wr2) := by first | exact HB.out.trans (hb.mono (by first | omega | (simp [go_sem]; done) | (simp [go_sem]; omega))) | exact (HB.out.alloc (by first | omega | (simp [go_sem]; done) | (simp [go_sem]; omega)) _).trans (hb.mono (by first | omega | (simp [go_sem]; done) | (simp [go_sem]; omega))) | exact ((HB.out.alloc (by first | omega | (simp [go_sem]; done) | (simp [go_sem]; omega)) _).alloc (by first | omega | (simp [go_sem]; done) | (simp [go_sem]; omega)) _).trans (hb.mono (by first | omega | (simp [go_sem]; done) | (simp [go_sem]; omega))) | exact (((HB.out.alloc (by first | omega | (simp [go_sem]; done) | (simp [go_sem]; omega)) _).alloc (by first | omega | (simp [go_sem]; done) | (simp [go_sem]; omega)) _).alloc (by first | omega | (simp [go_sem]; done) | (simp [go_sem]; omega)) _).trans (hb.mono (by first | omega | (simp [go_sem]; done) | (simp [go_sem]; omega)))
      replace hS : w.heap.size ≤ wr2.heap.size := by omega
      replace b2 := b2_
      clear b2_
      replace b1 := b1_
      clear b1_
      replace bp := bp_
      clear bp_
      replace hpb := hpb_
      clear hpb_
      clear hb hs
      go_wp2_with (fail)
      go_at_call 13
      refine Calls.mono (CAd.out _) ?_
      rintro e wr3 ⟨rfl, hb⟩
      have hs := hb.size
      try simp only [World.size_alloc, World.drew_heap] at hs
      have b2_ : w.heap.size + 1 + 1 < wr3.heap.size := by omega
      have b1_ : w.heap.size + 1 < wr3.heap.size := by omega
      have bp_ : wr.heap.size < wr3.heap.size := by omega
      have ban_ : wr1.heap.size < wr3.heap.size := by omega
      have bam : wr2.heap.size < wr3.heap.size := by omega
      replace vs0 := kp1 hb (by omega) vs0
      replace vs1 := kp1 hb (by omega) vs1
      replace vg0 := kp1 hb (by omega) vg0
      replace vg1 := kp1 hb (by omega) vg1
      replace vg2 := kp1 hb (by omega) vg2
      replace p0 := kp1 hb (by omega) p0
      replace p1 := kp1 hb (by omega) p1
      replace p2 := kp1 hb (by omega) p2
      replace p3 := kp1 hb (by omega) p3
      replace p4 := kp1 hb (by omega) p4
      replace p5 := kp1 hb (by omega) p5
      replace p6 := kp1 hb (by omega) p6
      replace p7 := kp1 hb (by omega) p7
      replace p8 := kp1 hb (by omega) p8
      replace p9 := kp1 hb (by omega) p9
      replace p10 := kp1 hb (by omega) p10
      replace p11 := kp1 hb (by omega) p11
      replace an_0 := kp1 hb (by omega) an_0
      replace an_1 := kp1 hb (by omega) an_1
      replace an_2 := kp1 hb (by omega) an_2
      replace an_3 := kp1 hb (by omega) an_3
      replace an_4 := kp1 hb (by omega) an_4
      replace an_5 := kp1 hb (by omega) an_5
      have am_0 : wr3.cell? ⟨wr2.heap.size, 0, none⟩ = some (.int .i64 am0) := (kn hb 0).trans rfl
      have am_1 : wr3.cell? ⟨wr2.heap.size, 1, none⟩ = some (.int .i64 am1) := (kn hb 1).trans rfl
      have am_2 : wr3.cell? ⟨wr2.heap.size, 2, none⟩ = some (.int .i64 am2) := (kn hb 2).trans rfl
      have am_3 : wr3.cell? ⟨wr2.heap.size, 3, none⟩ = some (.int .i64 am3) := (kn hb 3).trans rfl
      have am_4 : wr3.cell? ⟨wr2.heap.size, 4, none⟩ = some (.int .i64 am4) := (kn hb 4).trans rfl
      have am_5 : wr3.cell? ⟨wr2.heap.size, 5, none⟩ = some (.int .i64 am5) := (kn hb 5).trans rfl
      have hpb_ : pb < wr3.heap.size := by omega
      replace HP : Hid (∀ j, j < 48 → wr3.cell? ⟨pb, j, none⟩ = some (.int .i64 (f j))) := fun j hj => kp1 hb (by omega) (HP.out j hj)
      replace HB : Hid (Below w.heap.size w wr3) := by first | exact HB.out.trans (hb.mono (by first | omega | (simp [go_sem]; done) | (simp [go_sem]; omega))) | exact (HB.out.alloc (by first | omega | (simp [go_sem]; done) | (simp [go_sem]; omega)) _).trans (hb.mono (by first | omega | (simp [go_sem]; done) | (simp [go_sem]; omega))) | exact ((HB.out.alloc (by first | omega | (simp [go_sem]; done) | (simp [go_sem]; omega)) _).alloc (by first | omega | (simp [go_sem]; done) | (simp [go_sem]; omega)) _).trans (hb.mono (by first | omega | (simp [go_sem]; done) | (simp [go_sem]; omega))) | exact (((HB.out.alloc (by first | omega | (simp [go_sem]; done) | (simp [go_sem]; omega)) _).alloc (by first | omega | (simp [go_sem]; done) | (simp [go_sem]; omega)) _).alloc (by first | omega | (simp [go_sem]; done) | (simp [go_sem]; omega)) _).trans (hb.mono (by first | omega | (simp [go_sem]; done) | (simp [go_sem]; omega)))
      replace hS : w.heap.size ≤ wr3.heap.size := by omega
      replace b2 := b2_
      clear b2_
      replace b1 := b1_
      clear b1_
      replace bp := bp_
      clear bp_
      replace ban := ban_
      clear ban_
      replace hpb := hpb_
      clear hpb_
      clear hb hs
      go_wp2_with (fail)
      go_at_call 14
      refine Calls.mono (CBd.out _) ?_
      rintro e wr4 ⟨rfl, hb⟩
      have hs := hb.size
      try simp only [World.size_alloc, World.drew_heap] at hs
      have b2_ : w.heap.size + 1 + 1 < wr4.heap.size := by omega
      have b1_ : w.heap.size + 1 < wr4.heap.size := by omega
      have bp_ : wr.heap.size < wr4.heap.size := by omega
      have ban_ : wr1.heap.size < wr4.heap.size := by omega
      have bam_ : wr2.heap.size < wr4.heap.size := by omega
      have bdn : wr3.heap.size < wr4.heap.size := by omega
      replace vs0 := kp1 hb (by omega) vs0
      replace vs1 := kp1 hb (by omega) vs1
      replace vg0 := kp1 hb (by omega) vg0
      replace vg1 := kp1 hb (by omega) vg1
      replace vg2 := kp1 hb (by omega) vg2
      replace p0 := kp1 hb (by omega) p0
      replace p1 := kp1 hb (by omega) p1
      replace p2 := kp1 hb (by omega) p2
      replace p3 := kp1 hb (by omega) p3
      replace p4 := kp1 hb (by omega) p4
      replace p5 := kp1 hb (by omega) p5
      replace p6 := kp1 hb (by omega) p6
      replace p7 := kp1 hb (by omega) p7
      replace p8 := kp1 hb (by omega) p8
      replace p9 := kp1 hb (by omega) p9
      replace p10 := kp1 hb (by omega) p10
      replace p11 := kp1 hb (by omega) p11
      replace an_0 := kp1 hb (by omega) an_0
      replace an_1 := kp1 hb (by omega) an_1
      replace an_2 := kp1 hb (by omega) an_2
      replace an_3 := kp1 hb (by omega) an_3
      replace an_4 := kp1 hb (by omega) an_4
      replace an_5 := kp1 hb (by omega) an_5
      replace am_0 := kp1 hb (by omega) am_0
      replace am_1 := kp1 hb (by omega) am_1
      replace am_2 := kp1 hb (by omega) am_2
      replace am_3 := kp1 hb (by omega) am_3
      replace am_4 := kp1 hb (by omega) am_4
      replace am_5 := kp1 hb (by omega) am_5
      have dn_0 : wr4.cell? ⟨wr3.heap.size, 0, none⟩ = some (.int .i64 dn0) := (kn hb 0).trans rfl
      have dn_1 : wr4.cell? ⟨wr3.heap.size, 1, none⟩ = some (.int .i64 dn1) := (kn hb 1).trans rfl
      have dn_2 : wr4.cell? ⟨wr3.heap.size, 2, none⟩ = some (.int .i64 dn2) := (kn hb 2).trans rfl
      have dn_3 : wr4.cell? ⟨wr3.heap.size, 3, none⟩ = some (.int .i64 dn3) := (kn hb 3).trans rfl
      have dn_4 : wr4.cell? ⟨wr3.heap.size, 4, none⟩ = some (.int .i64 dn4) := (kn hb 4).trans rfl
      have dn_5 : wr4.cell? ⟨wr3.heap.size, 5, none⟩ = some (.int .i64 dn5) := (kn hb 5).trans rfl
      have hpb_ : pb < wr4.heap.size := by omega
      replace HP : Hid (∀ j, j < 48 → wr4.cell? ⟨pb, j, none⟩ = some (.int .i64 (f j))) := fun j hj => kp1 hb (by omega) (HP.out j hj)
      replace HB : Hid (Below w.heap.size w wr4) := by first | exact HB.out.trans (hb.mono (by first | omega | (simp [go_sem]; done) | (simp [go_sem]; omega))) | exact (HB.out.alloc (by first | omega | (simp [go_sem]; done) | (simp [go_sem]; omega)) _).trans (hb.mono (by first | omega | (simp [go_sem]; done) | (simp [go_sem]; omega))) | exact ((HB.out.alloc (by first | omega | (simp [go_sem]; done) | (simp [go_sem]; omega)) _).alloc (by first | omega | (simp [go_sem]; done) | (simp [go_sem]; omega)) _).trans (hb.mono (by first | omega | (simp [go_sem]; done) | (simp [go_sem]; omega))) | exact (((HB.out.alloc (by first | omega | (simp [go_sem]; done) | (simp [go_sem]; omega)) _).alloc (by first | omega | (simp [go_sem]; done) | (simp [go_sem]; omega)) _).alloc (by first | omega | (simp [go_sem]; done) | (simp [go_sem]; omega)) _).trans (hb.mono (by first | omega | (simp [go_sem]; done) | (simp [go_sem]; omega)))
      replace hS : w.heap.size ≤ wr4.heap.size := by omega
      replace b2 := b2_
      clear b2_
      replace b1 := b1_
      clear b1_
      replace bp := bp_
      clear bp_
      replace ban := ban_
      clear ban_
      replace bam := bam_
      clear bam_
      replace hpb := hpb_
      clear hpb_
      clear hb hs
      go_wp2_with (fail)
      go_at_call 15
      refine Calls.mono (CAh.out _) ?_
      rintro e wr5 ⟨rfl, hb⟩
      have hs := hb.size
      try simp only [World.size_alloc, World.drew_heap] at hs
      have b2_ : w.heap.size + 1 + 1 < wr5.heap.size := by omega
      have b1_ : w.heap.size + 1 < wr5.heap.size := by omega
      have bp_ : wr.heap.size < wr5.heap.size := by omega
      have ban_ : wr1.heap.size < wr5.heap.size := by omega
      have bam_ : wr2.heap.size < wr5.heap.size := by omega
      have bdn_ : wr3.heap.size < wr5.heap.size := by omega
      have bdm : wr4.heap.size < wr5.heap.size := by omega
      replace vs0 := kp1 hb (by omega) vs0
      replace vs1 := kp1 hb (by omega) vs1
      replace vg0 := kp1 hb (by omega) vg0
      replace vg1 := kp1 hb (by omega) vg1
      replace vg2 := kp1 hb (by omega) vg2
      replace p0 := kp1 hb (by omega) p0
      replace p1 := kp1 hb (by omega) p1
      replace p2 := kp1 hb (by omega) p2
      replace p3 := kp1 hb (by omega) p3
      replace p4 := kp1 hb (by omega) p4
      replace p5 := kp1 hb (by omega) p5
      replace p6 := kp1 hb (by omega) p6
      replace p7 := kp1 hb (by omega) p7
      replace p8 := kp1 hb (by omega) p8
      replace p9 := kp1 hb (by omega) p9
      replace p10 := kp1 hb (by omega) p10
      replace p11 := kp1 hb (by omega) p11
      replace an_0 := kp1 hb (by omega) an_0
      replace an_1 := kp1 hb (by omega) an_1
      replace an_2 := kp1 hb (by omega) an_2
      replace an_3 := kp1 hb (by omega) an_3
      replace an_4 := kp1 hb (by omega) an_4
      replace an_5 := kp1 hb (by omega) an_5
      replace am_0 := kp1 hb (by omega) am_0
      replace am_1 := kp1 hb (by omega) am_1
      replace am_2 := kp1 hb (by omega) am_2
      replace am_3 := kp1 hb (by omega) am_3
      replace am_4 := kp1 hb (by omega) am_4
      replace am_5 := kp1 hb (by omega) am_5
      replace dn_0 := kp1 hb (by omega) dn_0
      replace dn_1 := kp1 hb (by omega) dn_1
      replace dn_2 := kp1 hb (by omega) dn_2
      replace dn_3 := kp1 hb (by omega) dn_3
      replace dn_4 := kp1 hb (by omega) dn_4
      replace dn_5 := kp1 hb (by omega) dn_5
      have dm_0 : wr5.cell? ⟨wr4.heap.size, 0, none⟩ = some (.int .i64 dm0) := (kn hb 0).trans rfl
      have dm_1 : wr5.cell? ⟨wr4.heap.size, 1, none⟩ = some (.int .i64 dm1) := (kn hb 1).trans rfl
      have dm_2 : wr5.cell? ⟨wr4.heap.size, 2, none⟩ = some (.int .i64 dm2) := (kn hb 2).trans rfl
      have dm_3 : wr5.cell? ⟨wr4.heap.size, 3, none⟩ = some (.int .i64 dm3) := (kn hb 3).trans rfl
      have dm_4 : wr5.cell? ⟨wr4.heap.size, 4, none⟩ = some (.int .i64 dm4) := (kn hb 4).trans rfl
      have dm_5 : wr5.cell? ⟨wr4.heap.size, 5, none⟩ = some (.int .i64 dm5) := (kn hb 5).trans rfl
      have hpb_ : pb < wr5.heap.size := by omega
      replace HP : Hid (∀ j, j < 48 → wr5.cell? ⟨pb, j, none⟩ = some (.int .i64 (f j))) := fun j hj => kp1 hb (by omega) (HP.out j hj)
      replace HB : Hid (Below w.heap.size w wr5) := by first | exact HB.out.trans (hb.mono (by first | omega | (simp [go_sem]; done) | (simp [go_sem]; omega))) | exact (HB.out.alloc (by first | omega | (simp [go_sem]; done) | (simp [go_sem]; omega)) _).trans (hb.mono (by first | omega | (simp [go_sem]; done) | (simp [go_sem]; omega))) | exact ((HB.out.alloc (by first | omega | (simp [go_sem]; done) | (simp [go_sem]; omega)) _).alloc (by first | omega | (simp [go_sem]; done) | (simp [go_sem]; omega)) _).trans (hb.mono (by first | omega | (simp [go_sem]; done) | (simp [go_sem]; omega))) | exact (((HB.out.alloc (by first | omega | (simp [go_sem]; done) | (simp [go_sem]; omega)) _).alloc (by first | omega | (simp [go_sem]; done) | (simp [go_sem]; omega)) _).alloc (by first | omega | (simp [go_sem]; done) | (simp [go_sem]; omega)) _).trans (hb.mono (by first | omega | (simp [go_sem]; done) | (simp [go_sem]; omega)))
      replace hS : w.heap.size ≤ wr5.heap.size := by omega
      replace b2 := b2_
      clear b2_
      replace b1 := b1_
      clear b1_
      replace bp := bp_
      clear bp_
      replace ban := ban_
      clear ban_
      replace bam := bam_
      clear bam_
      replace bdn := bdn_
      clear bdn_
      replace hpb := hpb_
      clear hpb_
      clear hb hs
      go_wp2_with (fail)
      go_at_call 16
      refine Calls.mono (CBh.out _) ?_
      rintro e wr6 ⟨rfl, hb⟩
      have hs := hb.size
      try simp only [World.size_alloc, World.drew_heap] at hs
      have b2_ : w.heap.size + 1 + 1 < wr6.heap.size := by omega
      have b1_ : w.heap.size + 1 < wr6.heap.size := by omega
      have bp_ : wr.heap.size < wr6.heap.size := by omega
      have ban_ : wr1.heap.size < wr6.heap.size := by omega
      have bam_ : wr2.heap.size < wr6.heap.size := by omega
      have bdn_ : wr3.heap.size < wr6.heap.size := by omega
      have bdm_ : wr4.heap.size < wr6.heap.size := by omega
      have bhn : wr5.heap.size < wr6.heap.size := by omega
      replace vs0 := kp1 hb (by omega) vs0
      replace vs1 := kp1 hb (by omega) vs1
      replace vg0 := kp1 hb (by omega) vg0
      replace vg1 := kp1 hb (by omega) vg1
      replace vg2 := kp1 hb (by omega) vg2
      replace p0 := kp1 hb (by omega) p0
      replace p1 := kp1 hb (by omega) p1
      replace p2 := kp1 hb (by omega) p2
      replace p3 := kp1 hb (by omega) p3
      replace p4 := kp1 hb (by omega) p4
      replace p5 := kp1 hb (by omega) p5
      replace p6 := kp1 hb (by omega) p6
      replace p7 := kp1 hb (by omega) p7
      replace p8 := kp1 hb (by omega) p8
      replace p9 := kp1 hb (by omega) p9
      replace p10 := kp1 hb (by omega) p10
      replace p11 := kp1 hb (by omega) p11
      replace an_0 := kp1 hb (by omega) an_0
      replace an_1 := kp1 hb (by omega) an_1
      replace an_2 := kp1 hb (by omega) an_2
      replace an_3 := kp1 hb (by omega) an_3
      replace an_4 := kp1 hb (by omega) an_4
      replace an_5 := kp1 hb (by omega) an_5
      replace am_0 := kp1 hb (by omega) am_0
      replace am_1 := kp1 hb (by omega) am_1
      replace am_2 := kp1 hb (by omega) am_2
      replace am_3 := kp1 hb (by omega) am_3
      replace am_4 := kp1 hb (by omega) am_4
      replace am_5 := kp1 hb (by omega) am_5
      replace dn_0 := kp1 hb (by omega) dn_0
      replace dn_1 := kp1 hb (by omega) dn_1
      replace dn_2 := kp1 hb (by omega) dn_2
      replace dn_3 := kp1 hb (by omega) dn_3
      replace dn_4 := kp1 hb (by omega) dn_4
      replace dn_5 := kp1 hb (by omega) dn_5
      replace dm_0 := kp1 hb (by omega) dm_0
      replace dm_1 := kp1 hb (by omega) dm_1
      replace dm_2 := kp1 hb (by omega) dm_2
      replace dm_3 := kp1 hb (by omega) dm_3
      replace dm_4 := kp1 hb (by omega) dm_4
      replace dm_5 := kp1 hb (by omega) dm_5
      have hn_0 : wr6.cell? ⟨wr5.heap.size, 0, none⟩ = some (.int .i64 hn0) := (kn hb 0).trans rfl
      have hn_1 : wr6.cell? ⟨wr5.heap.size, 1, none⟩ = some (.int .i64 hn1) := (kn hb 1).trans rfl
      have hn_2 : wr6.cell? ⟨wr5.heap.size, 2, none⟩ = some (.int .i64 hn2) := (kn hb 2).trans rfl
      have hn_3 : wr6.cell? ⟨wr5.heap.size, 3, none⟩ = some (.int .i64 hn3) := (kn hb 3).trans rfl
      have hn_4 : wr6.cell? ⟨wr5.heap.size, 4, none⟩ = some (.int .i64 hn4) := (kn hb 4).trans rfl
      have hn_5 : wr6.cell? ⟨wr5.heap.size, 5, none⟩ = some (.int .i64 hn5) := (kn hb 5).trans rfl
      have hpb_ : pb < wr6.heap.size := by omega
      replace HP : Hid (∀ j, j < 48 → wr6.cell? ⟨pb, j, none⟩ = some (.int .i64 (f j))) := fun j hj => kp1 hb (by omega) (HP.out j hj)
      replace HB : Hid (Below w.heap.size w wr6) := by first | exact HB.out.trans (hb.mono (by first | omega | (simp [go_sem]; done) | (simp [go_sem]; omega))) | exact (HB.out.alloc (by first | omega | (simp [go_sem]; done) | (simp [go_sem]; omega)) _).trans (hb.mono (by first | omega | (simp [go_sem]; done) | (simp [go_sem]; omega))) | exact ((HB.out.alloc (by first | omega | (simp [go_sem]; done) | (simp [go_sem]; omega)) _).alloc (by first | omega | (simp [go_sem]; done) | (simp [go_sem]; omega)) _).trans (hb.mono (by first | omega | (simp [go_sem]; done) | (simp [go_sem]; omega))) | exact (((HB.out.alloc (by first | omega | (simp [go_sem]; done) | (simp [go_sem]; omega)) _).alloc (by first | omega | (simp [go_sem]; done) | (simp [go_sem]; omega)) _).alloc (by first | omega | (simp [go_sem]; done) | (simp [go_sem]; omega)) _).trans (hb.mono (by first | omega | (simp [go_sem]; done) | (simp [go_sem]; omega)))
      replace hS : w.heap.size ≤ wr6.heap.size := by omega
      replace b2 := b2_
      clear b2_
      replace b1 := b1_
      clear b1_
      replace bp := bp_
      clear bp_
      replace ban := ban_
      clear ban_
      replace bam := bam_
      clear bam_
      replace bdn := bdn_
      clear bdn_
      replace bdm := bdm_
      clear bdm_
      replace hpb := hpb_
      clear hpb_
      clear hb hs
      obtain ⟨V, hV⟩ : ∃ V, V = wr6.alloc (Obj.cells #[Value.int IntKind.i64 hm0, Value.int IntKind.i64 hm1, Value.int IntKind.i64 hm2, Value.int IntKind.i64 hm3, Value.int IntKind.i64 hm4, Value.int IntKind.i64 hm5] 25) := ⟨_, rfl⟩
      have hsV : V.heap.size = wr6.heap.size + 1 := by rw [hV]; simp
      replace vs0 : V.cell? ⟨w.heap.size + 1, 0, none⟩ = some (.int .i64 s0) := by rw [hV]; exact ka (by omega) vs0
      replace vs1 : V.cell? ⟨w.heap.size + 1, 1, none⟩ = some (.int .i64 s1) := by rw [hV]; exact ka (by omega) vs1
      replace vg0 : V.cell? ⟨w.heap.size + 1 + 1, 0, none⟩ = some (.int .i64 g0) := by rw [hV]; exact ka (by omega) vg0
      replace vg1 : V.cell? ⟨w.heap.size + 1 + 1, 1, none⟩ = some (.int .u8 g1) := by rw [hV]; exact ka (by omega) vg1
      replace vg2 : V.cell? ⟨w.heap.size + 1 + 1, 2, none⟩ = some (.int .u32 g2) := by rw [hV]; exact ka (by omega) vg2
      replace p0 : V.cell? ⟨wr.heap.size, 0, none⟩ = some (.int .i64 (f (12 * k + 0))) := by rw [hV]; exact ka (by omega) p0
      replace p1 : V.cell? ⟨wr.heap.size, 1, none⟩ = some (.int .i64 (f (12 * k + 1))) := by rw [hV]; exact ka (by omega) p1
      replace p2 : V.cell? ⟨wr.heap.size, 2, none⟩ = some (.int .i64 (f (12 * k + 2))) := by rw [hV]; exact ka (by omega) p2
      replace p3 : V.cell? ⟨wr.heap.size, 3, none⟩ = some (.int .i64 (f (12 * k + 3))) := by rw [hV]; exact ka (by omega) p3
      replace p4 : V.cell? ⟨wr.heap.size, 4, none⟩ = some (.int .i64 (f (12 * k + 4))) := by rw [hV]; exact ka (by omega) p4
      replace p5 : V.cell? ⟨wr.heap.size, 5, none⟩ = some (.int .i64 (f (12 * k + 5))) := by rw [hV]; exact ka (by omega) p5
      replace p6 : V.cell? ⟨wr.heap.size, 6, none⟩ = some (.int .i64 (f (12 * k + 6))) := by rw [hV]; exact ka (by omega) p6
      replace p7 : V.cell? ⟨wr.heap.size, 7, none⟩ = some (.int .i64 (f (12 * k + 7))) := by rw [hV]; exact ka (by omega) p7
      replace p8 : V.cell? ⟨wr.heap.size, 8, none⟩ = some (.int .i64 (f (12 * k + 8))) := by rw [hV]; exact ka (by omega) p8
      replace p9 : V.cell? ⟨wr.heap.size, 9, none⟩ = some (.int .i64 (f (12 * k + 9))) := by rw [hV]; exact ka (by omega) p9
      replace p10 : V.cell? ⟨wr.heap.size, 10, none⟩ = some (.int .i64 (f (12 * k + 10))) := by rw [hV]; exact ka (by omega) p10
      replace p11 : V.cell? ⟨wr.heap.size, 11, none⟩ = some (.int .i64 (f (12 * k + 11))) := by rw [hV]; exact ka (by omega) p11
      replace an_0 : V.cell? ⟨wr1.heap.size, 0, none⟩ = some (.int .i64 an0) := by rw [hV]; exact ka (by omega) an_0
      replace an_1 : V.cell? ⟨wr1.heap.size, 1, none⟩ = some (.int .i64 an1) := by rw [hV]; exact ka (by omega) an_1
      replace an_2 : V.cell? ⟨wr1.heap.size, 2, none⟩ = some (.int .i64 an2) := by rw [hV]; exact ka (by omega) an_2
      replace an_3 : V.cell? ⟨wr1.heap.size, 3, none⟩ = some (.int .i64 an3) := by rw [hV]; exact ka (by omega) an_3
      replace an_4 : V.cell? ⟨wr1.heap.size, 4, none⟩ = some (.int .i64 an4) := by rw [hV]; exact ka (by omega) an_4
      replace an_5 : V.cell? ⟨wr1.heap.size, 5, none⟩ = some (.int .i64 an5) := by rw [hV]; exact ka (by omega) an_5
      replace am_0 : V.cell? ⟨wr2.heap.size, 0, none⟩ = some (.int .i64 am0) := by rw [hV]; exact ka (by omega) am_0
      replace am_1 : V.cell? ⟨wr2.heap.size, 1, none⟩ = some (.int .i64 am1) := by rw [hV]; exact ka (by omega) am_1
      replace am_2 : V.cell? ⟨wr2.heap.size, 2, none⟩ = some (.int .i64 am2) := by rw [hV]; exact ka (by omega) am_2
      replace am_3 : V.cell? ⟨wr2.heap.size, 3, none⟩ = some (.int .i64 am3) := by rw [hV]; exact ka (by omega) am_3
      replace am_4 : V.cell? ⟨wr2.heap.size, 4, none⟩ = some (.int .i64 am4) := by rw [hV]; exact ka (by omega) am_4
      replace am_5 : V.cell? ⟨wr2.heap.size, 5, none⟩ = some (.int .i64 am5) := by rw [hV]; exact ka (by omega) am_5
      replace dn_0 : V.cell? ⟨wr3.heap.size, 0, none⟩ = some (.int .i64 dn0) := by rw [hV]; exact ka (by omega) dn_0
      replace dn_1 : V.cell? ⟨wr3.heap.size, 1, none⟩ = some (.int .i64 dn1) := by rw [hV]; exact ka (by omega) dn_1
      replace dn_2 : V.cell? ⟨wr3.heap.size, 2, none⟩ = some (.int .i64 dn2) := by rw [hV]; exact ka (by omega) dn_2
      replace dn_3 : V.cell? ⟨wr3.heap.size, 3, none⟩ = some (.int .i64 dn3) := by rw [hV]; exact ka (by omega) dn_3
      replace dn_4 : V.cell? ⟨wr3.heap.size, 4, none⟩ = some (.int .i64 dn4) := by rw [hV]; exact ka (by omega) dn_4
      replace dn_5 : V.cell? ⟨wr3.heap.size, 5, none⟩ = some (.int .i64 dn5) := by rw [hV]; exact ka (by omega) dn_5
      replace dm_0 : V.cell? ⟨wr4.heap.size, 0, none⟩ = some (.int .i64 dm0) := by rw [hV]; exact ka (by omega) dm_0
      replace dm_1 : V.cell? ⟨wr4.heap.size, 1, none⟩ = some (.int .i64 dm1) := by rw [hV]; exact ka (by omega) dm_1
      replace dm_2 : V.cell? ⟨wr4.heap.size, 2, none⟩ = some (.int .i64 dm2) := by rw [hV]; exact ka (by omega) dm_2
      replace dm_3 : V.cell? ⟨wr4.heap.size, 3, none⟩ = some (.int .i64 dm3) := by rw [hV]; exact ka (by omega) dm_3
      replace dm_4 : V.cell? ⟨wr4.heap.size, 4, none⟩ = some (.int .i64 dm4) := by rw [hV]; exact ka (by omega) dm_4
      replace dm_5 : V.cell? ⟨wr4.heap.size, 5, none⟩ = some (.int .i64 dm5) := by rw [hV]; exact ka (by omega) dm_5
      replace hn_0 : V.cell? ⟨wr5.heap.size, 0, none⟩ = some (.int .i64 hn0) := by rw [hV]; exact ka (by omega) hn_0
      replace hn_1 : V.cell? ⟨wr5.heap.size, 1, none⟩ = some (.int .i64 hn1) := by rw [hV]; exact ka (by omega) hn_1
      replace hn_2 : V.cell? ⟨wr5.heap.size, 2, none⟩ = some (.int .i64 hn2) := by rw [hV]; exact ka (by omega) hn_2
      replace hn_3 : V.cell? ⟨wr5.heap.size, 3, none⟩ = some (.int .i64 hn3) := by rw [hV]; exact ka (by omega) hn_3
      replace hn_4 : V.cell? ⟨wr5.heap.size, 4, none⟩ = some (.int .i64 hn4) := by rw [hV]; exact ka (by omega) hn_4
      replace hn_5 : V.cell? ⟨wr5.heap.size, 5, none⟩ = some (.int .i64 hn5) := by rw [hV]; exact ka (by omega) hn_5
      have hm_0 : V.cell? ⟨wr6.heap.size, 0, none⟩ = some (.int .i64 hm0) := by rw [hV]; simp [go_sem]
      have hm_1 : V.cell? ⟨wr6.heap.size, 1, none⟩ = some (.int .i64 hm1) := by rw [hV]; simp [go_sem]
      have hm_2 : V.cell? ⟨wr6.heap.size, 2, none⟩ = some (.int .i64 hm2) := by rw [hV]; simp [go_sem]
      have hm_3 : V.cell? ⟨wr6.heap.size, 3, none⟩ = some (.int .i64 hm3) := by rw [hV]; simp [go_sem]
      have hm_4 : V.cell? ⟨wr6.heap.size, 4, none⟩ = some (.int .i64 hm4) := by rw [hV]; simp [go_sem]
      have hm_5 : V.cell? ⟨wr6.heap.size, 5, none⟩ = some (.int .i64 hm5) := by rw [hV]; simp [go_sem]
      replace HP : Hid (∀ j, j < 48 → V.cell? ⟨pb, j, none⟩ = some (.int .i64 (f j))) := fun j hj => by rw [hV]; exact ka (by omega) (HP.out j hj)
      replace HB : Hid (Below w.heap.size w V) := by rw [hV]; exact HB.out.alloc (by omega) _
      replace hS : w.heap.size ≤ V.heap.size := by omega
      replace hpb : pb < V.heap.size := by omega
      replace b2 : w.heap.size + 1 + 1 < V.heap.size := by omega
      replace b1 : w.heap.size + 1 < V.heap.size := by omega
      replace bp : wr.heap.size < V.heap.size := by omega
      replace ban : wr1.heap.size < V.heap.size := by omega
      replace bam : wr2.heap.size < V.heap.size := by omega
      replace bdn : wr3.heap.size < V.heap.size := by omega
      replace bdm : wr4.heap.size < V.heap.size := by omega
      replace bhn : wr5.heap.size < V.heap.size := by omega
      have bhm : wr6.heap.size < V.heap.size := by omega
      clear hsV
      go_wp2_with (fail)
      rw [← hV]; clear hV
      refine wp_region_held_drew (S := (fun w' => w'.cell? ⟨w.heap.size + 1, 0, none⟩ = some (.int .i64 s0) ∧ w'.cell? ⟨w.heap.size + 1, 1, none⟩ = some (.int .i64 s1) ∧ w'.cell? ⟨w.heap.size + 1 + 1, 0, none⟩ = some (.int .i64 g0) ∧ w'.cell? ⟨w.heap.size + 1 + 1, 1, none⟩ = some (.int .u8 g1) ∧ w'.cell? ⟨w.heap.size + 1 + 1, 2, none⟩ = some (.int .u32 g2) ∧ w'.cell? ⟨wr.heap.size, 0, none⟩ = some (.int .i64 (f (12 * k + 0))) ∧ w'.cell? ⟨wr.heap.size, 1, none⟩ = some (.int .i64 (f (12 * k + 1))) ∧ w'.cell? ⟨wr.heap.size, 2, none⟩ = some (.int .i64 (f (12 * k + 2))) ∧ w'.cell? ⟨wr.heap.size, 3, none⟩ = some (.int .i64 (f (12 * k + 3))) ∧ w'.cell? ⟨wr.heap.size, 4, none⟩ = some (.int .i64 (f (12 * k + 4))) ∧ w'.cell? ⟨wr.heap.size, 5, none⟩ = some (.int .i64 (f (12 * k + 5))) ∧ w'.cell? ⟨wr.heap.size, 6, none⟩ = some (.int .i64 (f (12 * k + 6))) ∧ w'.cell? ⟨wr.heap.size, 7, none⟩ = some (.int .i64 (f (12 * k + 7))) ∧ w'.cell? ⟨wr.heap.size, 8, none⟩ = some (.int .i64 (f (12 * k + 8))) ∧ w'.cell? ⟨wr.heap.size, 9, none⟩ = some (.int .i64 (f (12 * k + 9))) ∧ w'.cell? ⟨wr.heap.size, 10, none⟩ = some (.int .i64 (f (12 * k + 10))) ∧ w'.cell? ⟨wr.heap.size, 11, none⟩ = some (.int .i64 (f (12 * k + 11))) ∧ w'.cell? ⟨wr1.heap.size, 0, none⟩ = some (.int .i64 an0) ∧ w'.cell? ⟨wr1.heap.size, 1, none⟩ = some (.int .i64 an1) ∧ w'.cell? ⟨wr1.heap.size, 2, none⟩ = some (.int .i64 an2) ∧ w'.cell? ⟨wr1.heap.size, 3, none⟩ = some (.int .i64 an3) ∧ w'.cell? ⟨wr1.heap.size, 4, none⟩ = some (.int .i64 an4) ∧ w'.cell? ⟨wr1.heap.size, 5, none⟩ = some (.int .i64 an5) ∧ w'.cell? ⟨wr2.heap.size, 0, none⟩ = some (.int .i64 am0) ∧ w'.cell? ⟨wr2.heap.size, 1, none⟩ = some (.int .i64 am1) ∧ w'.cell? ⟨wr2.heap.size, 2, none⟩ = some (.int .i64 am2) ∧ w'.cell? ⟨wr2.heap.size, 3, none⟩ = some (.int .i64 am3) ∧ w'.cell? ⟨wr2.heap.size, 4, none⟩ = some (.int .i64 am4) ∧ w'.cell? ⟨wr2.heap.size, 5, none⟩ = some (.int .i64 am5) ∧ w'.cell? ⟨wr3.heap.size, 0, none⟩ = some (.int .i64 dn0) ∧ w'.cell? ⟨wr3.heap.size, 1, none⟩ = some (.int .i64 dn1) ∧ w'.cell? ⟨wr3.heap.size, 2, none⟩ = some (.int .i64 dn2) ∧ w'.cell? ⟨wr3.heap.size, 3, none⟩ = some (.int .i64 dn3) ∧ w'.cell? ⟨wr3.heap.size, 4, none⟩ = some (.int .i64 dn4) ∧ w'.cell? ⟨wr3.heap.size, 5, none⟩ = some (.int .i64 dn5) ∧ w'.cell? ⟨wr4.heap.size, 0, none⟩ = some (.int .i64 dm0) ∧ w'.cell? ⟨wr4.heap.size, 1, none⟩ = some (.int .i64 dm1) ∧ w'.cell? ⟨wr4.heap.size, 2, none⟩ = some (.int .i64 dm2) ∧ w'.cell? ⟨wr4.heap.size, 3, none⟩ = some (.int .i64 dm3) ∧ w'.cell? ⟨wr4.heap.size, 4, none⟩ = some (.int .i64 dm4) ∧ w'.cell? ⟨wr4.heap.size, 5, none⟩ = some (.int .i64 dm5) ∧ w'.cell? ⟨wr5.heap.size, 0, none⟩ = some (.int .i64 hn0) ∧ w'.cell? ⟨wr5.heap.size, 1, none⟩ = some (.int .i64 hn1) ∧ w'.cell? ⟨wr5.heap.size, 2, none⟩ = some (.int .i64 hn2) ∧ w'.cell? ⟨wr5.heap.size, 3, none⟩ = some (.int .i64 hn3) ∧ w'.cell? ⟨wr5.heap.size, 4, none⟩ = some (.int .i64 hn4) ∧ w'.cell? ⟨wr5.heap.size, 5, none⟩ = some (.int .i64 hn5) ∧ w'.cell? ⟨wr6.heap.size, 0, none⟩ = some (.int .i64 hm0) ∧ w'.cell? ⟨wr6.heap.size, 1, none⟩ = some (.int .i64 hm1) ∧ w'.cell? ⟨wr6.heap.size, 2, none⟩ = some (.int .i64 hm2) ∧ w'.cell? ⟨wr6.heap.size, 3, none⟩ = some (.int .i64 hm3) ∧ w'.cell? ⟨wr6.heap.size, 4, none⟩ = some (.int .i64 hm4) ∧ w'.cell? ⟨wr6.heap.size, 5, none⟩ = some (.int .i64 hm5))) (by kernel_rfl) ?_ (fun hHeld => ?_)
      · (try dsimp only); with_reducible exact ⟨cell_drew vs0, cell_drew vs1, cell_drew vg0, cell_drew vg1, cell_drew vg2, cell_drew p0, cell_drew p1, cell_drew p2, cell_drew p3, cell_drew p4, cell_drew p5, cell_drew p6, cell_drew p7, cell_drew p8, cell_drew p9, cell_drew p10, cell_drew p11, cell_drew an_0, cell_drew an_1, cell_drew an_2, cell_drew an_3, cell_drew an_4, cell_drew an_5, cell_drew am_0, cell_drew am_1, cell_drew am_2, cell_drew am_3, cell_drew am_4, cell_drew am_5, cell_drew dn_0, cell_drew dn_1, cell_drew dn_2, cell_drew dn_3, cell_drew dn_4, cell_drew dn_5, cell_drew dm_0, cell_drew dm_1, cell_drew dm_2, cell_drew dm_3, cell_drew dm_4, cell_drew dm_5, cell_drew hn_0, cell_drew hn_1, cell_drew hn_2, cell_drew hn_3, cell_drew hn_4, cell_drew hn_5, cell_drew hm_0, cell_drew hm_1, cell_drew hm_2, cell_drew hm_3, cell_drew hm_4, cell_drew hm_5⟩
      refine wpAnyH_take (i := 0) (oi := _) (v := ?_) rfl (by kernel_rfl) (by kernel_rfl) (by kernel_rfl) (fun _ _ _ h => h) (Or.inl ⟨by rfl, ?_⟩) (by assumption) ?_
      rotate_left
      · intro w hSw; (try dsimp only at hSw); go_simp; (first | done | with_reducible rfl)
      (try simp only [List.getElem_toArray, List.getElem_cons_succ, List.getElem_cons_zero, Act.put, List.setIfInBounds_toArray, List.set_cons_zero, List.set_cons_succ])
      refine wpAnyH_take (i := 1) (oi := _) (v := ?_) rfl (by kernel_rfl) (by kernel_rfl) (by kernel_rfl) (fun _ _ _ h => h) (Or.inl ⟨by rfl, ?_⟩) (by assumption) ?_
      rotate_left
      · intro w hSw; (try dsimp only at hSw); go_simp; (first | done | with_reducible rfl)
      (try simp only [List.getElem_toArray, List.getElem_cons_succ, List.getElem_cons_zero, Act.put, List.setIfInBounds_toArray, List.set_cons_zero, List.set_cons_succ])
      refine wpAnyH_take (i := 3) (oi := _) (v := ?_) rfl (by kernel_rfl) (by kernel_rfl) (by kernel_rfl) (fun _ _ _ h => h) (Or.inl ⟨by rfl, ?_⟩) (by assumption) ?_
      rotate_left
      · intro w hSw; (try dsimp only at hSw); go_simp; (first | done | with_reducible rfl)
      (try simp only [List.getElem_toArray, List.getElem_cons_succ, List.getElem_cons_zero, Act.put, List.setIfInBounds_toArray, List.set_cons_zero, List.set_cons_succ])
      refine wpAnyH_take (i := 4) (oi := _) (v := ?_) rfl (by kernel_rfl) (by kernel_rfl) (by kernel_rfl) (fun _ _ _ h => h) (Or.inl ⟨by rfl, ?_⟩) (by assumption) ?_
      rotate_left
      · intro w hSw; (try dsimp only at hSw); go_simp; (first | done | with_reducible rfl)
      (try simp only [List.getElem_toArray, List.getElem_cons_succ, List.getElem_cons_zero, Act.put, List.setIfInBounds_toArray, List.set_cons_zero, List.set_cons_succ])
      refine wpAnyH_ready (rs := [2]) (by kernel_rfl) (by simp) ?_
      refine AllReadyH.cons (o := _) rfl (fun K hK => ?_) AllReadyH.nil
      go_simp
      (go_at_call 17; refine (CAq.out V.drew).mono ?_; rintro e wr7 ⟨rfl, hb⟩; (replace hb : Below V.heap.size V wr7 := Below.undrew hb); (have hs := hb.size); (have b2_ : w.heap.size + 1 + 1 < wr7.heap.size := by omega); (have b1_ : w.heap.size + 1 < wr7.heap.size := by omega); (have bp_ : wr.heap.size < wr7.heap.size := by omega); (have ban_ : wr1.heap.size < wr7.heap.size := by omega); (have bam_ : wr2.heap.size < wr7.heap.size := by omega); (have bdn_ : wr3.heap.size < wr7.heap.size := by omega); (have bdm_ : wr4.heap.size < wr7.heap.size := by omega); (have bhn_ : wr5.heap.size < wr7.heap.size := by omega); (have bhm_ : wr6.heap.size < wr7.heap.size := by omega); (replace vs0 := kp hb (by omega) vs0); (replace vs1 := kp hb (by omega) vs1); (replace vg0 := kp hb (by omega) vg0); (replace vg1 := kp hb (by omega) vg1); (replace vg2 := kp hb (by omega) vg2); (replace p0 := kp hb (by omega) p0); (replace p1 := kp hb (by omega) p1); (replace p2 := kp hb (by omega) p2); (replace p3 := kp hb (by omega) p3); (replace p4 := kp hb (by omega) p4); (replace p5 := kp hb (by omega) p5); (replace p6 := kp hb (by omega) p6); (replace p7 := kp hb (by omega) p7); (replace p8 := kp hb (by omega) p8); (replace p9 := kp hb (by omega) p9); (replace p10 := kp hb (by omega) p10); (replace p11 := kp hb (by omega) p11); (replace an_0 := kp hb (by omega) an_0); (replace an_1 := kp hb (by omega) an_1); (replace an_2 := kp hb (by omega) an_2); (replace an_3 := kp hb (by omega) an_3); (replace an_4 := kp hb (by omega) an_4); (replace an_5 := kp hb (by omega) an_5); (replace am_0 := kp hb (by omega) am_0); (replace am_1 := kp hb (by omega) am_1); (replace am_2 := kp hb (by omega) am_2); (replace am_3 := kp hb (by omega) am_3); (replace am_4 := kp hb (by omega) am_4); (replace am_5 := kp hb (by omega) am_5); (replace dn_0 := kp hb (by omega) dn_0); (replace dn_1 := kp hb (by omega) dn_1); (replace dn_2 := kp hb (by omega) dn_2); (replace dn_3 := kp hb (by omega) dn_3); (replace dn_4 := kp hb (by omega) dn_4); (replace dn_5 := kp hb (by omega) dn_5); (replace dm_0 := kp hb (by omega) dm_0); (replace dm_1 := kp hb (by omega) dm_1); (replace dm_2 := kp hb (by omega) dm_2); (replace dm_3 := kp hb (by omega) dm_3); (replace dm_4 := kp hb (by omega) dm_4); (replace dm_5 := kp hb (by omega) dm_5); (replace hn_0 := kp hb (by omega) hn_0); (replace hn_1 := kp hb (by omega) hn_1); (replace hn_2 := kp hb (by omega) hn_2); (replace hn_3 := kp hb (by omega) hn_3); (replace hn_4 := kp hb (by omega) hn_4); (replace hn_5 := kp hb (by omega) hn_5); (replace hm_0 := kp hb (by omega) hm_0); (replace hm_1 := kp hb (by omega) hm_1); (replace hm_2 := kp hb (by omega) hm_2); (replace hm_3 := kp hb (by omega) hm_3); (replace hm_4 := kp hb (by omega) hm_4); (replace hm_5 := kp hb (by omega) hm_5); (have hpb_ : pb < wr7.heap.size := by omega); (replace HP : Hid (∀ j, j < 48 → wr7.cell? ⟨pb, j, none⟩ = some (.int .i64 (f j))) := fun j hj => kp hb (by omega) (HP.out j hj)); (replace HB : Hid (Below w.heap.size w wr7) := by first | exact HB.out.trans (hb.mono (by first | omega | (simp [go_sem]; done) | (simp [go_sem]; omega))) | exact (HB.out.alloc (by first | omega | (simp [go_sem]; done) | (simp [go_sem]; omega)) _).trans (hb.mono (by first | omega | (simp [go_sem]; done) | (simp [go_sem]; omega))) | exact ((HB.out.alloc (by first | omega | (simp [go_sem]; done) | (simp [go_sem]; omega)) _).alloc (by first | omega | (simp [go_sem]; done) | (simp [go_sem]; omega)) _).trans (hb.mono (by first | omega | (simp [go_sem]; done) | (simp [go_sem]; omega))) | exact (((HB.out.alloc (by first | omega | (simp [go_sem]; done) | (simp [go_sem]; omega)) _).alloc (by first | omega | (simp [go_sem]; done) | (simp [go_sem]; omega)) _).alloc (by first | omega | (simp [go_sem]; done) | (simp [go_sem]; omega)) _).trans (hb.mono (by first | omega | (simp [go_sem]; done) | (simp [go_sem]; omega)))); (replace hS : w.heap.size ≤ wr7.heap.size := by omega); (replace b2 := b2_); (clear b2_); (replace b1 := b1_); (clear b1_); (replace bp := bp_); (clear bp_); (replace ban := ban_); (clear ban_); (replace bam := bam_); (clear bam_); (replace bdn := bdn_); (clear bdn_); (replace bdm := bdm_); (clear bdm_); (replace bhn := bhn_); (clear bhn_); (replace bhm := bhm_); (clear bhm_); (replace hpb := hpb_); (clear hpb_); (clear hb hs))
      (try go_wp2_with (fail))
      refine hK.out _ _ ?_ (fun hHeld => ?_)
      · (try dsimp only); with_reducible exact ⟨vs0, vs1, vg0, vg1, vg2, p0, p1, p2, p3, p4, p5, p6, p7, p8, p9, p10, p11, an_0, an_1, an_2, an_3, an_4, an_5, am_0, am_1, am_2, am_3, am_4, am_5, dn_0, dn_1, dn_2, dn_3, dn_4, dn_5, dm_0, dm_1, dm_2, dm_3, dm_4, dm_5, hn_0, hn_1, hn_2, hn_3, hn_4, hn_5, hm_0, hm_1, hm_2, hm_3, hm_4, hm_5⟩
      clear hK K
      (try simp only [List.getElem_toArray, List.getElem_cons_succ, List.getElem_cons_zero, Act.put, List.setIfInBounds_toArray, List.set_cons_zero, List.set_cons_succ])
      refine wpAnyH_ready (rs := [5]) (by kernel_rfl) (by simp) ?_
      refine AllReadyH.cons (o := _) rfl (fun K hK => ?_) AllReadyH.nil
      go_simp
      (go_at_call 18; refine (CBq.out wr7).mono ?_; rintro e wr8 ⟨rfl, hb⟩; (have hs := hb.size); (have b2_ : w.heap.size + 1 + 1 < wr8.heap.size := by omega); (have b1_ : w.heap.size + 1 < wr8.heap.size := by omega); (have bp_ : wr.heap.size < wr8.heap.size := by omega); (have ban_ : wr1.heap.size < wr8.heap.size := by omega); (have bam_ : wr2.heap.size < wr8.heap.size := by omega); (have bdn_ : wr3.heap.size < wr8.heap.size := by omega); (have bdm_ : wr4.heap.size < wr8.heap.size := by omega); (have bhn_ : wr5.heap.size < wr8.heap.size := by omega); (have bhm_ : wr6.heap.size < wr8.heap.size := by omega); (replace vs0 := kp hb (by omega) vs0); (replace vs1 := kp hb (by omega) vs1); (replace vg0 := kp hb (by omega) vg0); (replace vg1 := kp hb (by omega) vg1); (replace vg2 := kp hb (by omega) vg2); (replace p0 := kp hb (by omega) p0); (replace p1 := kp hb (by omega) p1); (replace p2 := kp hb (by omega) p2); (replace p3 := kp hb (by omega) p3); (replace p4 := kp hb (by omega) p4); (replace p5 := kp hb (by omega) p5); (replace p6 := kp hb (by omega) p6); (replace p7 := kp hb (by omega) p7); (replace p8 := kp hb (by omega) p8); (replace p9 := kp hb (by omega) p9); (replace p10 := kp hb (by omega) p10); (replace p11 := kp hb (by omega) p11); (replace an_0 := kp hb (by omega) an_0); (replace an_1 := kp hb (by omega) an_1); (replace an_2 := kp hb (by omega) an_2); (replace an_3 := kp hb (by omega) an_3); (replace an_4 := kp hb (by omega) an_4); (replace an_5 := kp hb (by omega) an_5); (replace am_0 := kp hb (by omega) am_0); (replace am_1 := kp hb (by omega) am_1); (replace am_2 := kp hb (by omega) am_2); (replace am_3 := kp hb (by omega) am_3); (replace am_4 := kp hb (by omega) am_4); (replace am_5 := kp hb (by omega) am_5); (replace dn_0 := kp hb (by omega) dn_0); (replace dn_1 := kp hb (by omega) dn_1); (replace dn_2 := kp hb (by omega) dn_2); (replace dn_3 := kp hb (by omega) dn_3); (replace dn_4 := kp hb (by omega) dn_4); (replace dn_5 := kp hb (by omega) dn_5); (replace dm_0 := kp hb (by omega) dm_0); (replace dm_1 := kp hb (by omega) dm_1); (replace dm_2 := kp hb (by omega) dm_2); (replace dm_3 := kp hb (by omega) dm_3); (replace dm_4 := kp hb (by omega) dm_4); (replace dm_5 := kp hb (by omega) dm_5); (replace hn_0 := kp hb (by omega) hn_0); (replace hn_1 := kp hb (by omega) hn_1); (replace hn_2 := kp hb (by omega) hn_2); (replace hn_3 := kp hb (by omega) hn_3); (replace hn_4 := kp hb (by omega) hn_4); (replace hn_5 := kp hb (by omega) hn_5); (replace hm_0 := kp hb (by omega) hm_0); (replace hm_1 := kp hb (by omega) hm_1); (replace hm_2 := kp hb (by omega) hm_2); (replace hm_3 := kp hb (by omega) hm_3); (replace hm_4 := kp hb (by omega) hm_4); (replace hm_5 := kp hb (by omega) hm_5); (have hpb_ : pb < wr8.heap.size := by omega); (replace HP : Hid (∀ j, j < 48 → wr8.cell? ⟨pb, j, none⟩ = some (.int .i64 (f j))) := fun j hj => kp hb (by omega) (HP.out j hj)); (replace HB : Hid (Below w.heap.size w wr8) := by first | exact HB.out.trans (hb.mono (by first | omega | (simp [go_sem]; done) | (simp [go_sem]; omega))) | exact (HB.out.alloc (by first | omega | (simp [go_sem]; done) | (simp [go_sem]; omega)) _).trans (hb.mono (by first | omega | (simp [go_sem]; done) | (simp [go_sem]; omega))) | exact ((HB.out.alloc (by first | omega | (simp [go_sem]; done) | (simp [go_sem]; omega)) _).alloc (by first | omega | (simp [go_sem]; done) | (simp [go_sem]; omega)) _).trans (hb.mono (by first | omega | (simp [go_sem]; done) | (simp [go_sem]; omega))) | exact (((HB.out.alloc (by first | omega | (simp [go_sem]; done) | (simp [go_sem]; omega)) _).alloc (by first | omega | (simp [go_sem]; done) | (simp [go_sem]; omega)) _).alloc (by first | omega | (simp [go_sem]; done) | (simp [go_sem]; omega)) _).trans (hb.mono (by first | omega | (simp [go_sem]; done) | (simp [go_sem]; omega)))); (replace hS : w.heap.size ≤ wr8.heap.size := by omega); (replace b2 := b2_); (clear b2_); (replace b1 := b1_); (clear b1_); (replace bp := bp_); (clear bp_); (replace ban := ban_); (clear ban_); (replace bam := bam_); (clear bam_); (replace bdn := bdn_); (clear bdn_); (replace bdm := bdm_); (clear bdm_); (replace bhn := bhn_); (clear bhn_); (replace bhm := bhm_); (clear bhm_); (replace hpb := hpb_); (clear hpb_); (clear hb hs))
      (try go_wp2_with (fail))
      refine hK.out _ _ ?_ (fun hHeld => ?_)
      · (try dsimp only); with_reducible exact ⟨vs0, vs1, vg0, vg1, vg2, p0, p1, p2, p3, p4, p5, p6, p7, p8, p9, p10, p11, an_0, an_1, an_2, an_3, an_4, an_5, am_0, am_1, am_2, am_3, am_4, am_5, dn_0, dn_1, dn_2, dn_3, dn_4, dn_5, dm_0, dm_1, dm_2, dm_3, dm_4, dm_5, hn_0, hn_1, hn_2, hn_3, hn_4, hn_5, hm_0, hm_1, hm_2, hm_3, hm_4, hm_5⟩
      clear hK K
      (try simp only [List.getElem_toArray, List.getElem_cons_succ, List.getElem_cons_zero, Act.put, List.setIfInBounds_toArray, List.set_cons_zero, List.set_cons_succ])
      refine wpAnyH_take (i := 6) (oi := _) (v := ?_) rfl (by kernel_rfl) (by kernel_rfl) (by kernel_rfl) (fun _ _ _ h => h) (Or.inl ⟨by rfl, ?_⟩) (by assumption) ?_
      rotate_left
      · intro w hSw; (try dsimp only at hSw); go_simp; (first | done | with_reducible rfl)
      (try simp only [List.getElem_toArray, List.getElem_cons_succ, List.getElem_cons_zero, Act.put, List.setIfInBounds_toArray, List.set_cons_zero, List.set_cons_succ])
      refine wpAnyH_take (i := 7) (oi := _) (v := ?_) rfl (by kernel_rfl) (by kernel_rfl) (by kernel_rfl) (fun _ _ _ h => h) (Or.inl ⟨by rfl, ?_⟩) (by assumption) ?_
      rotate_left
      · intro w hSw; (try dsimp only at hSw); go_simp; (first | done | with_reducible rfl)
      (try simp only [List.getElem_toArray, List.getElem_cons_succ, List.getElem_cons_zero, Act.put, List.setIfInBounds_toArray, List.set_cons_zero, List.set_cons_succ])
      refine wpAnyH_take (i := 8) (oi := _) (v := ?_) rfl (by kernel_rfl) (by kernel_rfl) (by kernel_rfl) (fun _ _ _ h => h) (Or.inl ⟨by rfl, ?_⟩) (by assumption) ?_
      rotate_left
      · intro w hSw; (try dsimp only at hSw); go_simp; (first | done | with_reducible rfl)
      (try simp only [List.getElem_toArray, List.getElem_cons_succ, List.getElem_cons_zero, Act.put, List.setIfInBounds_toArray, List.set_cons_zero, List.set_cons_succ])
      refine wpAnyH_take (i := 9) (oi := _) (v := ?_) rfl (by kernel_rfl) (by kernel_rfl) (by kernel_rfl) (fun _ _ _ h => h) (Or.inl ⟨by rfl, ?_⟩) (by assumption) ?_
      rotate_left
      · intro w hSw; (try dsimp only at hSw); go_simp; (first | done | with_reducible rfl)
      (try simp only [List.getElem_toArray, List.getElem_cons_succ, List.getElem_cons_zero, Act.put, List.setIfInBounds_toArray, List.set_cons_zero, List.set_cons_succ])
      refine wpAnyH_take (i := 10) (oi := _) (v := ?_) rfl (by kernel_rfl) (by kernel_rfl) (by kernel_rfl) (fun _ _ _ h => h) (Or.inl ⟨by rfl, ?_⟩) (by assumption) ?_
      rotate_left
      · intro w hSw; (try dsimp only at hSw); go_simp; (first | done | with_reducible rfl)
      (try simp only [List.getElem_toArray, List.getElem_cons_succ, List.getElem_cons_zero, Act.put, List.setIfInBounds_toArray, List.set_cons_zero, List.set_cons_succ])
      refine wpAnyH_take (i := 11) (oi := _) (v := ?_) rfl (by kernel_rfl) (by kernel_rfl) (by kernel_rfl) (fun _ _ _ h => h) (Or.inl ⟨by rfl, ?_⟩) (by assumption) ?_
      rotate_left
      · intro w hSw; (try dsimp only at hSw); go_simp; (first | done | with_reducible rfl)
      (try simp only [List.getElem_toArray, List.getElem_cons_succ, List.getElem_cons_zero, Act.put, List.setIfInBounds_toArray, List.set_cons_zero, List.set_cons_succ])
      refine wpAnyH_take (i := 12) (oi := _) (v := ?_) rfl (by kernel_rfl) (by kernel_rfl) (by kernel_rfl) (fun _ _ _ h => h) (Or.inl ⟨by rfl, ?_⟩) (by assumption) ?_
      rotate_left
      · intro w hSw; (try dsimp only at hSw); go_simp; (first | done | with_reducible rfl)
      (try simp only [List.getElem_toArray, List.getElem_cons_succ, List.getElem_cons_zero, Act.put, List.setIfInBounds_toArray, List.set_cons_zero, List.set_cons_succ])
      refine wpAnyH_take (i := 13) (oi := _) (v := ?_) rfl (by kernel_rfl) (by kernel_rfl) (by kernel_rfl) (fun _ _ _ h => h) (Or.inl ⟨by rfl, ?_⟩) (by assumption) ?_
      rotate_left
      · intro w hSw; (try dsimp only at hSw); go_simp; (first | done | with_reducible rfl)
      (try simp only [List.getElem_toArray, List.getElem_cons_succ, List.getElem_cons_zero, Act.put, List.setIfInBounds_toArray, List.set_cons_zero, List.set_cons_succ])
      refine wpAnyH_take (i := 14) (oi := _) (v := ?_) rfl (by kernel_rfl) (by kernel_rfl) (by kernel_rfl) (fun _ _ _ h => h) (Or.inl ⟨by rfl, ?_⟩) (by assumption) ?_
      rotate_left
      · intro w hSw; (try dsimp only at hSw); go_simp; (first | done | with_reducible rfl)
      (try simp only [List.getElem_toArray, List.getElem_cons_succ, List.getElem_cons_zero, Act.put, List.setIfInBounds_toArray, List.set_cons_zero, List.set_cons_succ])
      refine wpAnyH_take (i := 15) (oi := _) (v := ?_) rfl (by kernel_rfl) (by kernel_rfl) (by kernel_rfl) (fun _ _ _ h => h) (Or.inl ⟨by rfl, ?_⟩) (by assumption) ?_
      rotate_left
      · intro w hSw; (try dsimp only at hSw); go_simp; (first | done | with_reducible rfl)
      (try simp only [List.getElem_toArray, List.getElem_cons_succ, List.getElem_cons_zero, Act.put, List.setIfInBounds_toArray, List.set_cons_zero, List.set_cons_succ])
      refine wpAnyH_take (i := 16) (oi := _) (v := ?_) rfl (by kernel_rfl) (by kernel_rfl) (by kernel_rfl) (fun _ _ _ h => h) (Or.inl ⟨by rfl, ?_⟩) (by assumption) ?_
      rotate_left
      · intro w hSw; (try dsimp only at hSw); go_simp; (first | done | with_reducible rfl)
      (try simp only [List.getElem_toArray, List.getElem_cons_succ, List.getElem_cons_zero, Act.put, List.setIfInBounds_toArray, List.set_cons_zero, List.set_cons_succ])
      refine wpAnyH_take (i := 17) (oi := _) (v := ?_) rfl (by kernel_rfl) (by kernel_rfl) (by kernel_rfl) (fun _ _ _ h => h) (Or.inl ⟨by rfl, ?_⟩) (by assumption) ?_
      rotate_left
      · intro w hSw; (try dsimp only at hSw); go_simp; (first | done | with_reducible rfl)
      (try simp only [List.getElem_toArray, List.getElem_cons_succ, List.getElem_cons_zero, Act.put, List.setIfInBounds_toArray, List.set_cons_zero, List.set_cons_succ])
      refine wpAnyH_take (i := 18) (oi := _) (v := ?_) rfl (by kernel_rfl) (by kernel_rfl) (by kernel_rfl) (fun _ _ _ h => h) (Or.inl ⟨by rfl, ?_⟩) (by assumption) ?_
      rotate_left
      · intro w hSw; (try dsimp only at hSw); go_simp; (first | done | with_reducible rfl)
      (try simp only [List.getElem_toArray, List.getElem_cons_succ, List.getElem_cons_zero, Act.put, List.setIfInBounds_toArray, List.set_cons_zero, List.set_cons_succ])
      refine wpAnyH_take (i := 19) (oi := _) (v := ?_) rfl (by kernel_rfl) (by kernel_rfl) (by kernel_rfl) (fun _ _ _ h => h) (Or.inl ⟨by rfl, ?_⟩) (by assumption) ?_
      rotate_left
      · intro w hSw; (try dsimp only at hSw); go_simp; (first | done | with_reducible rfl)
      (try simp only [List.getElem_toArray, List.getElem_cons_succ, List.getElem_cons_zero, Act.put, List.setIfInBounds_toArray, List.set_cons_zero, List.set_cons_succ])
      refine wpAnyH_take (i := 20) (oi := _) (v := ?_) rfl (by kernel_rfl) (by kernel_rfl) (by kernel_rfl) (fun _ _ _ h => h) (Or.inl ⟨by rfl, ?_⟩) (by assumption) ?_
      rotate_left
      · intro w hSw; (try dsimp only at hSw); go_simp; (first | done | with_reducible rfl)
      (try simp only [List.getElem_toArray, List.getElem_cons_succ, List.getElem_cons_zero, Act.put, List.setIfInBounds_toArray, List.set_cons_zero, List.set_cons_succ])
      refine wpAnyH_take (i := 21) (oi := _) (v := ?_) rfl (by kernel_rfl) (by kernel_rfl) (by kernel_rfl) (fun _ _ _ h => h) (Or.inl ⟨by rfl, ?_⟩) (by assumption) ?_
      rotate_left
      · intro w hSw; (try dsimp only at hSw); go_simp; (first | done | with_reducible rfl)
      (try simp only [List.getElem_toArray, List.getElem_cons_succ, List.getElem_cons_zero, Act.put, List.setIfInBounds_toArray, List.set_cons_zero, List.set_cons_succ])
      refine wpAnyH_take (i := 22) (oi := _) (v := ?_) rfl (by kernel_rfl) (by kernel_rfl) (by kernel_rfl) (fun _ _ _ h => h) (Or.inl ⟨by rfl, ?_⟩) (by assumption) ?_
      rotate_left
      · intro w hSw; (try dsimp only at hSw); go_simp; (first | done | with_reducible rfl)
      (try simp only [List.getElem_toArray, List.getElem_cons_succ, List.getElem_cons_zero, Act.put, List.setIfInBounds_toArray, List.set_cons_zero, List.set_cons_succ])
      refine wpAnyH_take (i := 23) (oi := _) (v := ?_) rfl (by kernel_rfl) (by kernel_rfl) (by kernel_rfl) (fun _ _ _ h => h) (Or.inl ⟨by rfl, ?_⟩) (by assumption) ?_
      rotate_left
      · intro w hSw; (try dsimp only at hSw); go_simp; (first | done | with_reducible rfl)
      (try simp only [List.getElem_toArray, List.getElem_cons_succ, List.getElem_cons_zero, Act.put, List.setIfInBounds_toArray, List.set_cons_zero, List.set_cons_succ])
      refine wpAnyH_take (i := 24) (oi := _) (v := ?_) rfl (by kernel_rfl) (by kernel_rfl) (by kernel_rfl) (fun _ _ _ h => h) (Or.inl ⟨by rfl, ?_⟩) (by assumption) ?_
      rotate_left
      · intro w hSw; (try dsimp only at hSw); go_simp; (first | done | with_reducible rfl)
      (try simp only [List.getElem_toArray, List.getElem_cons_succ, List.getElem_cons_zero, Act.put, List.setIfInBounds_toArray, List.set_cons_zero, List.set_cons_succ])
      refine wpAnyH_take (i := 25) (oi := _) (v := ?_) rfl (by kernel_rfl) (by kernel_rfl) (by kernel_rfl) (fun _ _ _ h => h) (Or.inl ⟨by rfl, ?_⟩) (by assumption) ?_
      rotate_left
      · intro w hSw; (try dsimp only at hSw); go_simp; (first | done | with_reducible rfl)
      (try simp only [List.getElem_toArray, List.getElem_cons_succ, List.getElem_cons_zero, Act.put, List.setIfInBounds_toArray, List.set_cons_zero, List.set_cons_succ])
      refine wpAnyH_take (i := 26) (oi := _) (v := ?_) rfl (by kernel_rfl) (by kernel_rfl) (by kernel_rfl) (fun _ _ _ h => h) (Or.inl ⟨by rfl, ?_⟩) (by assumption) ?_
      rotate_left
      · intro w hSw; (try dsimp only at hSw); go_simp; (first | done | with_reducible rfl)
      (try simp only [List.getElem_toArray, List.getElem_cons_succ, List.getElem_cons_zero, Act.put, List.setIfInBounds_toArray, List.set_cons_zero, List.set_cons_succ])
      refine wpAnyH_take (i := 27) (oi := _) (v := ?_) rfl (by kernel_rfl) (by kernel_rfl) (by kernel_rfl) (fun _ _ _ h => h) (Or.inl ⟨by rfl, ?_⟩) (by assumption) ?_
      rotate_left
      · intro w hSw; (try dsimp only at hSw); go_simp; (first | done | with_reducible rfl)
      (try simp only [List.getElem_toArray, List.getElem_cons_succ, List.getElem_cons_zero, Act.put, List.setIfInBounds_toArray, List.set_cons_zero, List.set_cons_succ])
      refine wpAnyH_take (i := 28) (oi := _) (v := ?_) rfl (by kernel_rfl) (by kernel_rfl) (by kernel_rfl) (fun _ _ _ h => h) (Or.inl ⟨by rfl, ?_⟩) (by assumption) ?_
      rotate_left
      · intro w hSw; (try dsimp only at hSw); go_simp; (first | done | with_reducible rfl)
      (try simp only [List.getElem_toArray, List.getElem_cons_succ, List.getElem_cons_zero, Act.put, List.setIfInBounds_toArray, List.set_cons_zero, List.set_cons_succ])
      refine wpAnyH_take (i := 29) (oi := _) (v := ?_) rfl (by kernel_rfl) (by kernel_rfl) (by kernel_rfl) (fun _ _ _ h => h) (Or.inl ⟨by rfl, ?_⟩) (by assumption) ?_
      rotate_left
      · intro w hSw; (try dsimp only at hSw); go_simp; (first | done | with_reducible rfl)
      (try simp only [List.getElem_toArray, List.getElem_cons_succ, List.getElem_cons_zero, Act.put, List.setIfInBounds_toArray, List.set_cons_zero, List.set_cons_succ])
      refine wpAnyH_take (i := 30) (oi := _) (v := ?_) rfl (by kernel_rfl) (by kernel_rfl) (by kernel_rfl) (fun _ _ _ h => h) (Or.inl ⟨by rfl, ?_⟩) (by assumption) ?_
      rotate_left
      · intro w hSw; (try dsimp only at hSw); go_simp; (first | done | with_reducible rfl)
      (try simp only [List.getElem_toArray, List.getElem_cons_succ, List.getElem_cons_zero, Act.put, List.setIfInBounds_toArray, List.set_cons_zero, List.set_cons_succ])
      refine wpAnyH_take (i := 31) (oi := _) (v := ?_) rfl (by kernel_rfl) (by kernel_rfl) (by kernel_rfl) (fun _ _ _ h => h) (Or.inl ⟨by rfl, ?_⟩) (by assumption) ?_
      rotate_left
      · intro w hSw; (try dsimp only at hSw); go_simp; (first | done | with_reducible rfl)
      (try simp only [List.getElem_toArray, List.getElem_cons_succ, List.getElem_cons_zero, Act.put, List.setIfInBounds_toArray, List.set_cons_zero, List.set_cons_succ])
      refine wpAnyH_take (i := 32) (oi := _) (v := ?_) rfl (by kernel_rfl) (by kernel_rfl) (by kernel_rfl) (fun _ _ _ h => h) (Or.inl ⟨by rfl, ?_⟩) (by assumption) ?_
      rotate_left
      · intro w hSw; (try dsimp only at hSw); go_simp; (first | done | with_reducible rfl)
      (try simp only [List.getElem_toArray, List.getElem_cons_succ, List.getElem_cons_zero, Act.put, List.setIfInBounds_toArray, List.set_cons_zero, List.set_cons_succ])
      refine wpAnyH_take (i := 33) (oi := _) (v := ?_) rfl (by kernel_rfl) (by kernel_rfl) (by kernel_rfl) (fun _ _ _ h => h) (Or.inl ⟨by rfl, ?_⟩) (by assumption) ?_
      rotate_left
      · intro w hSw; (try dsimp only at hSw); go_simp; (first | done | with_reducible rfl)
      (try simp only [List.getElem_toArray, List.getElem_cons_succ, List.getElem_cons_zero, Act.put, List.setIfInBounds_toArray, List.set_cons_zero, List.set_cons_succ])
      refine wpAnyH_take (i := 34) (oi := _) (v := ?_) rfl (by kernel_rfl) (by kernel_rfl) (by kernel_rfl) (fun _ _ _ h => h) (Or.inl ⟨by rfl, ?_⟩) (by assumption) ?_
      rotate_left
      · intro w hSw; (try dsimp only at hSw); go_simp; (first | done | with_reducible rfl)
      (try simp only [List.getElem_toArray, List.getElem_cons_succ, List.getElem_cons_zero, Act.put, List.setIfInBounds_toArray, List.set_cons_zero, List.set_cons_succ])
      refine wpAnyH_take (i := 35) (oi := _) (v := ?_) rfl (by kernel_rfl) (by kernel_rfl) (by kernel_rfl) (fun _ _ _ h => h) (Or.inl ⟨by rfl, ?_⟩) (by assumption) ?_
      rotate_left
      · intro w hSw; (try dsimp only at hSw); go_simp; (first | done | with_reducible rfl)
      (try simp only [List.getElem_toArray, List.getElem_cons_succ, List.getElem_cons_zero, Act.put, List.setIfInBounds_toArray, List.set_cons_zero, List.set_cons_succ])
      refine wpAnyH_take (i := 36) (oi := _) (v := ?_) rfl (by kernel_rfl) (by kernel_rfl) (by kernel_rfl) (fun _ _ _ h => h) (Or.inl ⟨by rfl, ?_⟩) (by assumption) ?_
      rotate_left
      · intro w hSw; (try dsimp only at hSw); go_simp; (first | done | with_reducible rfl)
      (try simp only [List.getElem_toArray, List.getElem_cons_succ, List.getElem_cons_zero, Act.put, List.setIfInBounds_toArray, List.set_cons_zero, List.set_cons_succ])
      refine wpAnyH_done (by kernel_rfl) ?_ _
      clear an_0 an_1 an_2 an_3 an_4 an_5 am_0 am_1 am_2 am_3 am_4 am_5 dn_0 dn_1 dn_2 dn_3 dn_4 dn_5 dm_0 dm_1 dm_2 dm_3 dm_4 dm_5 hn_0 hn_1 hn_2 hn_3 hn_4 hn_5 hm_0 hm_1 hm_2 hm_3 hm_4 hm_5 ban bam bdn bdm bhn bhm
      clear CAa CBa CAd CBd CAh CBh CAq CBq
      go_wp2_with (fail)
      refine wp_region_held_drew (S := (fun w' => w'.cell? ⟨w.heap.size + 1, 0, none⟩ = some (.int .i64 s0) ∧ w'.cell? ⟨w.heap.size + 1, 1, none⟩ = some (.int .i64 s1) ∧ w'.cell? ⟨w.heap.size + 1 + 1, 0, none⟩ = some (.int .i64 g0) ∧ w'.cell? ⟨w.heap.size + 1 + 1, 1, none⟩ = some (.int .u8 g1) ∧ w'.cell? ⟨w.heap.size + 1 + 1, 2, none⟩ = some (.int .u32 g2) ∧ w'.cell? ⟨wr.heap.size, 0, none⟩ = some (.int .i64 (f (12 * k + 0))) ∧ w'.cell? ⟨wr.heap.size, 1, none⟩ = some (.int .i64 (f (12 * k + 1))) ∧ w'.cell? ⟨wr.heap.size, 2, none⟩ = some (.int .i64 (f (12 * k + 2))) ∧ w'.cell? ⟨wr.heap.size, 3, none⟩ = some (.int .i64 (f (12 * k + 3))) ∧ w'.cell? ⟨wr.heap.size, 4, none⟩ = some (.int .i64 (f (12 * k + 4))) ∧ w'.cell? ⟨wr.heap.size, 5, none⟩ = some (.int .i64 (f (12 * k + 5))) ∧ w'.cell? ⟨wr.heap.size, 6, none⟩ = some (.int .i64 (f (12 * k + 6))) ∧ w'.cell? ⟨wr.heap.size, 7, none⟩ = some (.int .i64 (f (12 * k + 7))) ∧ w'.cell? ⟨wr.heap.size, 8, none⟩ = some (.int .i64 (f (12 * k + 8))) ∧ w'.cell? ⟨wr.heap.size, 9, none⟩ = some (.int .i64 (f (12 * k + 9))) ∧ w'.cell? ⟨wr.heap.size, 10, none⟩ = some (.int .i64 (f (12 * k + 10))) ∧ w'.cell? ⟨wr.heap.size, 11, none⟩ = some (.int .i64 (f (12 * k + 11))))) (by kernel_rfl) ?_ (fun hHeld => ?_)
      · (try dsimp only); with_reducible exact ⟨cell_drew vs0, cell_drew vs1, cell_drew vg0, cell_drew vg1, cell_drew vg2, cell_drew p0, cell_drew p1, cell_drew p2, cell_drew p3, cell_drew p4, cell_drew p5, cell_drew p6, cell_drew p7, cell_drew p8, cell_drew p9, cell_drew p10, cell_drew p11⟩
      refine wpAnyH_take (i := 0) (oi := _) (v := ?_) rfl (by kernel_rfl) (by kernel_rfl) (by kernel_rfl) (fun _ _ _ h => h) (Or.inl ⟨by rfl, ?_⟩) (by assumption) ?_
      rotate_left
      · intro w hSw; (try dsimp only at hSw); go_simp; (first | done | with_reducible rfl)
      (try simp only [List.getElem_toArray, List.getElem_cons_succ, List.getElem_cons_zero, Act.put, List.setIfInBounds_toArray, List.set_cons_zero, List.set_cons_succ])
      refine wpAnyH_take (i := 1) (oi := _) (v := ?_) rfl (by kernel_rfl) (by kernel_rfl) (by kernel_rfl) (fun _ _ _ h => h) (Or.inl ⟨by rfl, ?_⟩) (by assumption) ?_
      rotate_left
      · intro w hSw; (try dsimp only at hSw); go_simp; (first | done | with_reducible rfl)
      (try simp only [List.getElem_toArray, List.getElem_cons_succ, List.getElem_cons_zero, Act.put, List.setIfInBounds_toArray, List.set_cons_zero, List.set_cons_succ])
      refine wpAnyH_take (i := 4) (oi := _) (v := ?_) rfl (by kernel_rfl) (by kernel_rfl) (by kernel_rfl) (fun _ _ _ h => h) (Or.inl ⟨by rfl, ?_⟩) (by assumption) ?_
      rotate_left
      · intro w hSw; (try dsimp only at hSw); go_simp; (first | done | with_reducible rfl)
      (try simp only [List.getElem_toArray, List.getElem_cons_succ, List.getElem_cons_zero, Act.put, List.setIfInBounds_toArray, List.set_cons_zero, List.set_cons_succ])
      refine wpAnyH_ready (rs := [2]) (by kernel_rfl) (by simp) ?_
      refine AllReadyH.cons (o := _) rfl (fun K hK => ?_) AllReadyH.nil
      go_simp
      (go_at_call 19; refine (c_dsmall g0 g1 g2 hg1 hg2 wr8.drew).mono ?_; rintro e wr9 ⟨lo, hi, hv, rfl, hb⟩; (replace hb : Below wr8.heap.size wr8 wr9 := Below.undrew hb); (have hs := hb.size); (have b2_ : w.heap.size + 1 + 1 < wr9.heap.size := by omega); (have b1_ : w.heap.size + 1 < wr9.heap.size := by omega); (have bp_ : wr.heap.size < wr9.heap.size := by omega); (replace vs0 := kp hb (by omega) vs0); (replace vs1 := kp hb (by omega) vs1); (replace vg0 := kp hb (by omega) vg0); (replace vg1 := kp hb (by omega) vg1); (replace vg2 := kp hb (by omega) vg2); (replace p0 := kp hb (by omega) p0); (replace p1 := kp hb (by omega) p1); (replace p2 := kp hb (by omega) p2); (replace p3 := kp hb (by omega) p3); (replace p4 := kp hb (by omega) p4); (replace p5 := kp hb (by omega) p5); (replace p6 := kp hb (by omega) p6); (replace p7 := kp hb (by omega) p7); (replace p8 := kp hb (by omega) p8); (replace p9 := kp hb (by omega) p9); (replace p10 := kp hb (by omega) p10); (replace p11 := kp hb (by omega) p11); (have hpb_ : pb < wr9.heap.size := by omega); (replace HP : Hid (∀ j, j < 48 → wr9.cell? ⟨pb, j, none⟩ = some (.int .i64 (f j))) := fun j hj => kp hb (by omega) (HP.out j hj)); (replace HB : Hid (Below w.heap.size w wr9) := by first | exact HB.out.trans (hb.mono (by first | omega | (simp [go_sem]; done) | (simp [go_sem]; omega))) | exact (HB.out.alloc (by first | omega | (simp [go_sem]; done) | (simp [go_sem]; omega)) _).trans (hb.mono (by first | omega | (simp [go_sem]; done) | (simp [go_sem]; omega))) | exact ((HB.out.alloc (by first | omega | (simp [go_sem]; done) | (simp [go_sem]; omega)) _).alloc (by first | omega | (simp [go_sem]; done) | (simp [go_sem]; omega)) _).trans (hb.mono (by first | omega | (simp [go_sem]; done) | (simp [go_sem]; omega))) | exact (((HB.out.alloc (by first | omega | (simp [go_sem]; done) | (simp [go_sem]; omega)) _).alloc (by first | omega | (simp [go_sem]; done) | (simp [go_sem]; omega)) _).alloc (by first | omega | (simp [go_sem]; done) | (simp [go_sem]; omega)) _).trans (hb.mono (by first | omega | (simp [go_sem]; done) | (simp [go_sem]; omega)))); (replace hS : w.heap.size ≤ wr9.heap.size := by omega); (replace b2 := b2_); (clear b2_); (replace b1 := b1_); (clear b1_); (replace bp := bp_); (clear bp_); (replace hpb := hpb_); (clear hpb_); (clear hb hs))
      (try go_wp2_with (fail))
      refine hK.out _ _ ?_ (fun hHeld => ?_)
      · (try dsimp only); with_reducible exact ⟨vs0, vs1, vg0, vg1, vg2, p0, p1, p2, p3, p4, p5, p6, p7, p8, p9, p10, p11⟩
      clear hK K
      (try simp only [List.getElem_toArray, List.getElem_cons_succ, List.getElem_cons_zero, Act.put, List.setIfInBounds_toArray, List.set_cons_zero, List.set_cons_succ])
      refine wpAnyH_take (i := 3) (oi := _) (v := ?_) rfl (by kernel_rfl) (by kernel_rfl) (by kernel_rfl) (fun _ _ _ h => h) (Or.inl ⟨by rfl, ?_⟩) (by assumption) ?_
      rotate_left
      · intro w hSw; (try dsimp only at hSw); go_simp; (first | done | with_reducible rfl)
      (try simp only [List.getElem_toArray, List.getElem_cons_succ, List.getElem_cons_zero, Act.put, List.setIfInBounds_toArray, List.set_cons_zero, List.set_cons_succ])
      refine wpAnyH_done (by kernel_rfl) ?_ _
      obtain ⟨an0, an1, an2, an3, an4, an5, am0, am1, am2, am3, am4, am5, aen, aem, aN, aee, CAa, CBa⟩ := pair_Scale (f (12 * k + 0)) (f (12 * k + 1)) (f (12 * k + 2)) (f (12 * k + 3)) (f (12 * k + 4)) (f (12 * k + 5)) s0 s1
      replace CAa := Lib.hid CAa
      replace CBa := Lib.hid CBa
      obtain ⟨dn0, dn1, dn2, dn3, dn4, dn5, dm0, dm1, dm2, dm3, dm4, dm5, den, dem, dN, dee, CAd, CBd⟩ := pair_Scale (f (12 * k + 0)) (f (12 * k + 1)) (f (12 * k + 2)) (f (12 * k + 3)) (f (12 * k + 4)) (f (12 * k + 5)) lo hi
      replace CAd := Lib.hid CAd
      replace CBd := Lib.hid CBd
      go_wp2_with (fail)
      refine wp_rounds 3 ?_
      refine rounds_step _ ?_
      intro _ _
      go_wp2_with (fail)
      go_at_call 20
      refine Calls.mono (CAa.out _) ?_
      rintro e wr10 ⟨rfl, hb⟩
      have hs := hb.size
      try simp only [World.size_alloc, World.drew_heap] at hs
      have b2_ : w.heap.size + 1 + 1 < wr10.heap.size := by omega
      have b1_ : w.heap.size + 1 < wr10.heap.size := by omega
      have bp_ : wr.heap.size < wr10.heap.size := by omega
      have bxa : wr9.heap.size < wr10.heap.size := by omega
      replace vs0 := kp1 hb (by omega) vs0
      replace vs1 := kp1 hb (by omega) vs1
      replace vg0 := kp1 hb (by omega) vg0
      replace vg1 := kp1 hb (by omega) vg1
      replace vg2 := kp1 hb (by omega) vg2
      replace p0 := kp1 hb (by omega) p0
      replace p1 := kp1 hb (by omega) p1
      replace p2 := kp1 hb (by omega) p2
      replace p3 := kp1 hb (by omega) p3
      replace p4 := kp1 hb (by omega) p4
      replace p5 := kp1 hb (by omega) p5
      replace p6 := kp1 hb (by omega) p6
      replace p7 := kp1 hb (by omega) p7
      replace p8 := kp1 hb (by omega) p8
      replace p9 := kp1 hb (by omega) p9
      replace p10 := kp1 hb (by omega) p10
      replace p11 := kp1 hb (by omega) p11
      have xa0 : wr10.cell? ⟨wr9.heap.size, 0, none⟩ = some (.int .i64 s0) := (kn hb 0).trans rfl
      have xa1 : wr10.cell? ⟨wr9.heap.size, 1, none⟩ = some (.int .i64 s1) := (kn hb 1).trans rfl
      have hpb_ : pb < wr10.heap.size := by omega
      replace HP : Hid (∀ j, j < 48 → wr10.cell? ⟨pb, j, none⟩ = some (.int .i64 (f j))) := fun j hj => kp1 hb (by omega) (HP.out j hj)
      replace HB : Hid (Below w.heap.size w wr10) := by first | exact HB.out.trans (hb.mono (by first | omega | (simp [go_sem]; done) | (simp [go_sem]; omega))) | exact (HB.out.alloc (by first | omega | (simp [go_sem]; done) | (simp [go_sem]; omega)) _).trans (hb.mono (by first | omega | (simp [go_sem]; done) | (simp [go_sem]; omega))) | exact ((HB.out.alloc (by first | omega | (simp [go_sem]; done) | (simp [go_sem]; omega)) _).alloc (by first | omega | (simp [go_sem]; done) | (simp [go_sem]; omega)) _).trans (hb.mono (by first | omega | (simp [go_sem]; done) | (simp [go_sem]; omega))) | exact (((HB.out.alloc (by first | omega | (simp [go_sem]; done) | (simp [go_sem]; omega)) _).alloc (by first | omega | (simp [go_sem]; done) | (simp [go_sem]; omega)) _).alloc (by first | omega | (simp [go_sem]; done) | (simp [go_sem]; omega)) _).trans (hb.mono (by first | omega | (simp [go_sem]; done) | (simp [go_sem]; omega)))
      replace hS : w.heap.size ≤ wr10.heap.size := by omega
      replace b2 := b2_
      clear b2_
      replace b1 := b1_
      clear b1_
      replace bp := bp_
      clear bp_
      replace hpb := hpb_
      clear hpb_
      clear hb hs
      go_wp2_with (fail)
      go_at_call 21
      refine Calls.mono (CBa.out _) ?_
      rintro e wr11 ⟨rfl, hb⟩
      have hs := hb.size
      try simp only [World.size_alloc, World.drew_heap] at hs
      have b2_ : w.heap.size + 1 + 1 < wr11.heap.size := by omega
      have b1_ : w.heap.size + 1 < wr11.heap.size := by omega
      have bp_ : wr.heap.size < wr11.heap.size := by omega
      have bxa_ : wr9.heap.size < wr11.heap.size := by omega
      have ban : wr10.heap.size < wr11.heap.size := by omega
      replace vs0 := kp1 hb (by omega) vs0
      replace vs1 := kp1 hb (by omega) vs1
      replace vg0 := kp1 hb (by omega) vg0
      replace vg1 := kp1 hb (by omega) vg1
      replace vg2 := kp1 hb (by omega) vg2
      replace p0 := kp1 hb (by omega) p0
      replace p1 := kp1 hb (by omega) p1
      replace p2 := kp1 hb (by omega) p2
      replace p3 := kp1 hb (by omega) p3
      replace p4 := kp1 hb (by omega) p4
      replace p5 := kp1 hb (by omega) p5
      replace p6 := kp1 hb (by omega) p6
      replace p7 := kp1 hb (by omega) p7
      replace p8 := kp1 hb (by omega) p8
      replace p9 := kp1 hb (by omega) p9
      replace p10 := kp1 hb (by omega) p10
      replace p11 := kp1 hb (by omega) p11
      replace xa0 := kp1 hb (by omega) xa0
      replace xa1 := kp1 hb (by omega) xa1
      have an_0 : wr11.cell? ⟨wr10.heap.size, 0, none⟩ = some (.int .i64 an0) := (kn hb 0).trans rfl
      have an_1 : wr11.cell? ⟨wr10.heap.size, 1, none⟩ = some (.int .i64 an1) := (kn hb 1).trans rfl
      have an_2 : wr11.cell? ⟨wr10.heap.size, 2, none⟩ = some (.int .i64 an2) := (kn hb 2).trans rfl
      have an_3 : wr11.cell? ⟨wr10.heap.size, 3, none⟩ = some (.int .i64 an3) := (kn hb 3).trans rfl
      have an_4 : wr11.cell? ⟨wr10.heap.size, 4, none⟩ = some (.int .i64 an4) := (kn hb 4).trans rfl
      have an_5 : wr11.cell? ⟨wr10.heap.size, 5, none⟩ = some (.int .i64 an5) := (kn hb 5).trans rfl
      have hpb_ : pb < wr11.heap.size := by omega
      replace HP : Hid (∀ j, j < 48 → wr11.cell? ⟨pb, j, none⟩ = some (.int .i64 (f j))) := fun j hj => kp1 hb (by omega) (HP.out j hj)
      replace HB : Hid (Below w.heap.size w wr11) := by first | exact HB.out.trans (hb.mono (by first | omega | (simp [go_sem]; done) | (simp [go_sem]; omega))) | exact (HB.out.alloc (by first | omega | (simp [go_sem]; done) | (simp [go_sem]; omega)) _).trans (hb.mono (by first | omega | (simp [go_sem]; done) | (simp [go_sem]; omega))) | exact ((HB.out.alloc (by first | omega | (simp [go_sem]; done) | (simp [go_sem]; omega)) _).alloc (by first | omega | (simp [go_sem]; done) | (simp [go_sem]; omega)) _).trans (hb.mono (by first | omega | (simp [go_sem]; done) | (simp [go_sem]; omega))) | exact (((HB.out.alloc (by first | omega | (simp [go_sem]; done) | (simp [go_sem]; omega)) _).alloc (by first | omega | (simp [go_sem]; done) | (simp [go_sem]; omega)) _).alloc (by first | omega | (simp [go_sem]; done) | (simp [go_sem]; omega)) _).trans (hb.mono (by first | omega | (simp [go_sem]; done) | (simp [go_sem]; omega)))
      replace hS : w.heap.size ≤ wr11.heap.size := by omega
      replace b2 := b2_
      clear b2_
      replace b1 := b1_
      clear b1_
      replace bp := bp_
      clear bp_
      replace bxa := bxa_
      clear bxa_
      replace hpb := hpb_
      clear hpb_
      clear hb hs
      go_wp2_with (fail)
      clear xa0 xa1 an_0 an_1 an_2 an_3 an_4 an_5 bxa ban
      refine rounds_step _ ?_
      intro _ _
      go_wp2_with (fail)
      go_at_call 20
      refine Calls.mono (CAd.out _) ?_
      rintro e wr12 ⟨rfl, hb⟩
      have hs := hb.size
      try simp only [World.size_alloc, World.drew_heap] at hs
      have b2_ : w.heap.size + 1 + 1 < wr12.heap.size := by omega
      have b1_ : w.heap.size + 1 < wr12.heap.size := by omega
      have bp_ : wr.heap.size < wr12.heap.size := by omega
      have bxd : (wr11.heap.size + 1) < wr12.heap.size := by omega
      replace vs0 := kp2 hb (by omega) vs0
      replace vs1 := kp2 hb (by omega) vs1
      replace vg0 := kp2 hb (by omega) vg0
      replace vg1 := kp2 hb (by omega) vg1
      replace vg2 := kp2 hb (by omega) vg2
      replace p0 := kp2 hb (by omega) p0
      replace p1 := kp2 hb (by omega) p1
      replace p2 := kp2 hb (by omega) p2
      replace p3 := kp2 hb (by omega) p3
      replace p4 := kp2 hb (by omega) p4
      replace p5 := kp2 hb (by omega) p5
      replace p6 := kp2 hb (by omega) p6
      replace p7 := kp2 hb (by omega) p7
      replace p8 := kp2 hb (by omega) p8
      replace p9 := kp2 hb (by omega) p9
      replace p10 := kp2 hb (by omega) p10
      replace p11 := kp2 hb (by omega) p11
      have xd0 : wr12.cell? ⟨(wr11.heap.size + 1), 0, none⟩ = some (.int .i64 lo) := (kn2 hb 0).trans rfl
      have xd1 : wr12.cell? ⟨(wr11.heap.size + 1), 1, none⟩ = some (.int .i64 hi) := (kn2 hb 1).trans rfl
      have hpb_ : pb < wr12.heap.size := by omega
      replace HP : Hid (∀ j, j < 48 → wr12.cell? ⟨pb, j, none⟩ = some (.int .i64 (f j))) := fun j hj => kp2 hb (by omega) (HP.out j hj)
      replace HB : Hid (Below w.heap.size w wr12) := by first | exact HB.out.trans (hb.mono (by first | omega | (simp [go_sem]; done) | (simp [go_sem]; omega))) | exact (HB.out.alloc (by first | omega | (simp [go_sem]; done) | (simp [go_sem]; omega)) _).trans (hb.mono (by first | omega | (simp [go_sem]; done) | (simp [go_sem]; omega))) | exact ((HB.out.alloc (by first | omega | (simp [go_sem]; done) | (simp [go_sem]; omega)) _).alloc (by first | omega | (simp [go_sem]; done) | (simp [go_sem]; omega)) _).trans (hb.mono (by first | omega | (simp [go_sem]; done) | (simp [go_sem]; omega))) | exact (((HB.out.alloc (by first | omega | (simp [go_sem]; done) | (simp [go_sem]; omega)) _).alloc (by first | omega | (simp [go_sem]; done) | (simp [go_sem]; omega)) _).alloc (by first | omega | (simp [go_sem]; done) | (simp [go_sem]; omega)) _).trans (hb.mono (by first | omega | (simp [go_sem]; done) | (simp [go_sem]; omega)))
      replace hS : w.heap.size ≤ wr12.heap.size := by omega
      replace b2 := b2_
      clear b2_
      replace b1 := b1_
      clear b1_
      replace bp := bp_
      clear bp_
      replace hpb := hpb_
      clear hpb_
      clear hb hs
      go_wp2_with (fail)
      go_at_call 21
      refine Calls.mono (CBd.out _) ?_
      rintro e wr13 ⟨rfl, hb⟩
      have hs := hb.size
      try simp only [World.size_alloc, World.drew_heap] at hs
      have b2_ : w.heap.size + 1 + 1 < wr13.heap.size := by omega
      have b1_ : w.heap.size + 1 < wr13.heap.size := by omega
      have bp_ : wr.heap.size < wr13.heap.size := by omega
      have bxd_ : (wr11.heap.size + 1) < wr13.heap.size := by omega
      have bdn : wr12.heap.size < wr13.heap.size := by omega
      replace vs0 := kp1 hb (by omega) vs0
      replace vs1 := kp1 hb (by omega) vs1
      replace vg0 := kp1 hb (by omega) vg0
      replace vg1 := kp1 hb (by omega) vg1
      replace vg2 := kp1 hb (by omega) vg2
      replace p0 := kp1 hb (by omega) p0
      replace p1 := kp1 hb (by omega) p1
      replace p2 := kp1 hb (by omega) p2
      replace p3 := kp1 hb (by omega) p3
      replace p4 := kp1 hb (by omega) p4
      replace p5 := kp1 hb (by omega) p5
      replace p6 := kp1 hb (by omega) p6
      replace p7 := kp1 hb (by omega) p7
      replace p8 := kp1 hb (by omega) p8
      replace p9 := kp1 hb (by omega) p9
      replace p10 := kp1 hb (by omega) p10
      replace p11 := kp1 hb (by omega) p11
      replace xd0 := kp1 hb (by omega) xd0
      replace xd1 := kp1 hb (by omega) xd1
      have dn_0 : wr13.cell? ⟨wr12.heap.size, 0, none⟩ = some (.int .i64 dn0) := (kn hb 0).trans rfl
      have dn_1 : wr13.cell? ⟨wr12.heap.size, 1, none⟩ = some (.int .i64 dn1) := (kn hb 1).trans rfl
      have dn_2 : wr13.cell? ⟨wr12.heap.size, 2, none⟩ = some (.int .i64 dn2) := (kn hb 2).trans rfl
      have dn_3 : wr13.cell? ⟨wr12.heap.size, 3, none⟩ = some (.int .i64 dn3) := (kn hb 3).trans rfl
      have dn_4 : wr13.cell? ⟨wr12.heap.size, 4, none⟩ = some (.int .i64 dn4) := (kn hb 4).trans rfl
      have dn_5 : wr13.cell? ⟨wr12.heap.size, 5, none⟩ = some (.int .i64 dn5) := (kn hb 5).trans rfl
      have hpb_ : pb < wr13.heap.size := by omega
      replace HP : Hid (∀ j, j < 48 → wr13.cell? ⟨pb, j, none⟩ = some (.int .i64 (f j))) := fun j hj => kp1 hb (by omega) (HP.out j hj)
      replace HB : Hid (Below w.heap.size w wr13) := by first | exact HB.out.trans (hb.mono (by first | omega | (simp [go_sem]; done) | (simp [go_sem]; omega))) | exact (HB.out.alloc (by first | omega | (simp [go_sem]; done) | (simp [go_sem]; omega)) _).trans (hb.mono (by first | omega | (simp [go_sem]; done) | (simp [go_sem]; omega))) | exact ((HB.out.alloc (by first | omega | (simp [go_sem]; done) | (simp [go_sem]; omega)) _).alloc (by first | omega | (simp [go_sem]; done) | (simp [go_sem]; omega)) _).trans (hb.mono (by first | omega | (simp [go_sem]; done) | (simp [go_sem]; omega))) | exact (((HB.out.alloc (by first | omega | (simp [go_sem]; done) | (simp [go_sem]; omega)) _).alloc (by first | omega | (simp [go_sem]; done) | (simp [go_sem]; omega)) _).alloc (by first | omega | (simp [go_sem]; done) | (simp [go_sem]; omega)) _).trans (hb.mono (by first | omega | (simp [go_sem]; done) | (simp [go_sem]; omega)))
      replace hS : w.heap.size ≤ wr13.heap.size := by omega
      replace b2 := b2_
      clear b2_
      replace b1 := b1_
      clear b1_
      replace bp := bp_
      clear bp_
      replace bxd := bxd_
      clear bxd_
      replace hpb := hpb_
      clear hpb_
      clear hb hs
      go_wp2_with (fail)
      refine rounds_step _ ?_
      intro _ _
      go_wp2_with (fail)
      have HBX := HB.out
      go_roundw
      case rel =>
        exact ⟨k + 1, by omega, by simp, fun j hj => ka (by omega) (HP.out j hj), by unfold Hid; (repeat' (first | (with_reducible exact Below.refl _ _) | (with_reducible refine Below.setCell ?_ ?_ _) | (with_reducible refine Below.alloc ?_ ?_ _) | (with_reducible refine Below.drew ?_) | (with_reducible refine below_drewN ?_ _) | (with_reducible assumption) | (with_reducible refine Below.trans ?_ (Below.mono (by with_reducible assumption) ?_)) | omega | (simp; done) | (simp; omega) | (simp [World.setCell]; omega))), by simp; omega, by simp; omega, by simp; omega, ka (by omega) vs0, ka (by omega) vs1, ka (by omega) vg0, ka (by omega) vg1, ka (by omega) vg2⟩
      case measure => simp [intOf]; omega

end Go.Proofs.YtpdaigenffecmaaGreat
