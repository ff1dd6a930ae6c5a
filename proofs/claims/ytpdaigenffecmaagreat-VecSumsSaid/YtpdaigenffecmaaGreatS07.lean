/-
  The statements' arguments: read, opened and shut. The statements' argument: two vectors and two drafts. The statements' arguments: an interval, a draft of an interval.
-/
import Derived.ProofKit
import Derived.OpenShut
import Derived.Lib.SmallJoins
import Derived.Deep.Strs
import Derived.Test.YtpdaigenffecmaaGreatM14
set_option linter.all false
namespace Go.Proofs.YtpdaigenffecmaaGreat
open Go.RowKit Go.ChangeShapes Go.WideShapes Go.Joins Go.Deep

theorem Tryz.cellsTwo : Tryz.prog.cellsOf 32 = 30 := by kernel_rfl
theorem Tryz.cellsVec : Tryz.prog.cellsOf 25 = 6 := by kernel_rfl
theorem Tryz.cellsDrafts : Tryz.prog.cellsOf 30 = 9 := by kernel_rfl
theorem Tryz.cellsSpan : Tryz.prog.cellsOf 23 = 2 := by kernel_rfl
theorem Tryz.cellsDraft : Tryz.prog.cellsOf 28 = 3 := by kernel_rfl
theorem Tryz.cellsInt : Tryz.prog.cellsOf 3 = 1 := by kernel_rfl
theorem Tryz.cellsU8 : Tryz.prog.cellsOf 5 = 1 := by kernel_rfl
theorem Tryz.cellsU32 : Tryz.prog.cellsOf 26 = 1 := by kernel_rfl

def dSpan {H : Type} (a b : Int) : DataW H := .agg [.lit (.int .i64 a), .lit (.int .i64 b)]
def dVec {H : Type} (a b c d e f : Int) : DataW H := .agg [dSpan a b, dSpan c d, dSpan e f]
def dDraft {H : Type} (a b c : Int) : DataW H := .agg [.lit (.int .i64 a), .lit (.int .u8 b), .lit (.int .u32 c)]
def dDrafts {H : Type} (a b c d e f g h i : Int) : DataW H := .agg [dDraft a b c, dDraft d e f, dDraft g h i]
/-- An integer of 64 bits. -/
def I64 (a : Int) : Prop := (Lit.int .i64 a).wf = true
def U8 (a : Int) : Prop := (Lit.int .u8 a).wf = true
def U32 (a : Int) : Prop := (Lit.int .u32 a).wf = true
theorem U8.bounds {a : Int} (h : U8 a) : 0 ≤ a ∧ a ≤ 255 := bounds_u8 h
theorem U32.bounds {a : Int} (h : U32 a) : 0 ≤ a ∧ a ≤ 4294967295 := bounds_u32 h

section
variable {H : Type} {enc : TypeId × Value → H} {w : World} {base : Nat} {spare : Nat → Bool} {held : Bool}
theorem m_span (n : Nat) {a b : Int} (ha : I64 a) (hb : I64 b) : DataW.trod enc Tryz.prog w base spare held (n + 2) 23 [.int .i64 a, .int .i64 b] = some (dSpan a b, []) := by
  have h0 : (Lit.int .i64 a).wf = true := ha
  have h1 : (Lit.int .i64 b).wf = true := hb
  exact trod_struct2_mk (y0 := (.lit (.int .i64 a), [])) (y1 := (.lit (.int .i64 b), [])) Tryz.underlying23 (by rw [Tryz.cellsSpan]; rfl) (by simp only [Tryz.cellsInt, Tryz.cellsU8, Tryz.cellsU32, Tryz.cellsDraft]; exact trod_int_mk n Tryz.underlying3 h0) (by simp only [Tryz.cellsInt, Tryz.cellsU8, Tryz.cellsU32, Tryz.cellsDraft]; exact trod_int_mk n Tryz.underlying3 h1)
theorem m_draft (n : Nat) {a b c : Int} (ha : I64 a) (hb : U8 b) (hc : U32 c) : DataW.trod enc Tryz.prog w base spare held (n + 2) 28 [.int .i64 a, .int .u8 b, .int .u32 c] = some (dDraft a b c, []) := by
  have h0 : (Lit.int .i64 a).wf = true := ha
  have h1 : (Lit.int .u8 b).wf = true := hb
  have h2 : (Lit.int .u32 c).wf = true := hc
  exact trod_struct3_mk (y0 := (.lit (.int .i64 a), [])) (y1 := (.lit (.int .u8 b), [])) (y2 := (.lit (.int .u32 c), [])) Tryz.underlying28 (by rw [Tryz.cellsDraft]; rfl) (by simp only [Tryz.cellsInt, Tryz.cellsU8, Tryz.cellsU32, Tryz.cellsDraft]; exact trod_int_mk n Tryz.underlying3 h0) (by simp only [Tryz.cellsInt, Tryz.cellsU8, Tryz.cellsU32, Tryz.cellsDraft]; exact trod_int_mk n Tryz.underlying5 h1) (by simp only [Tryz.cellsInt, Tryz.cellsU8, Tryz.cellsU32, Tryz.cellsDraft]; exact trod_int_mk n Tryz.underlying26 h2)
theorem m_drafts (n : Nat) {a b c d e f g h i : Int} (ha : I64 a) (hb : U8 b) (hc : U32 c) (hd : I64 d) (he : U8 e) (hf : U32 f) (hg : I64 g) (hh : U8 h) (hi : U32 i) :
    DataW.trod enc Tryz.prog w base spare held (n + 3) 30 [.int .i64 a, .int .u8 b, .int .u32 c, .int .i64 d, .int .u8 e, .int .u32 f, .int .i64 g, .int .u8 h, .int .u32 i] = some (dDrafts a b c d e f g h i, []) :=
  trod_struct3_mk (y0 := (dDraft a b c, [])) (y1 := (dDraft d e f, [])) (y2 := (dDraft g h i, [])) Tryz.underlying30 (by rw [Tryz.cellsDrafts]; rfl) (by simp only [Tryz.cellsInt, Tryz.cellsU8, Tryz.cellsU32, Tryz.cellsDraft]; exact m_draft n ha hb hc) (by simp only [Tryz.cellsInt, Tryz.cellsU8, Tryz.cellsU32, Tryz.cellsDraft]; exact m_draft n hd he hf) (by simp only [Tryz.cellsInt, Tryz.cellsU8, Tryz.cellsU32, Tryz.cellsDraft]; exact m_draft n hg hh hi)
theorem m_vec (n : Nat) {a b c d e f : Int} (ha : I64 a) (hb : I64 b) (hc : I64 c) (hd : I64 d) (he : I64 e) (hf : I64 f) :
    DataW.trod enc Tryz.prog w base spare held (n + 3) 25 [.int .i64 a, .int .i64 b, .int .i64 c, .int .i64 d, .int .i64 e, .int .i64 f] = some (dVec a b c d e f, []) := by
  have e0 : DataW.trod enc Tryz.prog w base spare held (n + 2) 23 [.int .i64 a, .int .i64 b] = some (dSpan a b, []) := m_span n ha hb
  have e1 : DataW.trod enc Tryz.prog w base spare held (n + 2) 23 [.int .i64 c, .int .i64 d] = some (dSpan c d, []) := m_span n hc hd
  have e2 : DataW.trod enc Tryz.prog w base spare held (n + 2) 23 [.int .i64 e, .int .i64 f] = some (dSpan e f, []) := m_span n he hf
  unfold DataW.trod
  rw [show Tryz.prog.underlying 25 = some (.array 3 23) by kernel_rfl]
  simp [Tryz.cellsVec, Tryz.cellsSpan, List.range, List.range.loop, e0, e1, e2, dVec]
theorem o_span {fuel : Nat} {u v : Value} {x : DataW H × List MemPlace} (h : DataW.trod enc Tryz.prog w base spare held fuel 23 [u, v] = some x) : ∃ a b, u = .int .i64 a ∧ v = .int .i64 b ∧ x = (dSpan a b, []) ∧ I64 a ∧ I64 b := by
  obtain ⟨y0, y1, n, hx, _, h0, h1⟩ := trod_struct2 Tryz.underlying23 h
  obtain ⟨a, e0, rfl, wa⟩ := DataW.trod_int Tryz.underlying3 h0
  obtain ⟨b, e1, rfl, wb⟩ := DataW.trod_int Tryz.underlying3 h1
  simp [Tryz.cellsInt] at e0 e1
  exact ⟨a, b, e0, e1, hx, wa, wb⟩
theorem o_draft {fuel : Nat} {u v z : Value} {x : DataW H × List MemPlace} (h : DataW.trod enc Tryz.prog w base spare held fuel 28 [u, v, z] = some x) : ∃ a b c, u = .int .i64 a ∧ v = .int .u8 b ∧ z = .int .u32 c ∧ x = (dDraft a b c, []) ∧ I64 a ∧ U8 b ∧ U32 c := by
  obtain ⟨y0, y1, y2, n, hx, _, h0, h1, h2⟩ := trod_struct3 Tryz.underlying28 h
  obtain ⟨a, e0, rfl, wa⟩ := DataW.trod_int Tryz.underlying3 h0
  obtain ⟨b, e1, rfl, wb⟩ := DataW.trod_int Tryz.underlying5 h1
  obtain ⟨c, e2, rfl, wc⟩ := DataW.trod_int Tryz.underlying26 h2
  simp [Tryz.cellsInt, Tryz.cellsU8, Tryz.cellsU32] at e0 e1 e2
  exact ⟨a, b, c, e0, e1, e2, hx, wa, wb, wc⟩
theorem o_vec {fuel : Nat} {c0 c1 c2 c3 c4 c5 : Value} {x : DataW H × List MemPlace} (h : DataW.trod enc Tryz.prog w base spare held fuel 25 [c0, c1, c2, c3, c4, c5] = some x) :
    ∃ a b c d e f, [c0, c1, c2, c3, c4, c5] = [.int .i64 a, .int .i64 b, .int .i64 c, .int .i64 d, .int .i64 e, .int .i64 f] ∧ x = (dVec a b c d e f, []) ∧ I64 a ∧ I64 b ∧ I64 c ∧ I64 d ∧ I64 e ∧ I64 f := by
  obtain ⟨xs, m, _, hx, _, hl, hf⟩ := DataW.trod_array (show Tryz.prog.underlying 25 = some (.array 3 23) by kernel_rfl) h
  obtain ⟨x0, x1, x2, rfl⟩ : ∃ x0 x1 x2, xs = [x0, x1, x2] := by
    match xs, hl with
    | [x0, x1, x2], _ => exact ⟨x0, x1, x2, rfl⟩
  have h0 := hf 0 (by decide); have h1 := hf 1 (by decide); have h2 := hf 2 (by decide)
  rw [Tryz.cellsSpan] at h0 h1 h2
  obtain ⟨a, b, rfl, rfl, rfl, wa, wb⟩ := o_span (by simpa using h0)
  obtain ⟨c, d, rfl, rfl, rfl, wc, wd⟩ := o_span (by simpa using h1)
  obtain ⟨e, f, rfl, rfl, rfl, we, wf⟩ := o_span (by simpa using h2)
  exact ⟨a, b, c, d, e, f, rfl, by rw [hx]; rfl, wa, wb, wc, wd, we, wf⟩
theorem o_drafts {fuel : Nat} {c0 c1 c2 c3 c4 c5 c6 c7 c8 : Value} {x : DataW H × List MemPlace} (h : DataW.trod enc Tryz.prog w base spare held fuel 30 [c0, c1, c2, c3, c4, c5, c6, c7, c8] = some x) :
    ∃ a b c d e f g i j, [c0, c1, c2, c3, c4, c5, c6, c7, c8] = [.int .i64 a, .int .u8 b, .int .u32 c, .int .i64 d, .int .u8 e, .int .u32 f, .int .i64 g, .int .u8 i, .int .u32 j] ∧ x = (dDrafts a b c d e f g i j, []) ∧
      I64 a ∧ U8 b ∧ U32 c ∧ I64 d ∧ U8 e ∧ U32 f ∧ I64 g ∧ U8 i ∧ U32 j := by
  obtain ⟨y0, y1, y2, n, hx, _, h0, h1, h2⟩ := trod_struct3 Tryz.underlying30 h
  simp only [Tryz.cellsDraft] at h0 h1 h2
  obtain ⟨a, b, c, rfl, rfl, rfl, rfl, wa, wb, wc⟩ := o_draft (by simpa using h0)
  obtain ⟨d, e, f, rfl, rfl, rfl, rfl, wd, we, wf⟩ := o_draft (by simpa using h1)
  obtain ⟨g, i, j, rfl, rfl, rfl, rfl, wg, wi, wj⟩ := o_draft (by simpa using h2)
  exact ⟨a, b, c, d, e, f, g, i, j, rfl, hx, wa, wb, wc, wd, we, wf, wg, wi, wj⟩
end

end Go.Proofs.YtpdaigenffecmaaGreat

namespace Go.Proofs.YtpdaigenffecmaaGreat
open Go.RowKit Go.ChangeShapes Go.WideShapes Go.Joins Go.Deep

theorem list30 {l : List Value} (h : l.length = 30) : ∃ c0 c1 c2 c3 c4 c5 c6 c7 c8 c9 c10 c11 c12 c13 c14 c15 c16 c17 c18 c19 c20 c21 c22 c23 c24 c25 c26 c27 c28 c29, l = [c0, c1, c2, c3, c4, c5, c6, c7, c8, c9, c10, c11, c12, c13, c14, c15, c16, c17, c18, c19, c20, c21, c22, c23, c24, c25, c26, c27, c28, c29] := by
  match l, h with
  | [c0, c1, c2, c3, c4, c5, c6, c7, c8, c9, c10, c11, c12, c13, c14, c15, c16, c17, c18, c19, c20, c21, c22, c23, c24, c25, c26, c27, c28, c29], _ => exact ⟨c0, c1, c2, c3, c4, c5, c6, c7, c8, c9, c10, c11, c12, c13, c14, c15, c16, c17, c18, c19, c20, c21, c22, c23, c24, c25, c26, c27, c28, c29, rfl⟩
section
variable {H : Type} {enc : TypeId × Value → H} {w : World} {base : Nat} {spare : Nat → Bool} {held : Bool}
set_option maxRecDepth 100000 in
theorem m_two {x0 x1 x2 x3 x4 x5 y0 y1 y2 y3 y4 y5 d0 d1 d2 d3 d4 d5 d6 d7 d8 e0 e1 e2 e3 e4 e5 e6 e7 e8 : Int} (w_x0 : I64 x0) (w_x1 : I64 x1) (w_x2 : I64 x2) (w_x3 : I64 x3) (w_x4 : I64 x4) (w_x5 : I64 x5) (w_y0 : I64 y0) (w_y1 : I64 y1) (w_y2 : I64 y2) (w_y3 : I64 y3) (w_y4 : I64 y4) (w_y5 : I64 y5) (w_d0 : I64 d0) (w_d1 : U8 d1) (w_d2 : U32 d2) (w_d3 : I64 d3) (w_d4 : U8 d4) (w_d5 : U32 d5) (w_d6 : I64 d6) (w_d7 : U8 d7) (w_d8 : U32 d8) (w_e0 : I64 e0) (w_e1 : U8 e1) (w_e2 : U32 e2) (w_e3 : I64 e3) (w_e4 : U8 e4) (w_e5 : U32 e5) (w_e6 : I64 e6) (w_e7 : U8 e7) (w_e8 : U32 e8) : DataW.Trod enc Tryz.prog w base spare held 32 (.agg #[.int .i64 x0, .int .i64 x1, .int .i64 x2, .int .i64 x3, .int .i64 x4, .int .i64 x5, .int .i64 y0, .int .i64 y1, .int .i64 y2, .int .i64 y3, .int .i64 y4, .int .i64 y5, .int .i64 d0, .int .u8 d1, .int .u32 d2, .int .i64 d3, .int .u8 d4, .int .u32 d5, .int .i64 d6, .int .u8 d7, .int .u32 d8, .int .i64 e0, .int .u8 e1, .int .u32 e2, .int .i64 e3, .int .u8 e4, .int .u32 e5, .int .i64 e6, .int .u8 e7, .int .u32 e8]) (.agg [dVec x0 x1 x2 x3 x4 x5, dVec y0 y1 y2 y3 y4 y5, dDrafts d0 d1 d2 d3 d4 d5 d6 d7 d8, dDrafts e0 e1 e2 e3 e4 e5 e6 e7 e8]) [] :=
  ⟨4, trod_struct4_mk (y0 := (dVec x0 x1 x2 x3 x4 x5, [])) (y1 := (dVec y0 y1 y2 y3 y4 y5, [])) (y2 := (dDrafts d0 d1 d2 d3 d4 d5 d6 d7 d8, [])) (y3 := (dDrafts e0 e1 e2 e3 e4 e5 e6 e7 e8, [])) Tryz.underlying32 (by rw [Tryz.cellsTwo]; rfl)
    (by simp only [Tryz.cellsVec]; exact m_vec 0 w_x0 w_x1 w_x2 w_x3 w_x4 w_x5) (by simp only [Tryz.cellsVec]; exact m_vec 0 w_y0 w_y1 w_y2 w_y3 w_y4 w_y5) (by simp only [Tryz.cellsDrafts]; exact m_drafts 0 w_d0 w_d1 w_d2 w_d3 w_d4 w_d5 w_d6 w_d7 w_d8) (by simp only [Tryz.cellsDrafts]; exact m_drafts 0 w_e0 w_e1 w_e2 w_e3 w_e4 w_e5 w_e6 w_e7 w_e8)⟩
set_option maxRecDepth 100000 in
theorem o_two {r : Reach} {b0 : Nat} {v : Value} {d : DataW H} {p : List MemPlace} (hv : Value.okWide Tryz.prog w r b0 32 v) (h : DataW.Trod enc Tryz.prog w base spare held 32 v d p) :
    ∃ x0 x1 x2 x3 x4 x5 y0 y1 y2 y3 y4 y5 d0 d1 d2 d3 d4 d5 d6 d7 d8 e0 e1 e2 e3 e4 e5 e6 e7 e8, v = .agg #[.int .i64 x0, .int .i64 x1, .int .i64 x2, .int .i64 x3, .int .i64 x4, .int .i64 x5, .int .i64 y0, .int .i64 y1, .int .i64 y2, .int .i64 y3, .int .i64 y4, .int .i64 y5, .int .i64 d0, .int .u8 d1, .int .u32 d2, .int .i64 d3, .int .u8 d4, .int .u32 d5, .int .i64 d6, .int .u8 d7, .int .u32 d8, .int .i64 e0, .int .u8 e1, .int .u32 e2, .int .i64 e3, .int .u8 e4, .int .u32 e5, .int .i64 e6, .int .u8 e7, .int .u32 e8] ∧ d = .agg [dVec x0 x1 x2 x3 x4 x5, dVec y0 y1 y2 y3 y4 y5, dDrafts d0 d1 d2 d3 d4 d5 d6 d7 d8, dDrafts e0 e1 e2 e3 e4 e5 e6 e7 e8] ∧ p = [] ∧ I64 x0 ∧ I64 x1 ∧ I64 x2 ∧ I64 x3 ∧ I64 x4 ∧ I64 x5 ∧ I64 y0 ∧ I64 y1 ∧ I64 y2 ∧ I64 y3 ∧ I64 y4 ∧ I64 y5 ∧ I64 d0 ∧ U8 d1 ∧ U32 d2 ∧ I64 d3 ∧ U8 d4 ∧ U32 d5 ∧ I64 d6 ∧ U8 d7 ∧ U32 d8 ∧ I64 e0 ∧ U8 e1 ∧ U32 e2 ∧ I64 e3 ∧ U8 e4 ∧ U32 e5 ∧ I64 e6 ∧ U8 e7 ∧ U32 e8 := by
  obtain ⟨cs, rfl, hsz⟩ := okWide_struct Tryz.underlying32 hv
  obtain ⟨l⟩ := cs
  obtain ⟨c0, c1, c2, c3, c4, c5, c6, c7, c8, c9, c10, c11, c12, c13, c14, c15, c16, c17, c18, c19, c20, c21, c22, c23, c24, c25, c26, c27, c28, c29, rfl⟩ := list30 (show l.length = 30 by rw [Tryz.cellsTwo] at hsz; simpa using hsz)
  obtain ⟨fuel, hf⟩ := h
  obtain ⟨y0, y1, y2, y3, n, hx, _, h0, h1, h2, h3⟩ := trod_struct4 Tryz.underlying32 hf
  simp only [Tryz.cellsVec, Tryz.cellsDrafts] at h0 h1 h2 h3
  obtain ⟨x0, x1, x2, x3, x4, x5, hc0, rfl, wx0, wx1, wx2, wx3, wx4, wx5⟩ := o_vec (by simpa [Value.cells] using h0)
  obtain ⟨y0, y1, y2, y3, y4, y5, hc1, rfl, wy0, wy1, wy2, wy3, wy4, wy5⟩ := o_vec (by simpa [Value.cells] using h1)
  obtain ⟨d0, d1, d2, d3, d4, d5, d6, d7, d8, hc2, rfl, wd0, wd1, wd2, wd3, wd4, wd5, wd6, wd7, wd8⟩ := o_drafts (by simpa [Value.cells] using h2)
  obtain ⟨e0, e1, e2, e3, e4, e5, e6, e7, e8, hc3, rfl, we0, we1, we2, we3, we4, we5, we6, we7, we8⟩ := o_drafts (by simpa [Value.cells] using h3)
  simp only [List.cons.injEq, and_true] at hc0 hc1 hc2 hc3
  obtain ⟨rfl, rfl, rfl, rfl, rfl, rfl⟩ := hc0
  obtain ⟨rfl, rfl, rfl, rfl, rfl, rfl⟩ := hc1
  obtain ⟨rfl, rfl, rfl, rfl, rfl, rfl, rfl, rfl, rfl⟩ := hc2
  obtain ⟨rfl, rfl, rfl, rfl, rfl, rfl, rfl, rfl, rfl⟩ := hc3
  simp only [Prod.mk.injEq] at hx
  exact ⟨x0, x1, x2, x3, x4, x5, y0, y1, y2, y3, y4, y5, d0, d1, d2, d3, d4, d5, d6, d7, d8, e0, e1, e2, e3, e4, e5, e6, e7, e8, rfl, hx.1, by simpa using hx.2, wx0, wx1, wx2, wx3, wx4, wx5, wy0, wy1, wy2, wy3, wy4, wy5, wd0, wd1, wd2, wd3, wd4, wd5, wd6, wd7, wd8, we0, we1, we2, we3, we4, we5, we6, we7, we8⟩
end

end Go.Proofs.YtpdaigenffecmaaGreat

namespace Go.Proofs.YtpdaigenffecmaaGreat
open Go.RowKit Go.ChangeShapes Go.WideShapes Go.Joins Go.Deep

section
variable {H : Type} {enc : TypeId × Value → H} {w : World} {base : Nat} {spare : Nat → Bool} {held : Bool}
theorem ms_span {a b : Int} (ha : I64 a) (hb : I64 b) : DataW.Trod enc Tryz.prog w base spare held 23 (.agg #[.int .i64 a, .int .i64 b]) (dSpan a b) [] := ⟨2, m_span 0 ha hb⟩
theorem ms_draft {a b c : Int} (ha : I64 a) (hb : U8 b) (hc : U32 c) : DataW.Trod enc Tryz.prog w base spare held 28 (.agg #[.int .i64 a, .int .u8 b, .int .u32 c]) (dDraft a b c) [] := ⟨2, m_draft 0 ha hb hc⟩
set_option maxRecDepth 100000 in
theorem os_span {r : Reach} {b0 : Nat} {v : Value} {d : DataW H} {p : List MemPlace} (hv : Value.okWide Tryz.prog w r b0 23 v) (h : DataW.Trod enc Tryz.prog w base spare held 23 v d p) :
    ∃ a b, v = .agg #[.int .i64 a, .int .i64 b] ∧ d = dSpan a b ∧ p = [] ∧ I64 a ∧ I64 b := by
  obtain ⟨cs, rfl, hsz⟩ := okWide_struct Tryz.underlying23 hv
  obtain ⟨u0, u1, rfl⟩ := array2 (hsz.trans Tryz.cellsSpan)
  obtain ⟨fuel, hf⟩ := h
  obtain ⟨a, b, rfl, rfl, hx, wa, wb⟩ := o_span (by simpa [Value.cells] using hf)
  simp only [Prod.mk.injEq] at hx
  exact ⟨a, b, rfl, hx.1, hx.2, wa, wb⟩
set_option maxRecDepth 100000 in
theorem os_draft {r : Reach} {b0 : Nat} {v : Value} {d : DataW H} {p : List MemPlace} (hv : Value.okWide Tryz.prog w r b0 28 v) (h : DataW.Trod enc Tryz.prog w base spare held 28 v d p) :
    ∃ a b c, v = .agg #[.int .i64 a, .int .u8 b, .int .u32 c] ∧ d = dDraft a b c ∧ p = [] ∧ I64 a ∧ U8 b ∧ U32 c := by
  obtain ⟨cs, rfl, hsz⟩ := okWide_struct Tryz.underlying28 hv
  obtain ⟨u0, u1, u2, rfl⟩ := array3 (hsz.trans Tryz.cellsDraft)
  obtain ⟨fuel, hf⟩ := h
  obtain ⟨a, b, c, rfl, rfl, rfl, hx, wa, wb, wc⟩ := o_draft (by simpa [Value.cells] using hf)
  simp only [Prod.mk.injEq] at hx
  exact ⟨a, b, c, rfl, hx.1, hx.2, wa, wb, wc⟩
end

end Go.Proofs.YtpdaigenffecmaaGreat
