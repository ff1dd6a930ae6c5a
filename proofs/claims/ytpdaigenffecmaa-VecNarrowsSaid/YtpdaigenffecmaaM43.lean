/-
  The statement VecNarrows: its code answers true. The statements' arguments: read, opened and shut. The statements' argument: two vectors and two drafts. The statements' arguments: Parts.
-/
import Derived.Test.YtpdaigenffecmaaM31
import Derived.Test.YtpdaigenffecmaaM33
import Derived.Test.YtpdaigenffecmaaM36
import Derived.Test.YtpdaigenffecmaaM42
set_option linter.all false
namespace Go.Proofs.Ytpdaigenffecmaa
open Go.RowKit Go.Shelf

def oNvL (bd1 bn1 bd2 bn2 : Bool) : List Ent := [
  ⟨100, [.v (.agg (dr 12))], .v (SR (rg 42 2))⟩,
  ⟨100, [.v (.agg (dr 15))], .v (SR (rg 44 2))⟩,
  ⟨100, [.v (.agg (dr 18))], .v (SR (rg 46 2))⟩,
  ⟨101, [.v (.agg (dr 12))], .v (SR (rg 48 2))⟩,
  ⟨101, [.v (.agg (dr 15))], .v (SR (rg 50 2))⟩,
  ⟨101, [.v (.agg (dr 18))], .v (SR (rg 52 2))⟩,
  ⟨101, [.v (.agg (dr 21))], .v (SR (rg 54 2))⟩,
  ⟨101, [.v (.agg (dr 24))], .v (SR (rg 56 2))⟩,
  ⟨101, [.v (.agg (dr 27))], .v (SR (rg 58 2))⟩,
  ⟨61, [SV [42, 43], .v (.one (.int .u64 (.sym 30))), .v (.one (.int .u64 (.sym 31)))], SV [60, 61]⟩,
  ⟨61, [SV [44, 45], .v (.one (.int .u64 (.sym 32))), .v (.one (.int .u64 (.sym 33)))], SV [62, 63]⟩,
  ⟨61, [SV [46, 47], .v (.one (.int .u64 (.sym 34))), .v (.one (.int .u64 (.sym 35)))], SV [64, 65]⟩,
  ⟨61, [SV [54, 55], .v (.one (.int .u64 (.sym 36))), .v (.one (.int .u64 (.sym 37)))], SV [66, 67]⟩,
  ⟨61, [SV [56, 57], .v (.one (.int .u64 (.sym 38))), .v (.one (.int .u64 (.sym 39)))], SV [68, 69]⟩,
  ⟨61, [SV [58, 59], .v (.one (.int .u64 (.sym 40))), .v (.one (.int .u64 (.sym 41)))], SV [70, 71]⟩,
  ⟨13, [SV (rg 60 6), SV (rg 66 6)], SE (rg 72 6) 78⟩,
  ⟨13, [SV (rg 42 6), SV (rg 54 6)], SE (rg 79 6) 85⟩,
  ⟨16, [SV (rg 72 6), .v (.one (S1 78)), SV (rg 79 6), .v (.one (S1 85))], .v (.one (.bool true))⟩,
  ⟨14, [SV (rg 60 6), SV (rg 66 6)], SE (rg 86 6) 92⟩,
  ⟨14, [SV (rg 42 6), SV (rg 54 6)], SE (rg 93 6) 99⟩,
  ⟨16, [SV (rg 86 6), .v (.one (S1 92)), SV (rg 93 6), .v (.one (S1 99))], .v (.one (.bool true))⟩,
  ⟨15, [SV (rg 60 6), SV (rg 66 6)], SE (rg 100 6) 106⟩,
  ⟨15, [SV (rg 42 6), SV (rg 54 6)], SE (rg 107 6) 113⟩,
  ⟨16, [SV (rg 100 6), .v (.one (S1 106)), SV (rg 107 6), .v (.one (S1 113))], .v (.one (.bool true))⟩,
  ⟨17, [SV (rg 60 6)], SE (rg 114 6) 120⟩,
  ⟨17, [SV (rg 42 6)], SE (rg 121 6) 127⟩,
  ⟨16, [SV (rg 114 6), .v (.one (S1 120)), SV (rg 121 6), .v (.one (S1 127))], .v (.one (.bool true))⟩,
  ⟨18, [SV (rg 60 6), SV (rg 66 6)], SE (rg 128 2) 130⟩,
  ⟨18, [SV (rg 42 6), SV (rg 54 6)], SE (rg 131 2) 133⟩,
  ⟨20, [SV (rg 60 6)], SE (rg 134 2) 136⟩,
  ⟨20, [SV (rg 42 6)], SE (rg 137 2) 139⟩,
  ⟨61, [SV [48, 49], .v (.one (.int .u64 (.sym 30))), .v (.one (.int .u64 (.sym 31)))], SV [140, 141]⟩,
  ⟨61, [SV [50, 51], .v (.one (.int .u64 (.sym 32))), .v (.one (.int .u64 (.sym 33)))], SV [142, 143]⟩,
  ⟨61, [SV [52, 53], .v (.one (.int .u64 (.sym 34))), .v (.one (.int .u64 (.sym 35)))], SV [144, 145]⟩,
  ⟨13, [SV (rg 140 6), SV (rg 66 6)], SE (rg 146 6) 152⟩,
  ⟨13, [SV (rg 48 6), SV (rg 54 6)], SE (rg 153 6) 159⟩,
  ⟨16, [SV (rg 146 6), .v (.one (S1 152)), SV (rg 153 6), .v (.one (S1 159))], .v (.one (.bool true))⟩,
  ⟨14, [SV (rg 140 6), SV (rg 66 6)], SE (rg 160 6) 166⟩,
  ⟨14, [SV (rg 48 6), SV (rg 54 6)], SE (rg 167 6) 173⟩,
  ⟨16, [SV (rg 160 6), .v (.one (S1 166)), SV (rg 167 6), .v (.one (S1 173))], .v (.one (.bool true))⟩,
  ⟨15, [SV (rg 140 6), SV (rg 66 6)], SE (rg 174 6) 180⟩,
  ⟨15, [SV (rg 48 6), SV (rg 54 6)], SE (rg 181 6) 187⟩,
  ⟨16, [SV (rg 174 6), .v (.one (S1 180)), SV (rg 181 6), .v (.one (S1 187))], .v (.one (.bool true))⟩,
  ⟨17, [SV (rg 140 6)], SE (rg 188 6) 194⟩,
  ⟨17, [SV (rg 48 6)], SE (rg 195 6) 201⟩,
  ⟨16, [SV (rg 188 6), .v (.one (S1 194)), SV (rg 195 6), .v (.one (S1 201))], .v (.one (.bool true))⟩,
  ⟨18, [SV (rg 140 6), SV (rg 66 6)], SE (rg 202 2) 204⟩,
  ⟨18, [SV (rg 48 6), SV (rg 54 6)], SE (rg 205 2) 207⟩,
  ⟨20, [SV (rg 140 6)], SE (rg 208 2) 210⟩,
  ⟨20, [SV (rg 48 6)], SE (rg 211 2) 213⟩,
  ⟨10, [], .v (.one (.bool true))⟩]
def oNvF (bd1 bn1 bd2 bn2 : Bool) : Facts := { cmp := [(.eql, .sym 133, .lit 0, bd1), (.eql, .sym 139, .lit 0, bn1), (.eql, .sym 207, .lit 0, bd2), (.eql, .sym 213, .lit 0, bn2)] ++ cond bd1 [(.neq, .sym 130, .lit 0, false), (.leq, .sym 131, .sym 128, true), (.leq, .sym 129, .sym 132, true)] [] ++ cond bn1 [(.neq, .sym 136, .lit 0, false), (.leq, .sym 137, .sym 134, true), (.leq, .sym 135, .sym 138, true)] [] ++ cond bd2 [(.neq, .sym 204, .lit 0, false), (.leq, .sym 205, .sym 202, true), (.leq, .sym 203, .sym 206, true)] [] ++ cond bn2 [(.neq, .sym 210, .lit 0, false), (.leq, .sym 211, .sym 208, true), (.leq, .sym 209, .sym 212, true)] [] }
def oNvA : List AV := [.v (.agg ((rg 0 12).map S1 ++ dr 12 ++ dr 15 ++ dr 18 ++ dr 21 ++ dr 24 ++ dr 27)), .v (.agg ((rg 30 6).map fun i => .int .u64 (.sym i))), .v (.agg ((rg 36 6).map fun i => .int .u64 (.sym i)))]


end Go.Proofs.Ytpdaigenffecmaa

namespace Go.Proofs.Ytpdaigenffecmaa
open Go.RowKit Go.ChangeShapes Go.WideShapes Go.Joins Go.Deep

theorem Try.cellsTwo : Try.prog.cellsOf 32 = 30 := by kernel_rfl
theorem Try.cellsVec : Try.prog.cellsOf 25 = 6 := by kernel_rfl
theorem Try.cellsDrafts : Try.prog.cellsOf 30 = 9 := by kernel_rfl
theorem Try.cellsSpan : Try.prog.cellsOf 23 = 2 := by kernel_rfl
theorem Try.cellsDraft : Try.prog.cellsOf 28 = 3 := by kernel_rfl
theorem Try.cellsInt : Try.prog.cellsOf 3 = 1 := by kernel_rfl
theorem Try.cellsU8 : Try.prog.cellsOf 5 = 1 := by kernel_rfl
theorem Try.cellsU32 : Try.prog.cellsOf 26 = 1 := by kernel_rfl

def dSpan {H : Type} (a b : Int) : DataW H := .agg [.lit (.int .i64 a), .lit (.int .i64 b)]
def dVec {H : Type} (a b c d e f : Int) : DataW H := .agg [dSpan a b, dSpan c d, dSpan e f]
def dDraft {H : Type} (a b c : Int) : DataW H := .agg [.lit (.int .i64 a), .lit (.int .u8 b), .lit (.int .u32 c)]
def dDrafts {H : Type} (a b c d e f g h i : Int) : DataW H := .agg [dDraft a b c, dDraft d e f, dDraft g h i]
/-- An integer of 64 bits. -/
def I64 (a : Int) : Prop := (Lit.int .i64 a).wf = true
def U8 (a : Int) : Prop := (Lit.int .u8 a).wf = true
def U32 (a : Int) : Prop := (Lit.int .u32 a).wf = true
theorem U8.bounds {a : Int} (h : U8 a) : 0 ≤ a ∧ a ≤ 255 := bounds_u8 h
theorem U32.bounds {a : Int} (h : U32 a) : 0 ≤ a ∧ a ≤ 4294967295 := bounds_u32 h

section
variable {H : Type} {enc : TypeId × Value → H} {w : World} {base : Nat} {spare : Nat → Bool} {held : Bool}
theorem m_span (n : Nat) {a b : Int} (ha : I64 a) (hb : I64 b) : DataW.trod enc Try.prog w base spare held (n + 2) 23 [.int .i64 a, .int .i64 b] = some (dSpan a b, []) := by
  have h0 : (Lit.int .i64 a).wf = true := ha
  have h1 : (Lit.int .i64 b).wf = true := hb
  exact trod_struct2_mk (y0 := (.lit (.int .i64 a), [])) (y1 := (.lit (.int .i64 b), [])) Try.underlying23 (by rw [Try.cellsSpan]; rfl) (by simp only [Try.cellsInt, Try.cellsU8, Try.cellsU32, Try.cellsDraft]; exact trod_int_mk n Try.underlying3 h0) (by simp only [Try.cellsInt, Try.cellsU8, Try.cellsU32, Try.cellsDraft]; exact trod_int_mk n Try.underlying3 h1)
theorem m_draft (n : Nat) {a b c : Int} (ha : I64 a) (hb : U8 b) (hc : U32 c) : DataW.trod enc Try.prog w base spare held (n + 2) 28 [.int .i64 a, .int .u8 b, .int .u32 c] = some (dDraft a b c, []) := by
  have h0 : (Lit.int .i64 a).wf = true := ha
  have h1 : (Lit.int .u8 b).wf = true := hb
  have h2 : (Lit.int .u32 c).wf = true := hc
  exact trod_struct3_mk (y0 := (.lit (.int .i64 a), [])) (y1 := (.lit (.int .u8 b), [])) (y2 := (.lit (.int .u32 c), [])) Try.underlying28 (by rw [Try.cellsDraft]; rfl) (by simp only [Try.cellsInt, Try.cellsU8, Try.cellsU32, Try.cellsDraft]; exact trod_int_mk n Try.underlying3 h0) (by simp only [Try.cellsInt, Try.cellsU8, Try.cellsU32, Try.cellsDraft]; exact trod_int_mk n Try.underlying5 h1) (by simp only [Try.cellsInt, Try.cellsU8, Try.cellsU32, Try.cellsDraft]; exact trod_int_mk n Try.underlying26 h2)
theorem m_drafts (n : Nat) {a b c d e f g h i : Int} (ha : I64 a) (hb : U8 b) (hc : U32 c) (hd : I64 d) (he : U8 e) (hf : U32 f) (hg : I64 g) (hh : U8 h) (hi : U32 i) :
    DataW.trod enc Try.prog w base spare held (n + 3) 30 [.int .i64 a, .int .u8 b, .int .u32 c, .int .i64 d, .int .u8 e, .int .u32 f, .int .i64 g, .int .u8 h, .int .u32 i] = some (dDrafts a b c d e f g h i, []) :=
  trod_struct3_mk (y0 := (dDraft a b c, [])) (y1 := (dDraft d e f, [])) (y2 := (dDraft g h i, [])) Try.underlying30 (by rw [Try.cellsDrafts]; rfl) (by simp only [Try.cellsInt, Try.cellsU8, Try.cellsU32, Try.cellsDraft]; exact m_draft n ha hb hc) (by simp only [Try.cellsInt, Try.cellsU8, Try.cellsU32, Try.cellsDraft]; exact m_draft n hd he hf) (by simp only [Try.cellsInt, Try.cellsU8, Try.cellsU32, Try.cellsDraft]; exact m_draft n hg hh hi)
theorem m_vec (n : Nat) {a b c d e f : Int} (ha : I64 a) (hb : I64 b) (hc : I64 c) (hd : I64 d) (he : I64 e) (hf : I64 f) :
    DataW.trod enc Try.prog w base spare held (n + 3) 25 [.int .i64 a, .int .i64 b, .int .i64 c, .int .i64 d, .int .i64 e, .int .i64 f] = some (dVec a b c d e f, []) := by
  have e0 : DataW.trod enc Try.prog w base spare held (n + 2) 23 [.int .i64 a, .int .i64 b] = some (dSpan a b, []) := m_span n ha hb
  have e1 : DataW.trod enc Try.prog w base spare held (n + 2) 23 [.int .i64 c, .int .i64 d] = some (dSpan c d, []) := m_span n hc hd
  have e2 : DataW.trod enc Try.prog w base spare held (n + 2) 23 [.int .i64 e, .int .i64 f] = some (dSpan e f, []) := m_span n he hf
  unfold DataW.trod
  rw [show Try.prog.underlying 25 = some (.array 3 23) by kernel_rfl]
  simp [Try.cellsVec, Try.cellsSpan, List.range, List.range.loop, e0, e1, e2, dVec]
theorem o_span {fuel : Nat} {u v : Value} {x : DataW H × List MemPlace} (h : DataW.trod enc Try.prog w base spare held fuel 23 [u, v] = some x) : ∃ a b, u = .int .i64 a ∧ v = .int .i64 b ∧ x = (dSpan a b, []) ∧ I64 a ∧ I64 b := by
  obtain ⟨y0, y1, n, hx, _, h0, h1⟩ := trod_struct2 Try.underlying23 h
  obtain ⟨a, e0, rfl, wa⟩ := DataW.trod_int Try.underlying3 h0
  obtain ⟨b, e1, rfl, wb⟩ := DataW.trod_int Try.underlying3 h1
  simp [Try.cellsInt] at e0 e1
  exact ⟨a, b, e0, e1, hx, wa, wb⟩
theorem o_draft {fuel : Nat} {u v z : Value} {x : DataW H × List MemPlace} (h : DataW.trod enc Try.prog w base spare held fuel 28 [u, v, z] = some x) : ∃ a b c, u = .int .i64 a ∧ v = .int .u8 b ∧ z = .int .u32 c ∧ x = (dDraft a b c, []) ∧ I64 a ∧ U8 b ∧ U32 c := by
  obtain ⟨y0, y1, y2, n, hx, _, h0, h1, h2⟩ := trod_struct3 Try.underlying28 h
  obtain ⟨a, e0, rfl, wa⟩ := DataW.trod_int Try.underlying3 h0
  obtain ⟨b, e1, rfl, wb⟩ := DataW.trod_int Try.underlying5 h1
  obtain ⟨c, e2, rfl, wc⟩ := DataW.trod_int Try.underlying26 h2
  simp [Try.cellsInt, Try.cellsU8, Try.cellsU32] at e0 e1 e2
  exact ⟨a, b, c, e0, e1, e2, hx, wa, wb, wc⟩
theorem o_vec {fuel : Nat} {c0 c1 c2 c3 c4 c5 : Value} {x : DataW H × List MemPlace} (h : DataW.trod enc Try.prog w base spare held fuel 25 [c0, c1, c2, c3, c4, c5] = some x) :
    ∃ a b c d e f, [c0, c1, c2, c3, c4, c5] = [.int .i64 a, .int .i64 b, .int .i64 c, .int .i64 d, .int .i64 e, .int .i64 f] ∧ x = (dVec a b c d e f, []) ∧ I64 a ∧ I64 b ∧ I64 c ∧ I64 d ∧ I64 e ∧ I64 f := by
  obtain ⟨xs, m, _, hx, _, hl, hf⟩ := DataW.trod_array (show Try.prog.underlying 25 = some (.array 3 23) by kernel_rfl) h
  obtain ⟨x0, x1, x2, rfl⟩ : ∃ x0 x1 x2, xs = [x0, x1, x2] := by
    match xs, hl with
    | [x0, x1, x2], _ => exact ⟨x0, x1, x2, rfl⟩
  have h0 := hf 0 (by decide); have h1 := hf 1 (by decide); have h2 := hf 2 (by decide)
  rw [Try.cellsSpan] at h0 h1 h2
  obtain ⟨a, b, rfl, rfl, rfl, wa, wb⟩ := o_span (by simpa using h0)
  obtain ⟨c, d, rfl, rfl, rfl, wc, wd⟩ := o_span (by simpa using h1)
  obtain ⟨e, f, rfl, rfl, rfl, we, wf⟩ := o_span (by simpa using h2)
  exact ⟨a, b, c, d, e, f, rfl, by rw [hx]; rfl, wa, wb, wc, wd, we, wf⟩
theorem o_drafts {fuel : Nat} {c0 c1 c2 c3 c4 c5 c6 c7 c8 : Value} {x : DataW H × List MemPlace} (h : DataW.trod enc Try.prog w base spare held fuel 30 [c0, c1, c2, c3, c4, c5, c6, c7, c8] = some x) :
    ∃ a b c d e f g i j, [c0, c1, c2, c3, c4, c5, c6, c7, c8] = [.int .i64 a, .int .u8 b, .int .u32 c, .int .i64 d, .int .u8 e, .int .u32 f, .int .i64 g, .int .u8 i, .int .u32 j] ∧ x = (dDrafts a b c d e f g i j, []) ∧
      I64 a ∧ U8 b ∧ U32 c ∧ I64 d ∧ U8 e ∧ U32 f ∧ I64 g ∧ U8 i ∧ U32 j := by
  obtain ⟨y0, y1, y2, n, hx, _, h0, h1, h2⟩ := trod_struct3 Try.underlying30 h
  simp only [Try.cellsDraft] at h0 h1 h2
  obtain ⟨a, b, c, rfl, rfl, rfl, rfl, wa, wb, wc⟩ := o_draft (by simpa using h0)
  obtain ⟨d, e, f, rfl, rfl, rfl, rfl, wd, we, wf⟩ := o_draft (by simpa using h1)
  obtain ⟨g, i, j, rfl, rfl, rfl, rfl, wg, wi, wj⟩ := o_draft (by simpa using h2)
  exact ⟨a, b, c, d, e, f, g, i, j, rfl, hx, wa, wb, wc, wd, we, wf, wg, wi, wj⟩
end

end Go.Proofs.Ytpdaigenffecmaa

namespace Go.Proofs.Ytpdaigenffecmaa
open Go.RowKit Go.ChangeShapes Go.WideShapes Go.Joins Go.Deep

theorem list30 {l : List Value} (h : l.length = 30) : ∃ c0 c1 c2 c3 c4 c5 c6 c7 c8 c9 c10 c11 c12 c13 c14 c15 c16 c17 c18 c19 c20 c21 c22 c23 c24 c25 c26 c27 c28 c29, l = [c0, c1, c2, c3, c4, c5, c6, c7, c8, c9, c10, c11, c12, c13, c14, c15, c16, c17, c18, c19, c20, c21, c22, c23, c24, c25, c26, c27, c28, c29] := by
  match l, h with
  | [c0, c1, c2, c3, c4, c5, c6, c7, c8, c9, c10, c11, c12, c13, c14, c15, c16, c17, c18, c19, c20, c21, c22, c23, c24, c25, c26, c27, c28, c29], _ => exact ⟨c0, c1, c2, c3, c4, c5, c6, c7, c8, c9, c10, c11, c12, c13, c14, c15, c16, c17, c18, c19, c20, c21, c22, c23, c24, c25, c26, c27, c28, c29, rfl⟩
section
variable {H : Type} {enc : TypeId × Value → H} {w : World} {base : Nat} {spare : Nat → Bool} {held : Bool}
set_option maxRecDepth 100000 in
theorem m_two {x0 x1 x2 x3 x4 x5 y0 y1 y2 y3 y4 y5 d0 d1 d2 d3 d4 d5 d6 d7 d8 e0 e1 e2 e3 e4 e5 e6 e7 e8 : Int} (w_x0 : I64 x0) (w_x1 : I64 x1) (w_x2 : I64 x2) (w_x3 : I64 x3) (w_x4 : I64 x4) (w_x5 : I64 x5) (w_y0 : I64 y0) (w_y1 : I64 y1) (w_y2 : I64 y2) (w_y3 : I64 y3) (w_y4 : I64 y4) (w_y5 : I64 y5) (w_d0 : I64 d0) (w_d1 : U8 d1) (w_d2 : U32 d2) (w_d3 : I64 d3) (w_d4 : U8 d4) (w_d5 : U32 d5) (w_d6 : I64 d6) (w_d7 : U8 d7) (w_d8 : U32 d8) (w_e0 : I64 e0) (w_e1 : U8 e1) (w_e2 : U32 e2) (w_e3 : I64 e3) (w_e4 : U8 e4) (w_e5 : U32 e5) (w_e6 : I64 e6) (w_e7 : U8 e7) (w_e8 : U32 e8) : DataW.Trod enc Try.prog w base spare held 32 (.agg #[.int .i64 x0, .int .i64 x1, .int .i64 x2, .int .i64 x3, .int .i64 x4, .int .i64 x5, .int .i64 y0, .int .i64 y1, .int .i64 y2, .int .i64 y3, .int .i64 y4, .int .i64 y5, .int .i64 d0, .int .u8 d1, .int .u32 d2, .int .i64 d3, .int .u8 d4, .int .u32 d5, .int .i64 d6, .int .u8 d7, .int .u32 d8, .int .i64 e0, .int .u8 e1, .int .u32 e2, .int .i64 e3, .int .u8 e4, .int .u32 e5, .int .i64 e6, .int .u8 e7, .int .u32 e8]) (.agg [dVec x0 x1 x2 x3 x4 x5, dVec y0 y1 y2 y3 y4 y5, dDrafts d0 d1 d2 d3 d4 d5 d6 d7 d8, dDrafts e0 e1 e2 e3 e4 e5 e6 e7 e8]) [] :=
  ⟨4, trod_struct4_mk (y0 := (dVec x0 x1 x2 x3 x4 x5, [])) (y1 := (dVec y0 y1 y2 y3 y4 y5, [])) (y2 := (dDrafts d0 d1 d2 d3 d4 d5 d6 d7 d8, [])) (y3 := (dDrafts e0 e1 e2 e3 e4 e5 e6 e7 e8, [])) Try.underlying32 (by rw [Try.cellsTwo]; rfl)
    (by simp only [Try.cellsVec]; exact m_vec 0 w_x0 w_x1 w_x2 w_x3 w_x4 w_x5) (by simp only [Try.cellsVec]; exact m_vec 0 w_y0 w_y1 w_y2 w_y3 w_y4 w_y5) (by simp only [Try.cellsDrafts]; exact m_drafts 0 w_d0 w_d1 w_d2 w_d3 w_d4 w_d5 w_d6 w_d7 w_d8) (by simp only [Try.cellsDrafts]; exact m_drafts 0 w_e0 w_e1 w_e2 w_e3 w_e4 w_e5 w_e6 w_e7 w_e8)⟩
set_option maxRecDepth 100000 in
theorem o_two {r : Reach} {b0 : Nat} {v : Value} {d : DataW H} {p : List MemPlace} (hv : Value.okWide Try.prog w r b0 32 v) (h : DataW.Trod enc Try.prog w base spare held 32 v d p) :
    ∃ x0 x1 x2 x3 x4 x5 y0 y1 y2 y3 y4 y5 d0 d1 d2 d3 d4 d5 d6 d7 d8 e0 e1 e2 e3 e4 e5 e6 e7 e8, v = .agg #[.int .i64 x0, .int .i64 x1, .int .i64 x2, .int .i64 x3, .int .i64 x4, .int .i64 x5, .int .i64 y0, .int .i64 y1, .int .i64 y2, .int .i64 y3, .int .i64 y4, .int .i64 y5, .int .i64 d0, .int .u8 d1, .int .u32 d2, .int .i64 d3, .int .u8 d4, .int .u32 d5, .int .i64 d6, .int .u8 d7, .int .u32 d8, .int .i64 e0, .int .u8 e1, .int .u32 e2, .int .i64 e3, .int .u8 e4, .int .u32 e5, .int .i64 e6, .int .u8 e7, .int .u32 e8] ∧ d = .agg [dVec x0 x1 x2 x3 x4 x5, dVec y0 y1 y2 y3 y4 y5, dDrafts d0 d1 d2 d3 d4 d5 d6 d7 d8, dDrafts e0 e1 e2 e3 e4 e5 e6 e7 e8] ∧ p = [] ∧ I64 x0 ∧ I64 x1 ∧ I64 x2 ∧ I64 x3 ∧ I64 x4 ∧ I64 x5 ∧ I64 y0 ∧ I64 y1 ∧ I64 y2 ∧ I64 y3 ∧ I64 y4 ∧ I64 y5 ∧ I64 d0 ∧ U8 d1 ∧ U32 d2 ∧ I64 d3 ∧ U8 d4 ∧ U32 d5 ∧ I64 d6 ∧ U8 d7 ∧ U32 d8 ∧ I64 e0 ∧ U8 e1 ∧ U32 e2 ∧ I64 e3 ∧ U8 e4 ∧ U32 e5 ∧ I64 e6 ∧ U8 e7 ∧ U32 e8 := by
  obtain ⟨cs, rfl, hsz⟩ := okWide_struct Try.underlying32 hv
  obtain ⟨l⟩ := cs
  obtain ⟨c0, c1, c2, c3, c4, c5, c6, c7, c8, c9, c10, c11, c12, c13, c14, c15, c16, c17, c18, c19, c20, c21, c22, c23, c24, c25, c26, c27, c28, c29, rfl⟩ := list30 (show l.length = 30 by rw [Try.cellsTwo] at hsz; simpa using hsz)
  obtain ⟨fuel, hf⟩ := h
  obtain ⟨y0, y1, y2, y3, n, hx, _, h0, h1, h2, h3⟩ := trod_struct4 Try.underlying32 hf
  simp only [Try.cellsVec, Try.cellsDrafts] at h0 h1 h2 h3
  obtain ⟨x0, x1, x2, x3, x4, x5, hc0, rfl, wx0, wx1, wx2, wx3, wx4, wx5⟩ := o_vec (by simpa [Value.cells] using h0)
  obtain ⟨y0, y1, y2, y3, y4, y5, hc1, rfl, wy0, wy1, wy2, wy3, wy4, wy5⟩ := o_vec (by simpa [Value.cells] using h1)
  obtain ⟨d0, d1, d2, d3, d4, d5, d6, d7, d8, hc2, rfl, wd0, wd1, wd2, wd3, wd4, wd5, wd6, wd7, wd8⟩ := o_drafts (by simpa [Value.cells] using h2)
  obtain ⟨e0, e1, e2, e3, e4, e5, e6, e7, e8, hc3, rfl, we0, we1, we2, we3, we4, we5, we6, we7, we8⟩ := o_drafts (by simpa [Value.cells] using h3)
  simp only [List.cons.injEq, and_true] at hc0 hc1 hc2 hc3
  obtain ⟨rfl, rfl, rfl, rfl, rfl, rfl⟩ := hc0
  obtain ⟨rfl, rfl, rfl, rfl, rfl, rfl⟩ := hc1
  obtain ⟨rfl, rfl, rfl, rfl, rfl, rfl, rfl, rfl, rfl⟩ := hc2
  obtain ⟨rfl, rfl, rfl, rfl, rfl, rfl, rfl, rfl, rfl⟩ := hc3
  simp only [Prod.mk.injEq] at hx
  exact ⟨x0, x1, x2, x3, x4, x5, y0, y1, y2, y3, y4, y5, d0, d1, d2, d3, d4, d5, d6, d7, d8, e0, e1, e2, e3, e4, e5, e6, e7, e8, rfl, hx.1, by simpa using hx.2, wx0, wx1, wx2, wx3, wx4, wx5, wy0, wy1, wy2, wy3, wy4, wy5, wd0, wd1, wd2, wd3, wd4, wd5, wd6, wd7, wd8, we0, we1, we2, we3, we4, we5, we6, we7, we8⟩
end

end Go.Proofs.Ytpdaigenffecmaa

namespace Go.Proofs.Ytpdaigenffecmaa
open Go Go.RowKit Go.ChangeShapes Go.WideShapes Go.Joins Go.Deep

theorem Try.cellsParts : Try.prog.cellsOf 36 = 6 := by kernel_rfl
theorem Try.cellsPair : Try.prog.cellsOf 34 = 2 := by kernel_rfl
theorem Try.cellsU64 : Try.prog.cellsOf 33 = 1 := by kernel_rfl
theorem Try.undParts : Try.prog.underlying 36 = some (.array 3 34) := by kernel_rfl
theorem Try.undPair : Try.prog.underlying 34 = some (.array 2 33) := by kernel_rfl
theorem Try.undU64 : Try.prog.underlying 33 = some (.int .u64) := by kernel_rfl
def U64 (a : Int) : Prop := (Lit.int .u64 a).wf = true
theorem U64.bounds {a : Int} (h : U64 a) : 0 ≤ a ∧ a ≤ 18446744073709551615 := bounds_u64 h
def dPair {H : Type} (a b : Int) : DataW H := .agg [.lit (.int .u64 a), .lit (.int .u64 b)]
def dParts {H : Type} (a b c d e f : Int) : DataW H := .agg [dPair a b, dPair c d, dPair e f]
theorem list6 {l : List Value} (h : l.length = 6) : ∃ c0 c1 c2 c3 c4 c5, l = [c0, c1, c2, c3, c4, c5] := by
  match l, h with
  | [c0, c1, c2, c3, c4, c5], _ => exact ⟨c0, c1, c2, c3, c4, c5, rfl⟩
section
variable {H : Type} {enc : TypeId × Value → H} {w : World} {base : Nat} {spare : Nat → Bool} {held : Bool}
theorem m_pair (n : Nat) {a b : Int} (ha : U64 a) (hb : U64 b) : DataW.trod enc Try.prog w base spare held (n + 2) 34 [.int .u64 a, .int .u64 b] = some (dPair a b, []) := by
  have h0 : (Lit.int .u64 a).wf = true := ha
  have h1 : (Lit.int .u64 b).wf = true := hb
  have e0 : DataW.trod enc Try.prog w base spare held (n + 1) 33 [.int .u64 a] = some (.lit (.int .u64 a), []) := trod_int_mk n Try.undU64 h0
  have e1 : DataW.trod enc Try.prog w base spare held (n + 1) 33 [.int .u64 b] = some (.lit (.int .u64 b), []) := trod_int_mk n Try.undU64 h1
  unfold DataW.trod
  rw [Try.undPair]
  simp [Try.cellsPair, Try.cellsU64, List.range, List.range.loop, e0, e1, dPair]
theorem m_parts (n : Nat) {a b c d e f : Int} (ha : U64 a) (hb : U64 b) (hc : U64 c) (hd : U64 d) (he : U64 e) (hf : U64 f) :
    DataW.trod enc Try.prog w base spare held (n + 3) 36 [.int .u64 a, .int .u64 b, .int .u64 c, .int .u64 d, .int .u64 e, .int .u64 f] = some (dParts a b c d e f, []) := by
  have e0 : DataW.trod enc Try.prog w base spare held (n + 2) 34 [.int .u64 a, .int .u64 b] = some (dPair a b, []) := m_pair n ha hb
  have e1 : DataW.trod enc Try.prog w base spare held (n + 2) 34 [.int .u64 c, .int .u64 d] = some (dPair c d, []) := m_pair n hc hd
  have e2 : DataW.trod enc Try.prog w base spare held (n + 2) 34 [.int .u64 e, .int .u64 f] = some (dPair e f, []) := m_pair n he hf
  unfold DataW.trod
  rw [Try.undParts]
  simp [Try.cellsParts, Try.cellsPair, List.range, List.range.loop, e0, e1, e2, dParts]
theorem ms_parts {a b c d e f : Int} (ha : U64 a) (hb : U64 b) (hc : U64 c) (hd : U64 d) (he : U64 e) (hf : U64 f) :
    DataW.Trod enc Try.prog w base spare held 36 (.agg #[.int .u64 a, .int .u64 b, .int .u64 c, .int .u64 d, .int .u64 e, .int .u64 f]) (dParts a b c d e f) [] := ⟨3, m_parts 0 ha hb hc hd he hf⟩
theorem o_pair {fuel : Nat} {u v : Value} {x : DataW H × List MemPlace} (h : DataW.trod enc Try.prog w base spare held fuel 34 [u, v] = some x) : ∃ a b, u = .int .u64 a ∧ v = .int .u64 b ∧ x = (dPair a b, []) ∧ U64 a ∧ U64 b := by
  obtain ⟨xs, m, _, hx, _, hl, hf⟩ := DataW.trod_array Try.undPair h
  obtain ⟨x0, x1, rfl⟩ : ∃ x0 x1, xs = [x0, x1] := by
    match xs, hl with
    | [x0, x1], _ => exact ⟨x0, x1, rfl⟩
  have h0 := hf 0 (by decide); have h1 := hf 1 (by decide)
  rw [Try.cellsU64] at h0 h1
  obtain ⟨a, e0, hx0, wa⟩ := DataW.trod_int Try.undU64 h0
  obtain ⟨b, e1, hx1, wb⟩ := DataW.trod_int Try.undU64 h1
  simp at e0 e1 hx0 hx1
  exact ⟨a, b, e0, e1, by rw [hx, hx0, hx1]; rfl, wa, wb⟩
theorem o_parts {fuel : Nat} {c0 c1 c2 c3 c4 c5 : Value} {x : DataW H × List MemPlace} (h : DataW.trod enc Try.prog w base spare held fuel 36 [c0, c1, c2, c3, c4, c5] = some x) :
    ∃ a b c d e f, [c0, c1, c2, c3, c4, c5] = [.int .u64 a, .int .u64 b, .int .u64 c, .int .u64 d, .int .u64 e, .int .u64 f] ∧ x = (dParts a b c d e f, []) ∧ U64 a ∧ U64 b ∧ U64 c ∧ U64 d ∧ U64 e ∧ U64 f := by
  obtain ⟨xs, m, _, hx, _, hl, hf⟩ := DataW.trod_array Try.undParts h
  obtain ⟨x0, x1, x2, rfl⟩ : ∃ x0 x1 x2, xs = [x0, x1, x2] := by
    match xs, hl with
    | [x0, x1, x2], _ => exact ⟨x0, x1, x2, rfl⟩
  have h0 := hf 0 (by decide); have h1 := hf 1 (by decide); have h2 := hf 2 (by decide)
  rw [Try.cellsPair] at h0 h1 h2
  obtain ⟨a, b, rfl, rfl, rfl, wa, wb⟩ := o_pair (by simpa using h0)
  obtain ⟨c, d, rfl, rfl, rfl, wc, wd⟩ := o_pair (by simpa using h1)
  obtain ⟨e, f, rfl, rfl, rfl, we, wf⟩ := o_pair (by simpa using h2)
  exact ⟨a, b, c, d, e, f, rfl, by rw [hx]; rfl, wa, wb, wc, wd, we, wf⟩
set_option maxRecDepth 100000 in
theorem os_parts {r : Reach} {b0 : Nat} {v : Value} {d : DataW H} {p : List MemPlace} (hv : Value.okWide Try.prog w r b0 36 v) (h : DataW.Trod enc Try.prog w base spare held 36 v d p) :
    ∃ a b c e f g, v = .agg #[.int .u64 a, .int .u64 b, .int .u64 c, .int .u64 e, .int .u64 f, .int .u64 g] ∧ d = dParts a b c e f g ∧ p = [] ∧ U64 a ∧ U64 b ∧ U64 c ∧ U64 e ∧ U64 f ∧ U64 g := by
  obtain ⟨cs, rfl, hsz⟩ : ∃ cs, v = .agg cs ∧ cs.size = Try.prog.cellsOf 36 := by
    simp only [Value.okWide, Try.undParts] at hv
    obtain ⟨cs, h1, h2, _⟩ := hv
    exact ⟨cs, h1, h2⟩
  obtain ⟨l⟩ := cs
  obtain ⟨c0, c1, c2, c3, c4, c5, rfl⟩ := list6 (show l.length = 6 by rw [Try.cellsParts] at hsz; simpa using hsz)
  obtain ⟨fuel, hf⟩ := h
  obtain ⟨a, b, c, e, f, g, hc, hx, w1, w2, w3, w4, w5, w6⟩ := o_parts (by simpa [Value.cells] using hf)
  simp only [List.cons.injEq, and_true] at hc
  obtain ⟨rfl, rfl, rfl, rfl, rfl, rfl⟩ := hc
  simp only [Prod.mk.injEq] at hx
  exact ⟨a, b, c, e, f, g, rfl, hx.1, hx.2, w1, w2, w3, w4, w5, w6⟩
end
end Go.Proofs.Ytpdaigenffecmaa
