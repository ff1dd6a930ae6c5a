/-
  The statement SpanSums: its code answers true. Layer 2's arguments: read, opened and shut. Words for small contracts by the executor. Plain: the small operations of intervals: lesser and greater, hull and common part, what an interval tells. Package span's small functions, run by the executor.
-/
import Derived.Test.YtpdaigenffecmaaDoorM21
import Derived.Test.YtpdaigenffecmaaDoorM22
set_option linter.all false
namespace Go.Proofs.YtpdaigenffecmaaDoor
open Go.RowKit

def yYsL : List Ent := [
  ⟨13, [.v (.agg (dr 4))], .v (SR [10, 11])⟩,
  ⟨13, [.v (.agg (dr 7))], .v (SR [12, 13])⟩,
  ⟨64, [.v (.agg (dr 4))], .v (SR [14, 15])⟩,
  ⟨64, [.v (.agg (dr 7))], .v (SR [16, 17])⟩,
  ⟨24, [SV [0, 1], SV [2, 3]], SE [18, 19] 20⟩,
  ⟨25, [SV [0, 1], SV [2, 3]], SE [18, 19] 20⟩,
  ⟨26, [SV [0, 1], SV [2, 3]], SE [21, 22] 23⟩,
  ⟨27, [SV [0, 1], SV [2, 3]], SE [21, 22] 23⟩,
  ⟨28, [SV [0, 1]], SE [24, 25] 26⟩,
  ⟨29, [SV [0, 1]], SE [24, 25] 26⟩,
  ⟨24, [SV [10, 11], SV [12, 13]], SE [27, 28] 29⟩,
  ⟨25, [SV [10, 11], SV [12, 13]], SE [27, 28] 29⟩,
  ⟨26, [SV [10, 11], SV [12, 13]], SE [30, 31] 32⟩,
  ⟨27, [SV [10, 11], SV [12, 13]], SE [30, 31] 32⟩,
  ⟨28, [SV [10, 11]], SE [33, 34] 35⟩,
  ⟨29, [SV [10, 11]], SE [33, 34] 35⟩,
  ⟨24, [SV [14, 15], SV [16, 17]], SE [36, 37] 38⟩,
  ⟨25, [SV [14, 15], SV [16, 17]], SE [36, 37] 38⟩,
  ⟨26, [SV [14, 15], SV [16, 17]], SE [39, 40] 41⟩,
  ⟨27, [SV [14, 15], SV [16, 17]], SE [39, 40] 41⟩,
  ⟨28, [SV [14, 15]], SE [42, 43] 44⟩,
  ⟨29, [SV [14, 15]], SE [42, 43] 44⟩,
  ⟨24, [SV [10, 11], SV [16, 17]], SE [45, 46] 47⟩,
  ⟨25, [SV [10, 11], SV [16, 17]], SE [45, 46] 47⟩,
  ⟨26, [SV [10, 11], SV [16, 17]], SE [48, 49] 50⟩,
  ⟨27, [SV [10, 11], SV [16, 17]], SE [48, 49] 50⟩,
  ⟨24, [SV [0, 1], SV [12, 13]], SE [51, 52] 53⟩,
  ⟨25, [SV [0, 1], SV [12, 13]], SE [51, 52] 53⟩,
  ⟨26, [SV [0, 1], SV [12, 13]], SE [54, 55] 56⟩,
  ⟨27, [SV [0, 1], SV [12, 13]], SE [54, 55] 56⟩]
def yYsF : Facts := { cmp := [], ar := [], cv := [], mm := [] }
def yYsA : List AV := [.v (.agg ((rg 0 4).map S1 ++ dr 4 ++ dr 7))]

set_option maxRecDepth 100000 in
theorem yYs_run : runM Tryd.prog (tab Tryd.prog yYsF [(23, 2)] (wkE :: yYsL) []) 6 pwM 4 yYsA = some (.v (.one (.bool true))) := by kernel_rfl

set_option maxRecDepth 100000 in
set_option maxHeartbeats 4000000 in
theorem c_lawSpanSums (a0 a1 b0 b1 d0 d1 d2 e0 e1 e2 : Int) (hd1 : 0 ≤ d1 ∧ d1 ≤ 255) (hd2 : 0 ≤ d2 ∧ d2 ≤ 4294967295) (he1 : 0 ≤ e1 ∧ e1 ≤ 255) (he2 : 0 ≤ e2 ∧ e2 ≤ 4294967295) (w : World) (hp : Pow10 w) :
    Calls Tryd.prog 4 #[.agg #[.int .i64 a0, .int .i64 a1, .int .i64 b0, .int .i64 b1, .int .i64 d0, .int .u8 d1, .int .u32 d2, .int .i64 e0, .int .u8 e1, .int .u32 e2]] w fun e w' => e = .returned (.bool true) ∧ Below w.heap.size w w' := by
  obtain ⟨ρ, hρ⟩ : ∃ ρ, ρ = ρL [a0, a1, b0, b1, d0, d1, d2, e0, e1, e2, (dLo 52 d0 d1), (dHi d0 d1 d2), (dLo 52 e0 e1), (dHi e0 e1 e2), (dLo 37 d0 d1), (dHs d0 d1 d2), (dLo 37 e0 e1), (dHs e0 e1 e2), (spAdd (a0, a1) (b0, b1)).1, (spAdd (a0, a1) (b0, b1)).2.1, (spAdd (a0, a1) (b0, b1)).2.2, (spSub (a0, a1) (b0, b1)).1, (spSub (a0, a1) (b0, b1)).2.1, (spSub (a0, a1) (b0, b1)).2.2, (spNeg (a0, a1)).1, (spNeg (a0, a1)).2.1, (spNeg (a0, a1)).2.2, (spAdd ((dLo 52 d0 d1), (dHi d0 d1 d2)) ((dLo 52 e0 e1), (dHi e0 e1 e2))).1, (spAdd ((dLo 52 d0 d1), (dHi d0 d1 d2)) ((dLo 52 e0 e1), (dHi e0 e1 e2))).2.1, (spAdd ((dLo 52 d0 d1), (dHi d0 d1 d2)) ((dLo 52 e0 e1), (dHi e0 e1 e2))).2.2, (spSub ((dLo 52 d0 d1), (dHi d0 d1 d2)) ((dLo 52 e0 e1), (dHi e0 e1 e2))).1, (spSub ((dLo 52 d0 d1), (dHi d0 d1 d2)) ((dLo 52 e0 e1), (dHi e0 e1 e2))).2.1, (spSub ((dLo 52 d0 d1), (dHi d0 d1 d2)) ((dLo 52 e0 e1), (dHi e0 e1 e2))).2.2, (spNeg ((dLo 52 d0 d1), (dHi d0 d1 d2))).1, (spNeg ((dLo 52 d0 d1), (dHi d0 d1 d2))).2.1, (spNeg ((dLo 52 d0 d1), (dHi d0 d1 d2))).2.2, (spAdd ((dLo 37 d0 d1), (dHs d0 d1 d2)) ((dLo 37 e0 e1), (dHs e0 e1 e2))).1, (spAdd ((dLo 37 d0 d1), (dHs d0 d1 d2)) ((dLo 37 e0 e1), (dHs e0 e1 e2))).2.1, (spAdd ((dLo 37 d0 d1), (dHs d0 d1 d2)) ((dLo 37 e0 e1), (dHs e0 e1 e2))).2.2, (spSub ((dLo 37 d0 d1), (dHs d0 d1 d2)) ((dLo 37 e0 e1), (dHs e0 e1 e2))).1, (spSub ((dLo 37 d0 d1), (dHs d0 d1 d2)) ((dLo 37 e0 e1), (dHs e0 e1 e2))).2.1, (spSub ((dLo 37 d0 d1), (dHs d0 d1 d2)) ((dLo 37 e0 e1), (dHs e0 e1 e2))).2.2, (spNeg ((dLo 37 d0 d1), (dHs d0 d1 d2))).1, (spNeg ((dLo 37 d0 d1), (dHs d0 d1 d2))).2.1, (spNeg ((dLo 37 d0 d1), (dHs d0 d1 d2))).2.2, (spAdd ((dLo 52 d0 d1), (dHi d0 d1 d2)) ((dLo 37 e0 e1), (dHs e0 e1 e2))).1, (spAdd ((dLo 52 d0 d1), (dHi d0 d1 d2)) ((dLo 37 e0 e1), (dHs e0 e1 e2))).2.1, (spAdd ((dLo 52 d0 d1), (dHi d0 d1 d2)) ((dLo 37 e0 e1), (dHs e0 e1 e2))).2.2, (spSub ((dLo 52 d0 d1), (dHi d0 d1 d2)) ((dLo 37 e0 e1), (dHs e0 e1 e2))).1, (spSub ((dLo 52 d0 d1), (dHi d0 d1 d2)) ((dLo 37 e0 e1), (dHs e0 e1 e2))).2.1, (spSub ((dLo 52 d0 d1), (dHi d0 d1 d2)) ((dLo 37 e0 e1), (dHs e0 e1 e2))).2.2, (spAdd (a0, a1) ((dLo 52 e0 e1), (dHi e0 e1 e2))).1, (spAdd (a0, a1) ((dLo 52 e0 e1), (dHi e0 e1 e2))).2.1, (spAdd (a0, a1) ((dLo 52 e0 e1), (dHi e0 e1 e2))).2.2, (spSub (a0, a1) ((dLo 52 e0 e1), (dHi e0 e1 e2))).1, (spSub (a0, a1) ((dLo 52 e0 e1), (dHi e0 e1 e2))).2.1, (spSub (a0, a1) ((dLo 52 e0 e1), (dHi e0 e1 e2))).2.2] := ⟨_, rfl⟩
  have hL : ∀ e ∈ yYsL, EntOk Tryd.prog ρ e := by
    intro e he
    simp only [yYsL, List.mem_cons, List.not_mem_nil, or_false] at he
    rcases he with rfl | rfl | rfl | rfl | rfl | rfl | rfl | rfl | rfl | rfl | rfl | rfl | rfl | rfl | rfl | rfl | rfl | rfl | rfl | rfl | rfl | rfl | rfl | rfl | rfl | rfl | rfl | rfl | rfl | rfl
    · rw [hρ]; exact fun s w => c_dspanD d0 d1 d2 hd1 hd2 w
    · rw [hρ]; exact fun s w => c_dspanD e0 e1 e2 he1 he2 w
    · rw [hρ]; exact fun s w => c_dsmallD d0 d1 d2 hd1 hd2 w
    · rw [hρ]; exact fun s w => c_dsmallD e0 e1 e2 he1 he2 w
    · rw [hρ]; exact fun s w => c_spanAdd a0 a1 b0 b1 w
    · rw [hρ]; exact fun s w => c_sAdd a0 a1 b0 b1 w
    · rw [hρ]; exact fun s w => c_spanSub a0 a1 b0 b1 w
    · rw [hρ]; exact fun s w => c_sSub a0 a1 b0 b1 w
    · rw [hρ]; exact fun s w => c_spanNeg a0 a1 w
    · rw [hρ]; exact fun s w => c_sNeg a0 a1 w
    · rw [hρ]; exact fun s w => c_spanAdd (dLo 52 d0 d1) (dHi d0 d1 d2) (dLo 52 e0 e1) (dHi e0 e1 e2) w
    · rw [hρ]; exact fun s w => c_sAdd (dLo 52 d0 d1) (dHi d0 d1 d2) (dLo 52 e0 e1) (dHi e0 e1 e2) w
    · rw [hρ]; exact fun s w => c_spanSub (dLo 52 d0 d1) (dHi d0 d1 d2) (dLo 52 e0 e1) (dHi e0 e1 e2) w
    · rw [hρ]; exact fun s w => c_sSub (dLo 52 d0 d1) (dHi d0 d1 d2) (dLo 52 e0 e1) (dHi e0 e1 e2) w
    · rw [hρ]; exact fun s w => c_spanNeg (dLo 52 d0 d1) (dHi d0 d1 d2) w
    · rw [hρ]; exact fun s w => c_sNeg (dLo 52 d0 d1) (dHi d0 d1 d2) w
    · rw [hρ]; exact fun s w => c_spanAdd (dLo 37 d0 d1) (dHs d0 d1 d2) (dLo 37 e0 e1) (dHs e0 e1 e2) w
    · rw [hρ]; exact fun s w => c_sAdd (dLo 37 d0 d1) (dHs d0 d1 d2) (dLo 37 e0 e1) (dHs e0 e1 e2) w
    · rw [hρ]; exact fun s w => c_spanSub (dLo 37 d0 d1) (dHs d0 d1 d2) (dLo 37 e0 e1) (dHs e0 e1 e2) w
    · rw [hρ]; exact fun s w => c_sSub (dLo 37 d0 d1) (dHs d0 d1 d2) (dLo 37 e0 e1) (dHs e0 e1 e2) w
    · rw [hρ]; exact fun s w => c_spanNeg (dLo 37 d0 d1) (dHs d0 d1 d2) w
    · rw [hρ]; exact fun s w => c_sNeg (dLo 37 d0 d1) (dHs d0 d1 d2) w
    · rw [hρ]; exact fun s w => c_spanAdd (dLo 52 d0 d1) (dHi d0 d1 d2) (dLo 37 e0 e1) (dHs e0 e1 e2) w
    · rw [hρ]; exact fun s w => c_sAdd (dLo 52 d0 d1) (dHi d0 d1 d2) (dLo 37 e0 e1) (dHs e0 e1 e2) w
    · rw [hρ]; exact fun s w => c_spanSub (dLo 52 d0 d1) (dHi d0 d1 d2) (dLo 37 e0 e1) (dHs e0 e1 e2) w
    · rw [hρ]; exact fun s w => c_sSub (dLo 52 d0 d1) (dHi d0 d1 d2) (dLo 37 e0 e1) (dHs e0 e1 e2) w
    · rw [hρ]; exact fun s w => c_spanAdd a0 a1 (dLo 52 e0 e1) (dHi e0 e1 e2) w
    · rw [hρ]; exact fun s w => c_sAdd a0 a1 (dLo 52 e0 e1) (dHi e0 e1 e2) w
    · rw [hρ]; exact fun s w => c_spanSub a0 a1 (dLo 52 e0 e1) (dHi e0 e1 e2) w
    · rw [hρ]; exact fun s w => c_sSub a0 a1 (dLo 52 e0 e1) (dHi e0 e1 e2) w
  have hF : FactsOk ρ yYsF := by
    refine ⟨?_, ?_, ?_, ?_⟩
    · simp [yYsF]
    · simp [yYsF]
    · simp [yYsF]
    · simp [yYsF]
  have h := calls_runM yYs_run hF (by intro e he; simp only [List.mem_cons, List.not_mem_nil, or_false] at he; subst he; exact eqOk_span) (by intro e he; rcases List.mem_cons.1 he with rfl | he; exact wkE_ok _ hp; exact fun s w _ => hL e he s w) (by simp) rfl (pw_rel ρ hp)
  rw [hρ] at h
  refine (show Calls Tryd.prog 4 #[.agg #[.int .i64 a0, .int .i64 a1, .int .i64 b0, .int .i64 b1, .int .i64 d0, .int .u8 d1, .int .u32 d2, .int .i64 e0, .int .u8 e1, .int .u32 e2]] w _ from h).mono ?_
  rintro e w' ⟨⟨s, he⟩, hb⟩
  exact ⟨he, hb⟩

end Go.Proofs.YtpdaigenffecmaaDoor

namespace Go.Proofs.YtpdaigenffecmaaDoor
open Go Go.RowKit Go.ChangeShapes Go.WideShapes Go.Joins Go.Deep

theorem Tryd.cellsTwo : Tryd.prog.cellsOf 40 = 10 := by kernel_rfl
theorem Tryd.cellsSpan : Tryd.prog.cellsOf 23 = 2 := by kernel_rfl
theorem Tryd.cellsDraft : Tryd.prog.cellsOf 26 = 3 := by kernel_rfl
theorem Tryd.cellsInt : Tryd.prog.cellsOf 3 = 1 := by kernel_rfl
theorem Tryd.cellsU8 : Tryd.prog.cellsOf 5 = 1 := by kernel_rfl
theorem Tryd.cellsU32 : Tryd.prog.cellsOf 24 = 1 := by kernel_rfl
theorem Tryd.cellsU64 : Tryd.prog.cellsOf 48 = 1 := by kernel_rfl
theorem Tryd.cellsPlaces : Tryd.prog.cellsOf 50 = 2 := by kernel_rfl
def dSpan {H : Type} (a b : Int) : DataW H := .agg [.lit (.int .i64 a), .lit (.int .i64 b)]
def dDraft {H : Type} (a b c : Int) : DataW H := .agg [.lit (.int .i64 a), .lit (.int .u8 b), .lit (.int .u32 c)]
def I64 (a : Int) : Prop := (Lit.int .i64 a).wf = true
def U8 (a : Int) : Prop := (Lit.int .u8 a).wf = true
def U32 (a : Int) : Prop := (Lit.int .u32 a).wf = true
def U64 (a : Int) : Prop := (Lit.int .u64 a).wf = true
theorem U8.bounds {a : Int} (h : U8 a) : 0 ≤ a ∧ a ≤ 255 := bounds_u8 h
theorem U32.bounds {a : Int} (h : U32 a) : 0 ≤ a ∧ a ≤ 4294967295 := bounds_u32 h
theorem I64.bounds {a : Int} (h : I64 a) : -9223372036854775808 ≤ a ∧ a ≤ 9223372036854775807 := bounds_i64 h
theorem U64.bounds {a : Int} (h : U64 a) : 0 ≤ a ∧ a ≤ 18446744073709551615 := bounds_u64 h
def dPlaces {H : Type} (a b : Int) : DataW H := .agg [.lit (.int .u64 a), .lit (.int .u64 b)]

section
variable {H : Type} {enc : TypeId × Value → H} {w : World} {base : Nat} {spare : Nat → Bool} {held : Bool}
theorem m_span (n : Nat) {a b : Int} (ha : I64 a) (hb : I64 b) : DataW.trod enc Tryd.prog w base spare held (n + 2) 23 [.int .i64 a, .int .i64 b] = some (dSpan a b, []) := by
  have h0 : (Lit.int .i64 a).wf = true := ha
  have h1 : (Lit.int .i64 b).wf = true := hb
  exact trod_struct2_mk (y0 := (.lit (.int .i64 a), [])) (y1 := (.lit (.int .i64 b), [])) Tryd.underlying23 (by rw [Tryd.cellsSpan]; rfl) (by simp only [Tryd.cellsInt, Tryd.cellsU8, Tryd.cellsU32, Tryd.cellsDraft]; exact trod_int_mk n Tryd.underlying3 h0) (by simp only [Tryd.cellsInt, Tryd.cellsU8, Tryd.cellsU32, Tryd.cellsDraft]; exact trod_int_mk n Tryd.underlying3 h1)
theorem m_draft (n : Nat) {a b c : Int} (ha : I64 a) (hb : U8 b) (hc : U32 c) : DataW.trod enc Tryd.prog w base spare held (n + 2) 26 [.int .i64 a, .int .u8 b, .int .u32 c] = some (dDraft a b c, []) := by
  have h0 : (Lit.int .i64 a).wf = true := ha
  have h1 : (Lit.int .u8 b).wf = true := hb
  have h2 : (Lit.int .u32 c).wf = true := hc
  exact trod_struct3_mk (y0 := (.lit (.int .i64 a), [])) (y1 := (.lit (.int .u8 b), [])) (y2 := (.lit (.int .u32 c), [])) Tryd.underlying26 (by rw [Tryd.cellsDraft]; rfl) (by simp only [Tryd.cellsInt, Tryd.cellsU8, Tryd.cellsU32, Tryd.cellsDraft]; exact trod_int_mk n Tryd.underlying3 h0) (by simp only [Tryd.cellsInt, Tryd.cellsU8, Tryd.cellsU32, Tryd.cellsDraft]; exact trod_int_mk n Tryd.underlying5 h1) (by simp only [Tryd.cellsInt, Tryd.cellsU8, Tryd.cellsU32, Tryd.cellsDraft]; exact trod_int_mk n Tryd.underlying24 h2)
theorem o_span {fuel : Nat} {u v : Value} {x : DataW H × List MemPlace} (h : DataW.trod enc Tryd.prog w base spare held fuel 23 [u, v] = some x) : ∃ a b, u = .int .i64 a ∧ v = .int .i64 b ∧ x = (dSpan a b, []) ∧ I64 a ∧ I64 b := by
  obtain ⟨y0, y1, n, hx, _, h0, h1⟩ := trod_struct2 Tryd.underlying23 h
  obtain ⟨a, e0, rfl, wa⟩ := DataW.trod_int Tryd.underlying3 h0
  obtain ⟨b, e1, rfl, wb⟩ := DataW.trod_int Tryd.underlying3 h1
  simp [Tryd.cellsInt] at e0 e1
  exact ⟨a, b, e0, e1, hx, wa, wb⟩
theorem o_draft {fuel : Nat} {u v z : Value} {x : DataW H × List MemPlace} (h : DataW.trod enc Tryd.prog w base spare held fuel 26 [u, v, z] = some x) : ∃ a b c, u = .int .i64 a ∧ v = .int .u8 b ∧ z = .int .u32 c ∧ x = (dDraft a b c, []) ∧ I64 a ∧ U8 b ∧ U32 c := by
  obtain ⟨y0, y1, y2, n, hx, _, h0, h1, h2⟩ := trod_struct3 Tryd.underlying26 h
  obtain ⟨a, e0, rfl, wa⟩ := DataW.trod_int Tryd.underlying3 h0
  obtain ⟨b, e1, rfl, wb⟩ := DataW.trod_int Tryd.underlying5 h1
  obtain ⟨c, e2, rfl, wc⟩ := DataW.trod_int Tryd.underlying24 h2
  simp [Tryd.cellsInt, Tryd.cellsU8, Tryd.cellsU32] at e0 e1 e2
  exact ⟨a, b, c, e0, e1, e2, hx, wa, wb, wc⟩

set_option maxRecDepth 100000 in
theorem m_two {a0 a1 b0 b1 d0 d1 d2 e0 e1 e2 : Int} (w_a0 : I64 a0) (w_a1 : I64 a1) (w_b0 : I64 b0) (w_b1 : I64 b1) (w_d0 : I64 d0) (w_d1 : U8 d1) (w_d2 : U32 d2) (w_e0 : I64 e0) (w_e1 : U8 e1) (w_e2 : U32 e2) : DataW.Trod enc Tryd.prog w base spare held 40 (.agg #[.int .i64 a0, .int .i64 a1, .int .i64 b0, .int .i64 b1, .int .i64 d0, .int .u8 d1, .int .u32 d2, .int .i64 e0, .int .u8 e1, .int .u32 e2]) (.agg [dSpan a0 a1, dSpan b0 b1, dDraft d0 d1 d2, dDraft e0 e1 e2]) [] :=
  ⟨4, trod_struct4_mk (y0 := (dSpan a0 a1, [])) (y1 := (dSpan b0 b1, [])) (y2 := (dDraft d0 d1 d2, [])) (y3 := (dDraft e0 e1 e2, [])) Tryd.underlying40 (by rw [Tryd.cellsTwo]; rfl)
    (by simp only [Tryd.cellsSpan]; exact m_span 1 w_a0 w_a1) (by simp only [Tryd.cellsSpan]; exact m_span 1 w_b0 w_b1) (by simp only [Tryd.cellsSpan, Tryd.cellsDraft]; exact m_draft 1 w_d0 w_d1 w_d2) (by simp only [Tryd.cellsSpan, Tryd.cellsDraft]; exact m_draft 1 w_e0 w_e1 w_e2)⟩
theorem list10 {l : List Value} (h : l.length = 10) : ∃ c0 c1 c2 c3 c4 c5 c6 c7 c8 c9, l = [c0, c1, c2, c3, c4, c5, c6, c7, c8, c9] := by
  match l, h with
  | [c0, c1, c2, c3, c4, c5, c6, c7, c8, c9], _ => exact ⟨c0, c1, c2, c3, c4, c5, c6, c7, c8, c9, rfl⟩
set_option maxRecDepth 100000 in
theorem o_two {r : Reach} {b0 : Nat} {v : Value} {d : DataW H} {p : List MemPlace} (hv : Value.okWide Tryd.prog w r b0 40 v) (h : DataW.Trod enc Tryd.prog w base spare held 40 v d p) :
    ∃ a0 a1 b0 b1 d0 d1 d2 e0 e1 e2, v = .agg #[.int .i64 a0, .int .i64 a1, .int .i64 b0, .int .i64 b1, .int .i64 d0, .int .u8 d1, .int .u32 d2, .int .i64 e0, .int .u8 e1, .int .u32 e2] ∧ d = .agg [dSpan a0 a1, dSpan b0 b1, dDraft d0 d1 d2, dDraft e0 e1 e2] ∧ p = [] ∧ I64 a0 ∧ I64 a1 ∧ I64 b0 ∧ I64 b1 ∧ I64 d0 ∧ U8 d1 ∧ U32 d2 ∧ I64 e0 ∧ U8 e1 ∧ U32 e2 := by
  obtain ⟨cs, rfl, hsz⟩ := okWide_struct Tryd.underlying40 hv
  obtain ⟨l⟩ := cs
  obtain ⟨c0, c1, c2, c3, c4, c5, c6, c7, c8, c9, rfl⟩ := list10 (show l.length = 10 by rw [Tryd.cellsTwo] at hsz; simpa using hsz)
  obtain ⟨fuel, hf⟩ := h
  obtain ⟨y0, y1, y2, y3, n, hx, _, h0, h1, h2, h3⟩ := trod_struct4 Tryd.underlying40 hf
  simp only [Tryd.cellsSpan, Tryd.cellsDraft] at h0 h1 h2 h3
  obtain ⟨a0, a1, rfl, rfl, rfl, wa0, wa1⟩ := o_span (by simpa [Value.cells] using h0)
  obtain ⟨b0, b1, rfl, rfl, rfl, wb0, wb1⟩ := o_span (by simpa [Value.cells] using h1)
  obtain ⟨d0, d1, d2, rfl, rfl, rfl, rfl, wd0, wd1, wd2⟩ := o_draft (by simpa [Value.cells] using h2)
  obtain ⟨e0, e1, e2, rfl, rfl, rfl, rfl, we0, we1, we2⟩ := o_draft (by simpa [Value.cells] using h3)
  simp only [Prod.mk.injEq] at hx
  exact ⟨a0, a1, b0, b1, d0, d1, d2, e0, e1, e2, rfl, hx.1, by simpa using hx.2, wa0, wa1, wb0, wb1, wd0, wd1, wd2, we0, we1, we2⟩
set_option maxRecDepth 100000 in
theorem os_span {r : Reach} {b0 : Nat} {v : Value} {d : DataW H} {p : List MemPlace} (hv : Value.okWide Tryd.prog w r b0 23 v) (h : DataW.Trod enc Tryd.prog w base spare held 23 v d p) :
    ∃ a b, v = .agg #[.int .i64 a, .int .i64 b] ∧ d = dSpan a b ∧ p = [] ∧ I64 a ∧ I64 b := by
  obtain ⟨cs, rfl, hsz⟩ := okWide_struct Tryd.underlying23 hv
  obtain ⟨u0, u1, rfl⟩ := array2 (hsz.trans Tryd.cellsSpan)
  obtain ⟨fuel, hf⟩ := h
  obtain ⟨a, b, rfl, rfl, hx, wa, wb⟩ := o_span (by simpa [Value.cells] using hf)
  simp only [Prod.mk.injEq] at hx
  exact ⟨a, b, rfl, hx.1, hx.2, wa, wb⟩
theorem ms_span {a b : Int} (ha : I64 a) (hb : I64 b) : DataW.Trod enc Tryd.prog w base spare held 23 (.agg #[.int .i64 a, .int .i64 b]) (dSpan a b) [] := ⟨2, m_span 0 ha hb⟩
set_option maxRecDepth 100000 in
theorem os_draft {r : Reach} {b0 : Nat} {v : Value} {d : DataW H} {p : List MemPlace} (hv : Value.okWide Tryd.prog w r b0 26 v) (h : DataW.Trod enc Tryd.prog w base spare held 26 v d p) :
    ∃ a b c, v = .agg #[.int .i64 a, .int .u8 b, .int .u32 c] ∧ d = dDraft a b c ∧ p = [] ∧ I64 a ∧ U8 b ∧ U32 c := by
  obtain ⟨cs, rfl, hsz⟩ := okWide_struct Tryd.underlying26 hv
  obtain ⟨u0, u1, u2, rfl⟩ := array3 (hsz.trans Tryd.cellsDraft)
  obtain ⟨fuel, hf⟩ := h
  obtain ⟨a, b, c, rfl, rfl, rfl, hx, wa, wb, wc⟩ := o_draft (by simpa [Value.cells] using hf)
  simp only [Prod.mk.injEq] at hx
  exact ⟨a, b, c, rfl, hx.1, hx.2, wa, wb, wc⟩
theorem ms_draft {a b c : Int} (ha : I64 a) (hb : U8 b) (hc : U32 c) : DataW.Trod enc Tryd.prog w base spare held 26 (.agg #[.int .i64 a, .int .u8 b, .int .u32 c]) (dDraft a b c) [] := ⟨2, m_draft 0 ha hb hc⟩
end

end Go.Proofs.YtpdaigenffecmaaDoor

namespace Go.Proofs.YtpdaigenffecmaaDoor
open Go.RowKit

theorem wI {x : Int} (h1 : -9223372036854775808 ≤ x) (h2 : x ≤ 9223372036854775807) : IntKind.i64.wrap x = x := IntWalk.i64_in x ⟨h1, h2⟩
theorem wI0 {x : Int} (h1 : -9223372036854775807 ≤ x) (h2 : x ≤ 9223372036854775807) : IntKind.i64.wrap (0 - x) = -x := by rw [wI (by omega) (by omega)]; omega
theorem ar_shr1 (x : Int) : ArOk .shr .i64 x .u64 1 (x / 2) := by
  intro P t w
  show (Op.shift .shr .i64 x .u64 1).run P w = _
  unfold Op.shift
  rw [if_neg (by decide)]
  show Result.ok (Value.int .i64 (x.fdiv (2 ^ (min (1 : Int).toNat IntKind.i64.bits)))) w = _
  have e : x.fdiv (2 ^ (min (1 : Int).toNat IntKind.i64.bits)) = x / 2 := by
    rw [show (2 : Int) ^ (min (1 : Int).toNat IntKind.i64.bits) = 2 from by decide]
    exact Int.fdiv_eq_ediv_of_nonneg x (by decide)
  rw [e]
theorem ar_rem2 (x : Int) : ArOk .rem .i64 x .i64 2 (x.tmod 2) := by
  intro P t w
  show (Op.intDiv .rem .i64 x 2).run P w = _
  unfold Op.intDiv
  rw [if_neg (by decide)]; rfl
theorem ar_rem (x : Int) {y : Int} {k : IntKind} (hy : y ≠ 0) : ArOk .rem k x k y (x.tmod y) := by
  intro P t w
  unfold binOp
  simp only [ne_eq, not_true_eq_false, if_false]
  show (Op.intDiv .rem k x y).run P w = _
  unfold Op.intDiv
  rw [if_neg hy]; rfl
theorem ar_quo2 {x r : Int} (h : IntKind.i64.wrap (x.tdiv 2) = r) : ArOk .quo .i64 x .i64 2 r := by
  intro P t w
  show (Op.intDiv .quo .i64 x 2).run P w = _
  unfold Op.intDiv
  rw [if_neg (by decide), ← h]; rfl
theorem beq_dec (x : Int) : (x == 0) = decide (x = 0) := by rw [Bool.eq_iff_iff]; simp
theorem bne_dec (x : Int) : (x != 0) = decide (x ≠ 0) := by rw [Bool.eq_iff_iff]; simp
theorem mid_div (n : Int) : (if n < 0 ∧ n.tmod 2 ≠ 0 then (n - 1).tdiv 2 else n.tdiv 2) = n / 2 := by
  rcases Int.lt_or_le n 0 with h | h
  · obtain ⟨m, rfl⟩ : ∃ m, n = -m := ⟨-n, by omega⟩
    have e1 : (-m).tdiv 2 = -(m / 2) := by rw [Int.neg_tdiv, Int.tdiv_eq_ediv_of_nonneg (by omega)]
    have e2 : (-m).tmod 2 = -(m % 2) := by rw [Int.neg_tmod, Int.tmod_eq_emod_of_nonneg (by omega)]
    have e3 : (-m - 1).tdiv 2 = -((m + 1) / 2) := by rw [show -m - 1 = -(m + 1) by omega, Int.neg_tdiv, Int.tdiv_eq_ediv_of_nonneg (by omega)]
    rw [e1, e2, e3]
    split <;> omega
  · rw [if_neg (by omega), Int.tdiv_eq_ediv_of_nonneg h]
theorem mid_quo {al ah : Int} {vn vo : Bool} (hn : vn = decide (al + ah < 0)) (ho : vo = decide ((al + ah).tmod 2 ≠ 0)) (h1 : -9223372036854775807 ≤ al + ah) (h2 : al + ah ≤ 9223372036854775807) :
    ArOk .quo .i64 (γI (ρL [al, ah, al + ah, (al + ah) / 2, (al + ah).tmod 2, al + ah - 1]) (if vn && vo then .sym 5 else .sym 2)) .i64 2 ((al + ah) / 2) := by
  have h := mid_div (al + ah)
  by_cases q : al + ah < 0 ∧ (al + ah).tmod 2 ≠ 0
  · rw [if_pos q] at h
    have e : (vn && vo) = true := by rw [hn, ho, decide_eq_true q.1, decide_eq_true q.2]; rfl
    rw [e]
    refine ar_quo2 (x := al + ah - 1) ?_
    rw [h]
    exact wI (by omega) (by omega)
  · rw [if_neg q] at h
    have e : (vn && vo) = false := by
      rw [hn, ho]
      by_cases q1 : al + ah < 0
      · rw [decide_eq_false (fun q2 => q ⟨q1, q2⟩)]; simp
      · rw [decide_eq_false q1]; rfl
    rw [e]
    refine ar_quo2 (x := al + ah) ?_
    rw [h]
    exact wI (by omega) (by omega)

end Go.Proofs.YtpdaigenffecmaaDoor

namespace Go.Proofs.YtpdaigenffecmaaDoor

def spMin (a b : Int × Int) : Int × Int × Int := if spAll a b = 0 then (min a.1 b.1, min a.2 b.2, 0) else (0, 0, 20)
def spMax (a b : Int × Int) : Int × Int × Int := if spAll a b = 0 then (max a.1 b.1, max a.2 b.2, 0) else (0, 0, 20)
def spHull (a b : Int × Int) : Int × Int × Int := if spAll a b = 0 then (min a.1 b.1, max a.2 b.2, 0) else (0, 0, 20)
def spMeet (a b : Int × Int) : Int × Int × Int :=
  if spAll a b = 0 then (if min a.2 b.2 < max a.1 b.1 then (0, 0, 4) else (max a.1 b.1, min a.2 b.2, 0)) else (0, 0, 20)
def spHas (a : Int × Int) (v : Int) : Bool × Int := if spChk a = 0 then (decide (a.1 ≤ v) && decide (v ≤ a.2), 0) else (false, 20)
def spMid (a : Int × Int) : Int × Int := if spChk a = 0 then ((a.1 + a.2) / 2, 0) else (0, 20)
def spWidth (a : Int × Int) : Int × Int := if spChk a = 0 then (a.2 - a.1, 0) else (0, 20)
def spSign (a : Int × Int) : Int × Int :=
  if spChk a = 0 then (if 0 < a.1 then (1, 0) else if a.2 < 0 then (-1, 0) else if a.1 = 0 ∧ a.2 = 0 then (0, 0) else (2, 0)) else (0, 20)
theorem spAll_eq {a b : Int × Int} (ha : spChk a = 0) (hb : spChk b = 0) : spAll a b = 0 := by unfold spAll; rw [if_pos ha, hb]
theorem spAll_ne {a b : Int × Int} (h : spChk a ≠ 0 ∨ spChk b ≠ 0) : ¬ spAll a b = 0 := fun e => by
  have := spAll_ok e; rcases h with h | h <;> omega
theorem spAbs_is {a : Int × Int} (h : spChk a = 0) : spAbs a = (max (max a.1 (-a.2)) 0, max a.2 (-a.1), 0) := by
  obtain ⟨h1, h2, h3⟩ := spChk_ok h
  unfold spAbs spTold; rw [if_pos h, if_neg (by omega)]

end Go.Proofs.YtpdaigenffecmaaDoor

namespace Go.Proofs.YtpdaigenffecmaaDoor
open Go.RowKit


/-! ### span.Min -/
def pMinL (va vb : Bool) : List Ent := [⟨18, [SV [0, 1]], N1 (if va then 0 else 20)⟩, ⟨18, [SV [2, 3]], N1 (if vb then 0 else 20)⟩]
def pMinF (va vb : Bool) : Facts := if va && vb then { cmp := [(.lss, .sym 4, .lit (-4503599627370496), false), (.gtr, .sym 5, .lit (4503599627370496), false)], ar := [], mm := [(false, .sym 0, .sym 2, .sym 4), (false, .sym 1, .sym 3, .sym 5)] } else {}
theorem pMin_run (va vb : Bool) : runA Tryd.prog (tab Tryd.prog (pMinF va vb) [(23, 2)] (pMinL va vb) []) 4 38 [SV [0, 1], SV [2, 3]] = some (if va && vb then SE0 [4, 5] else RE [0, 0] 20) := by
  cases va <;> cases vb <;> kernel_rfl
theorem c_spanMin (al ah bl bh : Int) (w : World) :
    Calls Tryd.prog 38 #[.agg #[.int .i64 al, .int .i64 ah], .agg #[.int .i64 bl, .int .i64 bh]] w fun e w' => e = .returned (.tuple #[.agg #[.int .i64 (spMin (al, ah) (bl, bh)).1, .int .i64 (spMin (al, ah) (bl, bh)).2.1], .int .i64 (spMin (al, ah) (bl, bh)).2.2]) ∧ Below w.heap.size w w' := by
  obtain ⟨va, hva⟩ : ∃ b, b = decide (spChk (al, ah) = 0) := ⟨_, rfl⟩
  obtain ⟨vb, hvb⟩ : ∃ b, b = decide (spChk (bl, bh) = 0) := ⟨_, rfl⟩
  obtain ⟨ρ, hρ⟩ : ∃ ρ, ρ = ρL [al, ah, bl, bh, (min al bl), (min ah bh)] := ⟨_, rfl⟩
  have hL : ∀ e ∈ pMinL va vb, EntOk Tryd.prog ρ e := by
    intro e he
    simp only [pMinL, List.mem_cons, List.not_mem_nil, or_false] at he
    rcases he with rfl | rfl
    · rw [hρ]; intro s w; have h := c_spanCheck al ah w; rw [show spChk (al, ah) = if va then 0 else 20 from by rcases spChk_or (al, ah) with q | q <;> rw [hva, q] <;> rfl] at h; exact h
    · rw [hρ]; intro s w; have h := c_spanCheck bl bh w; rw [show spChk (bl, bh) = if vb then 0 else 20 from by rcases spChk_or (bl, bh) with q | q <;> rw [hvb, q] <;> rfl] at h; exact h
  have hF : FactsOk ρ (pMinF va vb) := by
    unfold pMinF
    split
    · rename_i hg
      simp only [Bool.and_eq_true] at hg
      obtain ⟨ga, gb⟩ := hg
      rw [hva] at ga; rw [hvb] at gb
      obtain ⟨a1, a2, a3⟩ := spChk_ok (of_decide_eq_true ga); obtain ⟨b1, b2, b3⟩ := spChk_ok (of_decide_eq_true gb)
      simp only at a1 a2 a3 b1 b2 b3
      refine ⟨?_, ?_, ?_, ?_⟩
      · intro e he
        simp only [List.mem_cons, List.not_mem_nil, or_false] at he
        rcases he with rfl | rfl
        · rw [hρ]; exact congrArg some (decide_eq_false (show ¬ ((min al bl) < -4503599627370496) by omega))
        · rw [hρ]; exact congrArg some (decide_eq_false (show ¬ ((min ah bh) > 4503599627370496) by omega))
      · simp
      · simp
      · intro e he
        simp only [List.mem_cons, List.not_mem_nil, or_false] at he
        rcases he with rfl | rfl
        · rw [hρ]; rfl
        · rw [hρ]; rfl
    · exact ⟨by simp, by simp, by simp, by simp⟩
  have h := calls_run (pMin_run va vb) hF (by intro e he; simp only [List.mem_cons, List.not_mem_nil, or_false] at he; subst he; exact eqOk_span) hL (by simp) rfl w
  rw [hρ] at h
  refine (show Calls Tryd.prog 38 #[.agg #[.int .i64 al, .int .i64 ah], .agg #[.int .i64 bl, .int .i64 bh]] w _ from h).mono ?_
  rintro e w' ⟨⟨s, rfl⟩, hb⟩
  refine ⟨?_, hb⟩
  by_cases qa : spChk (al, ah) = 0
  · by_cases qb : spChk (bl, bh) = 0
    · have ea : va = true := by rw [hva]; exact decide_eq_true qa
      have eb : vb = true := by rw [hvb]; exact decide_eq_true qb
      subst ea; subst eb
      rw [show spMin (al, ah) (bl, bh) = (min al bl, min ah bh, 0) from by unfold spMin; rw [if_pos (spAll_eq qa qb)]]
      rfl
    · have eb : vb = false := by rw [hvb]; exact decide_eq_false qb
      subst eb
      rw [show spMin (al, ah) (bl, bh) = (0, 0, 20) from by unfold spMin; rw [if_neg (spAll_ne (.inr qb))]]
      cases va <;> rfl
  · have ea : va = false := by rw [hva]; exact decide_eq_false qa
    subst ea
    rw [show spMin (al, ah) (bl, bh) = (0, 0, 20) from by unfold spMin; rw [if_neg (spAll_ne (.inl qa))]]
    rfl

/-! ### span.Max -/
def pMaxL (va vb : Bool) : List Ent := [⟨18, [SV [0, 1]], N1 (if va then 0 else 20)⟩, ⟨18, [SV [2, 3]], N1 (if vb then 0 else 20)⟩]
def pMaxF (va vb : Bool) : Facts := if va && vb then { cmp := [(.lss, .sym 4, .lit (-4503599627370496), false), (.gtr, .sym 5, .lit (4503599627370496), false)], ar := [], mm := [(true, .sym 0, .sym 2, .sym 4), (true, .sym 1, .sym 3, .sym 5)] } else {}
theorem pMax_run (va vb : Bool) : runA Tryd.prog (tab Tryd.prog (pMaxF va vb) [(23, 2)] (pMaxL va vb) []) 4 40 [SV [0, 1], SV [2, 3]] = some (if va && vb then SE0 [4, 5] else RE [0, 0] 20) := by
  cases va <;> cases vb <;> kernel_rfl
theorem c_spanMax (al ah bl bh : Int) (w : World) :
    Calls Tryd.prog 40 #[.agg #[.int .i64 al, .int .i64 ah], .agg #[.int .i64 bl, .int .i64 bh]] w fun e w' => e = .returned (.tuple #[.agg #[.int .i64 (spMax (al, ah) (bl, bh)).1, .int .i64 (spMax (al, ah) (bl, bh)).2.1], .int .i64 (spMax (al, ah) (bl, bh)).2.2]) ∧ Below w.heap.size w w' := by
  obtain ⟨va, hva⟩ : ∃ b, b = decide (spChk (al, ah) = 0) := ⟨_, rfl⟩
  obtain ⟨vb, hvb⟩ : ∃ b, b = decide (spChk (bl, bh) = 0) := ⟨_, rfl⟩
  obtain ⟨ρ, hρ⟩ : ∃ ρ, ρ = ρL [al, ah, bl, bh, (max al bl), (max ah bh)] := ⟨_, rfl⟩
  have hL : ∀ e ∈ pMaxL va vb, EntOk Tryd.prog ρ e := by
    intro e he
    simp only [pMaxL, List.mem_cons, List.not_mem_nil, or_false] at he
    rcases he with rfl | rfl
    · rw [hρ]; intro s w; have h := c_spanCheck al ah w; rw [show spChk (al, ah) = if va then 0 else 20 from by rcases spChk_or (al, ah) with q | q <;> rw [hva, q] <;> rfl] at h; exact h
    · rw [hρ]; intro s w; have h := c_spanCheck bl bh w; rw [show spChk (bl, bh) = if vb then 0 else 20 from by rcases spChk_or (bl, bh) with q | q <;> rw [hvb, q] <;> rfl] at h; exact h
  have hF : FactsOk ρ (pMaxF va vb) := by
    unfold pMaxF
    split
    · rename_i hg
      simp only [Bool.and_eq_true] at hg
      obtain ⟨ga, gb⟩ := hg
      rw [hva] at ga; rw [hvb] at gb
      obtain ⟨a1, a2, a3⟩ := spChk_ok (of_decide_eq_true ga); obtain ⟨b1, b2, b3⟩ := spChk_ok (of_decide_eq_true gb)
      simp only at a1 a2 a3 b1 b2 b3
      refine ⟨?_, ?_, ?_, ?_⟩
      · intro e he
        simp only [List.mem_cons, List.not_mem_nil, or_false] at he
        rcases he with rfl | rfl
        · rw [hρ]; exact congrArg some (decide_eq_false (show ¬ ((max al bl) < -4503599627370496) by omega))
        · rw [hρ]; exact congrArg some (decide_eq_false (show ¬ ((max ah bh) > 4503599627370496) by omega))
      · simp
      · simp
      · intro e he
        simp only [List.mem_cons, List.not_mem_nil, or_false] at he
        rcases he with rfl | rfl
        · rw [hρ]; rfl
        · rw [hρ]; rfl
    · exact ⟨by simp, by simp, by simp, by simp⟩
  have h := calls_run (pMax_run va vb) hF (by intro e he; simp only [List.mem_cons, List.not_mem_nil, or_false] at he; subst he; exact eqOk_span) hL (by simp) rfl w
  rw [hρ] at h
  refine (show Calls Tryd.prog 40 #[.agg #[.int .i64 al, .int .i64 ah], .agg #[.int .i64 bl, .int .i64 bh]] w _ from h).mono ?_
  rintro e w' ⟨⟨s, rfl⟩, hb⟩
  refine ⟨?_, hb⟩
  by_cases qa : spChk (al, ah) = 0
  · by_cases qb : spChk (bl, bh) = 0
    · have ea : va = true := by rw [hva]; exact decide_eq_true qa
      have eb : vb = true := by rw [hvb]; exact decide_eq_true qb
      subst ea; subst eb
      rw [show spMax (al, ah) (bl, bh) = (max al bl, max ah bh, 0) from by unfold spMax; rw [if_pos (spAll_eq qa qb)]]
      rfl
    · have eb : vb = false := by rw [hvb]; exact decide_eq_false qb
      subst eb
      rw [show spMax (al, ah) (bl, bh) = (0, 0, 20) from by unfold spMax; rw [if_neg (spAll_ne (.inr qb))]]
      cases va <;> rfl
  · have ea : va = false := by rw [hva]; exact decide_eq_false qa
    subst ea
    rw [show spMax (al, ah) (bl, bh) = (0, 0, 20) from by unfold spMax; rw [if_neg (spAll_ne (.inl qa))]]
    rfl

/-! ### span.Hull -/
def pHullL (va vb : Bool) : List Ent := [⟨18, [SV [0, 1]], N1 (if va then 0 else 20)⟩, ⟨18, [SV [2, 3]], N1 (if vb then 0 else 20)⟩]
def pHullF (va vb : Bool) : Facts := if va && vb then { cmp := [(.lss, .sym 4, .lit (-4503599627370496), false), (.gtr, .sym 5, .lit (4503599627370496), false)], ar := [], mm := [(false, .sym 0, .sym 2, .sym 4), (true, .sym 1, .sym 3, .sym 5)] } else {}
theorem pHull_run (va vb : Bool) : runA Tryd.prog (tab Tryd.prog (pHullF va vb) [(23, 2)] (pHullL va vb) []) 4 42 [SV [0, 1], SV [2, 3]] = some (if va && vb then SE0 [4, 5] else RE [0, 0] 20) := by
  cases va <;> cases vb <;> kernel_rfl
theorem c_spanHull (al ah bl bh : Int) (w : World) :
    Calls Tryd.prog 42 #[.agg #[.int .i64 al, .int .i64 ah], .agg #[.int .i64 bl, .int .i64 bh]] w fun e w' => e = .returned (.tuple #[.agg #[.int .i64 (spHull (al, ah) (bl, bh)).1, .int .i64 (spHull (al, ah) (bl, bh)).2.1], .int .i64 (spHull (al, ah) (bl, bh)).2.2]) ∧ Below w.heap.size w w' := by
  obtain ⟨va, hva⟩ : ∃ b, b = decide (spChk (al, ah) = 0) := ⟨_, rfl⟩
  obtain ⟨vb, hvb⟩ : ∃ b, b = decide (spChk (bl, bh) = 0) := ⟨_, rfl⟩
  obtain ⟨ρ, hρ⟩ : ∃ ρ, ρ = ρL [al, ah, bl, bh, (min al bl), (max ah bh)] := ⟨_, rfl⟩
  have hL : ∀ e ∈ pHullL va vb, EntOk Tryd.prog ρ e := by
    intro e he
    simp only [pHullL, List.mem_cons, List.not_mem_nil, or_false] at he
    rcases he with rfl | rfl
    · rw [hρ]; intro s w; have h := c_spanCheck al ah w; rw [show spChk (al, ah) = if va then 0 else 20 from by rcases spChk_or (al, ah) with q | q <;> rw [hva, q] <;> rfl] at h; exact h
    · rw [hρ]; intro s w; have h := c_spanCheck bl bh w; rw [show spChk (bl, bh) = if vb then 0 else 20 from by rcases spChk_or (bl, bh) with q | q <;> rw [hvb, q] <;> rfl] at h; exact h
  have hF : FactsOk ρ (pHullF va vb) := by
    unfold pHullF
    split
    · rename_i hg
      simp only [Bool.and_eq_true] at hg
      obtain ⟨ga, gb⟩ := hg
      rw [hva] at ga; rw [hvb] at gb
      obtain ⟨a1, a2, a3⟩ := spChk_ok (of_decide_eq_true ga); obtain ⟨b1, b2, b3⟩ := spChk_ok (of_decide_eq_true gb)
      simp only at a1 a2 a3 b1 b2 b3
      refine ⟨?_, ?_, ?_, ?_⟩
      · intro e he
        simp only [List.mem_cons, List.not_mem_nil, or_false] at he
        rcases he with rfl | rfl
        · rw [hρ]; exact congrArg some (decide_eq_false (show ¬ ((min al bl) < -4503599627370496) by omega))
        · rw [hρ]; exact congrArg some (decide_eq_false (show ¬ ((max ah bh) > 4503599627370496) by omega))
      · simp
      · simp
      · intro e he
        simp only [List.mem_cons, List.not_mem_nil, or_false] at he
        rcases he with rfl | rfl
        · rw [hρ]; rfl
        · rw [hρ]; rfl
    · exact ⟨by simp, by simp, by simp, by simp⟩
  have h := calls_run (pHull_run va vb) hF (by intro e he; simp only [List.mem_cons, List.not_mem_nil, or_false] at he; subst he; exact eqOk_span) hL (by simp) rfl w
  rw [hρ] at h
  refine (show Calls Tryd.prog 42 #[.agg #[.int .i64 al, .int .i64 ah], .agg #[.int .i64 bl, .int .i64 bh]] w _ from h).mono ?_
  rintro e w' ⟨⟨s, rfl⟩, hb⟩
  refine ⟨?_, hb⟩
  by_cases qa : spChk (al, ah) = 0
  · by_cases qb : spChk (bl, bh) = 0
    · have ea : va = true := by rw [hva]; exact decide_eq_true qa
      have eb : vb = true := by rw [hvb]; exact decide_eq_true qb
      subst ea; subst eb
      rw [show spHull (al, ah) (bl, bh) = (min al bl, max ah bh, 0) from by unfold spHull; rw [if_pos (spAll_eq qa qb)]]
      rfl
    · have eb : vb = false := by rw [hvb]; exact decide_eq_false qb
      subst eb
      rw [show spHull (al, ah) (bl, bh) = (0, 0, 20) from by unfold spHull; rw [if_neg (spAll_ne (.inr qb))]]
      cases va <;> rfl
  · have ea : va = false := by rw [hva]; exact decide_eq_false qa
    subst ea
    rw [show spHull (al, ah) (bl, bh) = (0, 0, 20) from by unfold spHull; rw [if_neg (spAll_ne (.inl qa))]]
    rfl

/-! ### span.Meet -/
def pMeetL (va vb vn : Bool) : List Ent := [⟨18, [SV [0, 1]], N1 (if va then 0 else 20)⟩, ⟨18, [SV [2, 3]], N1 (if vb then 0 else 20)⟩]
def pMeetF (va vb vn : Bool) : Facts := if va && vb then { cmp := [(.gtr, .sym 4, .sym 5, vn), (.lss, .sym 4, .lit (-4503599627370496), false), (.gtr, .sym 5, .lit (4503599627370496), false)], ar := [], mm := [(true, .sym 0, .sym 2, .sym 4), (false, .sym 1, .sym 3, .sym 5)] } else {}
theorem pMeet_run (va vb vn : Bool) : runA Tryd.prog (tab Tryd.prog (pMeetF va vb vn) [(23, 2)] (pMeetL va vb vn) []) 4 44 [SV [0, 1], SV [2, 3]] = some (if va && vb then (if vn then RE [0, 0] 4 else SE0 [4, 5]) else RE [0, 0] 20) := by
  cases va <;> cases vb <;> cases vn <;> kernel_rfl
theorem c_spanMeet (al ah bl bh : Int) (w : World) :
    Calls Tryd.prog 44 #[.agg #[.int .i64 al, .int .i64 ah], .agg #[.int .i64 bl, .int .i64 bh]] w fun e w' => e = .returned (.tuple #[.agg #[.int .i64 (spMeet (al, ah) (bl, bh)).1, .int .i64 (spMeet (al, ah) (bl, bh)).2.1], .int .i64 (spMeet (al, ah) (bl, bh)).2.2]) ∧ Below w.heap.size w w' := by
  obtain ⟨va, hva⟩ : ∃ b, b = decide (spChk (al, ah) = 0) := ⟨_, rfl⟩
  obtain ⟨vb, hvb⟩ : ∃ b, b = decide (spChk (bl, bh) = 0) := ⟨_, rfl⟩
  obtain ⟨vn, hvn⟩ : ∃ b, b = decide (max al bl > min ah bh) := ⟨_, rfl⟩
  obtain ⟨ρ, hρ⟩ : ∃ ρ, ρ = ρL [al, ah, bl, bh, (max al bl), (min ah bh)] := ⟨_, rfl⟩
  have hL : ∀ e ∈ pMeetL va vb vn, EntOk Tryd.prog ρ e := by
    intro e he
    simp only [pMeetL, List.mem_cons, List.not_mem_nil, or_false] at he
    rcases he with rfl | rfl
    · rw [hρ]; intro s w; have h := c_spanCheck al ah w; rw [show spChk (al, ah) = if va then 0 else 20 from by rcases spChk_or (al, ah) with q | q <;> rw [hva, q] <;> rfl] at h; exact h
    · rw [hρ]; intro s w; have h := c_spanCheck bl bh w; rw [show spChk (bl, bh) = if vb then 0 else 20 from by rcases spChk_or (bl, bh) with q | q <;> rw [hvb, q] <;> rfl] at h; exact h
  have hF : FactsOk ρ (pMeetF va vb vn) := by
    unfold pMeetF
    split
    · rename_i hg
      simp only [Bool.and_eq_true] at hg
      obtain ⟨ga, gb⟩ := hg
      rw [hva] at ga; rw [hvb] at gb
      obtain ⟨a1, a2, a3⟩ := spChk_ok (of_decide_eq_true ga); obtain ⟨b1, b2, b3⟩ := spChk_ok (of_decide_eq_true gb)
      simp only at a1 a2 a3 b1 b2 b3
      refine ⟨?_, ?_, ?_, ?_⟩
      · intro e he
        simp only [List.mem_cons, List.not_mem_nil, or_false] at he
        rcases he with rfl | rfl | rfl
        · rw [hρ]; rw [hvn]; rfl
        · rw [hρ]; exact congrArg some (decide_eq_false (show ¬ ((max al bl) < -4503599627370496) by omega))
        · rw [hρ]; exact congrArg some (decide_eq_false (show ¬ ((min ah bh) > 4503599627370496) by omega))
      · simp
      · simp
      · intro e he
        simp only [List.mem_cons, List.not_mem_nil, or_false] at he
        rcases he with rfl | rfl
        · rw [hρ]; rfl
        · rw [hρ]; rfl
    · exact ⟨by simp, by simp, by simp, by simp⟩
  have h := calls_run (pMeet_run va vb vn) hF (by intro e he; simp only [List.mem_cons, List.not_mem_nil, or_false] at he; subst he; exact eqOk_span) hL (by simp) rfl w
  rw [hρ] at h
  refine (show Calls Tryd.prog 44 #[.agg #[.int .i64 al, .int .i64 ah], .agg #[.int .i64 bl, .int .i64 bh]] w _ from h).mono ?_
  rintro e w' ⟨⟨s, rfl⟩, hb⟩
  refine ⟨?_, hb⟩
  by_cases qa : spChk (al, ah) = 0
  · by_cases qb : spChk (bl, bh) = 0
    · have ea : va = true := by rw [hva]; exact decide_eq_true qa
      have eb : vb = true := by rw [hvb]; exact decide_eq_true qb
      subst ea; subst eb
      rw [show spMeet (al, ah) (bl, bh) = if min ah bh < max al bl then (0, 0, 4) else (max al bl, min ah bh, 0) from by unfold spMeet; rw [if_pos (spAll_eq qa qb)]]
      by_cases qn : min ah bh < max al bl
      · have en : vn = true := by rw [hvn]; exact decide_eq_true qn
        subst en; rw [if_pos qn]; rfl
      · have en : vn = false := by rw [hvn]; exact decide_eq_false qn
        subst en; rw [if_neg qn]; rfl
    · have eb : vb = false := by rw [hvb]; exact decide_eq_false qb
      subst eb
      rw [show spMeet (al, ah) (bl, bh) = (0, 0, 20) from by unfold spMeet; rw [if_neg (spAll_ne (.inr qb))]]
      cases va <;> cases vn <;> rfl
  · have ea : va = false := by rw [hva]; exact decide_eq_false qa
    subst ea
    rw [show spMeet (al, ah) (bl, bh) = (0, 0, 20) from by unfold spMeet; rw [if_neg (spAll_ne (.inl qa))]]
    cases vb <;> cases vn <;> rfl

/-! ### span.Has -/
def pHasL (va vl vu : Bool) : List Ent := [⟨18, [SV [0, 1]], N1 (if va then 0 else 20)⟩]
def pHasF (va vl vu : Bool) : Facts := if va then { cmp := [(.leq, .sym 0, .sym 2, vl), (.leq, .sym 2, .sym 1, vu)], ar := [], mm := [] } else {}
theorem pHas_run (va vl vu : Bool) : runA Tryd.prog (tab Tryd.prog (pHasF va vl vu) [(23, 2)] (pHasL va vl vu) []) 4 49 [SV [0, 1], .v (.one (S1 2))] = some (.tup [.one (.bool (va && (vl && vu))), .one (.int .i64 (.lit (if va then 0 else 20)))]) := by
  cases va <;> cases vl <;> cases vu <;> kernel_rfl
theorem c_spanHas (al ah v : Int) (w : World) :
    Calls Tryd.prog 49 #[.agg #[.int .i64 al, .int .i64 ah], .int .i64 v] w fun e w' => e = .returned (.tuple #[.bool (spHas (al, ah) v).1, .int .i64 (spHas (al, ah) v).2]) ∧ Below w.heap.size w w' := by
  obtain ⟨va, hva⟩ : ∃ b, b = decide (spChk (al, ah) = 0) := ⟨_, rfl⟩
  obtain ⟨vl, hvl⟩ : ∃ b, b = decide (al ≤ v) := ⟨_, rfl⟩
  obtain ⟨vu, hvu⟩ : ∃ b, b = decide (v ≤ ah) := ⟨_, rfl⟩
  obtain ⟨ρ, hρ⟩ : ∃ ρ, ρ = ρL [al, ah, v] := ⟨_, rfl⟩
  have hL : ∀ e ∈ pHasL va vl vu, EntOk Tryd.prog ρ e := by
    intro e he
    simp only [pHasL, List.mem_cons, List.not_mem_nil, or_false] at he
    rcases he with rfl
    · rw [hρ]; intro s w; have h := c_spanCheck al ah w; rw [show spChk (al, ah) = if va then 0 else 20 from by rcases spChk_or (al, ah) with q | q <;> rw [hva, q] <;> rfl] at h; exact h
  have hF : FactsOk ρ (pHasF va vl vu) := by
    unfold pHasF
    split
    · rename_i hg
      rw [hva] at hg
      obtain ⟨a1, a2, a3⟩ := spChk_ok (of_decide_eq_true hg)
      simp only at a1 a2 a3
      refine ⟨?_, ?_, ?_, ?_⟩
      · intro e he
        simp only [List.mem_cons, List.not_mem_nil, or_false] at he
        rcases he with rfl | rfl
        · rw [hρ]; rw [hvl]; rfl
        · rw [hρ]; rw [hvu]; rfl
      · simp
      · simp
      · simp
    · exact ⟨by simp, by simp, by simp, by simp⟩
  have h := calls_run (pHas_run va vl vu) hF (by intro e he; simp only [List.mem_cons, List.not_mem_nil, or_false] at he; subst he; exact eqOk_span) hL (by simp) rfl w
  rw [hρ] at h
  refine (show Calls Tryd.prog 49 #[.agg #[.int .i64 al, .int .i64 ah], .int .i64 v] w _ from h).mono ?_
  rintro e w' ⟨⟨s, rfl⟩, hb⟩
  refine ⟨?_, hb⟩
  by_cases qa : spChk (al, ah) = 0
  · have ea : va = true := by rw [hva]; exact decide_eq_true qa
    subst ea
    rw [show spHas (al, ah) v = (decide (al ≤ v) && decide (v ≤ ah), 0) from by unfold spHas; rw [if_pos qa]]
    rw [← hvl, ← hvu]; rfl
  · have ea : va = false := by rw [hva]; exact decide_eq_false qa
    subst ea
    rw [show spHas (al, ah) v = (false, 20) from by unfold spHas; rw [if_neg qa]]
    rfl

/-! ### span.Width -/
def pWidthL (va : Bool) : List Ent := [⟨18, [SV [0, 1]], N1 (if va then 0 else 20)⟩]
def pWidthF (va : Bool) : Facts := if va then { cmp := [], ar := [(.sub, .i64, .sym 1, .i64, .sym 0, .sym 2)], mm := [] } else {}
theorem pWidth_run (va : Bool) : runA Tryd.prog (tab Tryd.prog (pWidthF va) [(23, 2)] (pWidthL va) []) 4 53 [SV [0, 1]] = some (if va then .tup [.one (S1 2), .one (.int .i64 (.lit 0))] else .tup [.one (.int .i64 (.lit 0)), .one (.int .i64 (.lit 20))]) := by
  cases va <;> kernel_rfl
theorem c_spanWidth (al ah : Int) (w : World) :
    Calls Tryd.prog 53 #[.agg #[.int .i64 al, .int .i64 ah]] w fun e w' => e = .returned (.tuple #[.int .i64 (spWidth (al, ah)).1, .int .i64 (spWidth (al, ah)).2]) ∧ Below w.heap.size w w' := by
  obtain ⟨va, hva⟩ : ∃ b, b = decide (spChk (al, ah) = 0) := ⟨_, rfl⟩
  obtain ⟨ρ, hρ⟩ : ∃ ρ, ρ = ρL [al, ah, (ah - al)] := ⟨_, rfl⟩
  have hL : ∀ e ∈ pWidthL va, EntOk Tryd.prog ρ e := by
    intro e he
    simp only [pWidthL, List.mem_cons, List.not_mem_nil, or_false] at he
    rcases he with rfl
    · rw [hρ]; intro s w; have h := c_spanCheck al ah w; rw [show spChk (al, ah) = if va then 0 else 20 from by rcases spChk_or (al, ah) with q | q <;> rw [hva, q] <;> rfl] at h; exact h
  have hF : FactsOk ρ (pWidthF va) := by
    unfold pWidthF
    split
    · rename_i hg
      rw [hva] at hg
      obtain ⟨a1, a2, a3⟩ := spChk_ok (of_decide_eq_true hg)
      simp only at a1 a2 a3
      refine ⟨?_, ?_, ?_, ?_⟩
      · simp
      · intro e he
        simp only [List.mem_cons, List.not_mem_nil, or_false] at he
        rcases he with rfl
        · rw [hρ]; exact (ar_sub (wI (by omega) (by omega)) : ArOk .sub .i64 ah .i64 al (ah - al))
      · simp
      · simp
    · exact ⟨by simp, by simp, by simp, by simp⟩
  have h := calls_run (pWidth_run va) hF (by intro e he; simp only [List.mem_cons, List.not_mem_nil, or_false] at he; subst he; exact eqOk_span) hL (by simp) rfl w
  rw [hρ] at h
  refine (show Calls Tryd.prog 53 #[.agg #[.int .i64 al, .int .i64 ah]] w _ from h).mono ?_
  rintro e w' ⟨⟨s, rfl⟩, hb⟩
  refine ⟨?_, hb⟩
  by_cases qa : spChk (al, ah) = 0
  · have ea : va = true := by rw [hva]; exact decide_eq_true qa
    subst ea
    rw [show spWidth (al, ah) = (ah - al, 0) from by unfold spWidth; rw [if_pos qa]]
    rfl
  · have ea : va = false := by rw [hva]; exact decide_eq_false qa
    subst ea
    rw [show spWidth (al, ah) = (0, 20) from by unfold spWidth; rw [if_neg qa]]
    rfl

/-! ### span.Mid -/
def pMidL (va : Bool) : List Ent := [⟨18, [SV [0, 1]], N1 (if va then 0 else 20)⟩]
def pMidF (va : Bool) : Facts := if va then { cmp := [], ar := [(.add, .i64, .sym 0, .i64, .sym 1, .sym 2), (.shr, .i64, .sym 2, .u64, .lit 1, .sym 3)], mm := [] } else {}
theorem pMid_run (va : Bool) : runA Tryd.prog (tab Tryd.prog (pMidF va) [(23, 2)] (pMidL va) []) 4 51 [SV [0, 1]] = some (if va then .tup [.one (S1 3), .one (.int .i64 (.lit 0))] else .tup [.one (.int .i64 (.lit 0)), .one (.int .i64 (.lit 20))]) := by
  cases va <;> kernel_rfl
theorem c_spanMid (al ah : Int) (w : World) :
    Calls Tryd.prog 51 #[.agg #[.int .i64 al, .int .i64 ah]] w fun e w' => e = .returned (.tuple #[.int .i64 (spMid (al, ah)).1, .int .i64 (spMid (al, ah)).2]) ∧ Below w.heap.size w w' := by
  obtain ⟨va, hva⟩ : ∃ b, b = decide (spChk (al, ah) = 0) := ⟨_, rfl⟩
  obtain ⟨ρ, hρ⟩ : ∃ ρ, ρ = ρL [al, ah, (al + ah), ((al + ah) / 2)] := ⟨_, rfl⟩
  have hL : ∀ e ∈ pMidL va, EntOk Tryd.prog ρ e := by
    intro e he
    simp only [pMidL, List.mem_cons, List.not_mem_nil, or_false] at he
    rcases he with rfl
    · rw [hρ]; intro s w; have h := c_spanCheck al ah w; rw [show spChk (al, ah) = if va then 0 else 20 from by rcases spChk_or (al, ah) with q | q <;> rw [hva, q] <;> rfl] at h; exact h
  have hF : FactsOk ρ (pMidF va) := by
    unfold pMidF
    split
    · rename_i hg
      rw [hva] at hg
      obtain ⟨a1, a2, a3⟩ := spChk_ok (of_decide_eq_true hg)
      simp only at a1 a2 a3
      refine ⟨?_, ?_, ?_, ?_⟩
      · simp
      · intro e he
        simp only [List.mem_cons, List.not_mem_nil, or_false] at he
        rcases he with rfl | rfl
        · rw [hρ]; exact (ar_add (wI (by omega) (by omega)) : ArOk .add .i64 al .i64 ah (al + ah))
        · rw [hρ]; exact ar_shr1 _
      · simp
      · simp
    · exact ⟨by simp, by simp, by simp, by simp⟩
  have h := calls_run (pMid_run va) hF (by intro e he; simp only [List.mem_cons, List.not_mem_nil, or_false] at he; subst he; exact eqOk_span) hL (by simp) rfl w
  rw [hρ] at h
  refine (show Calls Tryd.prog 51 #[.agg #[.int .i64 al, .int .i64 ah]] w _ from h).mono ?_
  rintro e w' ⟨⟨s, rfl⟩, hb⟩
  refine ⟨?_, hb⟩
  by_cases qa : spChk (al, ah) = 0
  · have ea : va = true := by rw [hva]; exact decide_eq_true qa
    subst ea
    rw [show spMid (al, ah) = ((al + ah) / 2, 0) from by unfold spMid; rw [if_pos qa]]
    rfl
  · have ea : va = false := by rw [hva]; exact decide_eq_false qa
    subst ea
    rw [show spMid (al, ah) = (0, 20) from by unfold spMid; rw [if_neg qa]]
    rfl

/-! ### span.Sign -/
def pSignL (va vp vn vz vy : Bool) : List Ent := [⟨18, [SV [0, 1]], N1 (if va then 0 else 20)⟩]
def pSignF (va vp vn vz vy : Bool) : Facts := if va then { cmp := [(.gtr, .sym 0, .lit 0, vp), (.lss, .sym 1, .lit 0, vn), (.eql, .sym 0, .lit 0, vz), (.eql, .sym 1, .lit 0, vy)], ar := [], mm := [] } else {}
theorem pSign_run (va vp vn vz vy : Bool) : runA Tryd.prog (tab Tryd.prog (pSignF va vp vn vz vy) [(23, 2)] (pSignL va vp vn vz vy) []) 4 55 [SV [0, 1]] = some (if va then (if vp then .tup [.one (.int .i64 (.lit (1))), .one (.int .i64 (.lit 0))] else if vn then .tup [.one (.int .i64 (.lit (-1))), .one (.int .i64 (.lit 0))] else if vz && vy then .tup [.one (.int .i64 (.lit (0))), .one (.int .i64 (.lit 0))] else .tup [.one (.int .i64 (.lit (2))), .one (.int .i64 (.lit 0))]) else .tup [.one (.int .i64 (.lit 0)), .one (.int .i64 (.lit 20))]) := by
  cases va <;> cases vp <;> cases vn <;> cases vz <;> cases vy <;> kernel_rfl
theorem c_spanSign (al ah : Int) (w : World) :
    Calls Tryd.prog 55 #[.agg #[.int .i64 al, .int .i64 ah]] w fun e w' => e = .returned (.tuple #[.int .i64 (spSign (al, ah)).1, .int .i64 (spSign (al, ah)).2]) ∧ Below w.heap.size w w' := by
  obtain ⟨va, hva⟩ : ∃ b, b = decide (spChk (al, ah) = 0) := ⟨_, rfl⟩
  obtain ⟨vp, hvp⟩ : ∃ b, b = decide (al > 0) := ⟨_, rfl⟩
  obtain ⟨vn, hvn⟩ : ∃ b, b = decide (ah < 0) := ⟨_, rfl⟩
  obtain ⟨vz, hvz⟩ : ∃ b, b = decide (al = 0) := ⟨_, rfl⟩
  obtain ⟨vy, hvy⟩ : ∃ b, b = decide (ah = 0) := ⟨_, rfl⟩
  obtain ⟨ρ, hρ⟩ : ∃ ρ, ρ = ρL [al, ah] := ⟨_, rfl⟩
  have hL : ∀ e ∈ pSignL va vp vn vz vy, EntOk Tryd.prog ρ e := by
    intro e he
    simp only [pSignL, List.mem_cons, List.not_mem_nil, or_false] at he
    rcases he with rfl
    · rw [hρ]; intro s w; have h := c_spanCheck al ah w; rw [show spChk (al, ah) = if va then 0 else 20 from by rcases spChk_or (al, ah) with q | q <;> rw [hva, q] <;> rfl] at h; exact h
  have hF : FactsOk ρ (pSignF va vp vn vz vy) := by
    unfold pSignF
    split
    · rename_i hg
      rw [hva] at hg
      obtain ⟨a1, a2, a3⟩ := spChk_ok (of_decide_eq_true hg)
      simp only at a1 a2 a3
      refine ⟨?_, ?_, ?_, ?_⟩
      · intro e he
        simp only [List.mem_cons, List.not_mem_nil, or_false] at he
        rcases he with rfl | rfl | rfl | rfl
        · rw [hρ]; rw [hvp]; rfl
        · rw [hρ]; rw [hvn]; rfl
        · rw [hρ]; rw [hvz]; exact congrArg some (beq_dec _)
        · rw [hρ]; rw [hvy]; exact congrArg some (beq_dec _)
      · simp
      · simp
      · simp
    · exact ⟨by simp, by simp, by simp, by simp⟩
  have h := calls_run (pSign_run va vp vn vz vy) hF (by intro e he; simp only [List.mem_cons, List.not_mem_nil, or_false] at he; subst he; exact eqOk_span) hL (by simp) rfl w
  rw [hρ] at h
  refine (show Calls Tryd.prog 55 #[.agg #[.int .i64 al, .int .i64 ah]] w _ from h).mono ?_
  rintro e w' ⟨⟨s, rfl⟩, hb⟩
  refine ⟨?_, hb⟩
  by_cases qa : spChk (al, ah) = 0
  · have ea : va = true := by rw [hva]; exact decide_eq_true qa
    subst ea
    rw [show spSign (al, ah) = (if 0 < al then (1, 0) else if ah < 0 then (-1, 0) else if al = 0 ∧ ah = 0 then (0, 0) else (2, 0)) from by unfold spSign; rw [if_pos qa]]
    obtain ⟨_, a2, _⟩ := spChk_ok qa
    simp only at a2
    rw [hvp, hvn, hvz, hvy]
    by_cases q1 : 0 < al
    · have e1 : decide (al > 0) = true := decide_eq_true q1
      have e2 : decide (ah < 0) = false := decide_eq_false (by omega)
      rw [if_pos q1, e1, e2]; rfl
    · have e1 : decide (al > 0) = false := decide_eq_false q1
      rw [if_neg q1, e1]
      by_cases q2 : ah < 0
      · have e2 : decide (ah < 0) = true := decide_eq_true q2
        rw [if_pos q2, e2]; rfl
      · have e2 : decide (ah < 0) = false := decide_eq_false q2
        rw [if_neg q2, e2]
        by_cases q3 : al = 0 ∧ ah = 0
        · rw [if_pos q3, decide_eq_true q3.1, decide_eq_true q3.2]; rfl
        · rw [if_neg q3]
          by_cases q4 : al = 0
          · rw [decide_eq_true q4, decide_eq_false (fun h => q3 ⟨q4, h⟩)]; rfl
          · rw [decide_eq_false q4]; rfl
  · have ea : va = false := by rw [hva]; exact decide_eq_false qa
    subst ea
    rw [show spSign (al, ah) = (0, 20) from by unfold spSign; rw [if_neg qa]]
    rfl

end Go.Proofs.YtpdaigenffecmaaDoor
