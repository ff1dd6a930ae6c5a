/-
  The statement SpanRings: its code answers true. Layer 2's arguments: read, opened and shut. Plain: places of an interval; lesser, greater, hull and absolute value within others. Layer 2: 'at'. Layer 2's arguments: places.
-/
import Derived.Test.YtpdaigenffecmaaDoorM32
import Derived.Test.YtpdaigenffecmaaDoorM33
set_option linter.all false
namespace Go.Proofs.YtpdaigenffecmaaDoor
open Go.RowKit

theorem c_lawSpanRings (a0 a1 b0 b1 d0 d1 d2 e0 e1 e2 : Int) (hd1 : 0 ≤ d1 ∧ d1 ≤ 255) (hd2 : 0 ≤ d2 ∧ d2 ≤ 4294967295) (he1 : 0 ≤ e1 ∧ e1 ≤ 255) (he2 : 0 ≤ e2 ∧ e2 ≤ 4294967295) (w : World) (hp : Pow10 w) :
    Calls Tryd.prog 8 #[.agg #[.int .i64 a0, .int .i64 a1, .int .i64 b0, .int .i64 b1, .int .i64 d0, .int .u8 d1, .int .u32 d2, .int .i64 e0, .int .u8 e1, .int .u32 e2]] w fun e w' => e = .returned (.bool true) ∧ Below w.heap.size w w' := by
  by_cases hA : spChk (a0, a1) = 0 <;> by_cases hB : spChk (b0, b1) = 0
  · exact c_lawSpanRingsTT a0 a1 b0 b1 d0 d1 d2 e0 e1 e2 hd1 hd2 he1 he2 hA hB w hp
  · exact c_lawSpanRingsTF a0 a1 b0 b1 d0 d1 d2 e0 e1 e2 hd1 hd2 he1 he2 hA hB w hp
  · exact c_lawSpanRingsFT a0 a1 b0 b1 d0 d1 d2 e0 e1 e2 hd1 hd2 he1 he2 hA hB w hp
  · exact c_lawSpanRingsFF a0 a1 b0 b1 d0 d1 d2 e0 e1 e2 hd1 hd2 he1 he2 hA hB w hp

end Go.Proofs.YtpdaigenffecmaaDoor

namespace Go.Proofs.YtpdaigenffecmaaDoor
open Go Go.RowKit Go.ChangeShapes Go.WideShapes Go.Joins Go.Deep

theorem Tryd.cellsTwo : Tryd.prog.cellsOf 40 = 10 := by kernel_rfl
theorem Tryd.cellsSpan : Tryd.prog.cellsOf 23 = 2 := by kernel_rfl
theorem Tryd.cellsDraft : Tryd.prog.cellsOf 26 = 3 := by kernel_rfl
theorem Tryd.cellsInt : Tryd.prog.cellsOf 3 = 1 := by kernel_rfl
theorem Tryd.cellsU8 : Tryd.prog.cellsOf 5 = 1 := by kernel_rfl
theorem Tryd.cellsU32 : Tryd.prog.cellsOf 24 = 1 := by kernel_rfl
theorem Tryd.cellsU64 : Tryd.prog.cellsOf 48 = 1 := by kernel_rfl
theorem Tryd.cellsPlaces : Tryd.prog.cellsOf 50 = 2 := by kernel_rfl
def dSpan {H : Type} (a b : Int) : DataW H := .agg [.lit (.int .i64 a), .lit (.int .i64 b)]
def dDraft {H : Type} (a b c : Int) : DataW H := .agg [.lit (.int .i64 a), .lit (.int .u8 b), .lit (.int .u32 c)]
def I64 (a : Int) : Prop := (Lit.int .i64 a).wf = true
def U8 (a : Int) : Prop := (Lit.int .u8 a).wf = true
def U32 (a : Int) : Prop := (Lit.int .u32 a).wf = true
def U64 (a : Int) : Prop := (Lit.int .u64 a).wf = true
theorem U8.bounds {a : Int} (h : U8 a) : 0 ≤ a ∧ a ≤ 255 := bounds_u8 h
theorem U32.bounds {a : Int} (h : U32 a) : 0 ≤ a ∧ a ≤ 4294967295 := bounds_u32 h
theorem I64.bounds {a : Int} (h : I64 a) : -9223372036854775808 ≤ a ∧ a ≤ 9223372036854775807 := bounds_i64 h
theorem U64.bounds {a : Int} (h : U64 a) : 0 ≤ a ∧ a ≤ 18446744073709551615 := bounds_u64 h
def dPlaces {H : Type} (a b : Int) : DataW H := .agg [.lit (.int .u64 a), .lit (.int .u64 b)]

section
variable {H : Type} {enc : TypeId × Value → H} {w : World} {base : Nat} {spare : Nat → Bool} {held : Bool}
theorem m_span (n : Nat) {a b : Int} (ha : I64 a) (hb : I64 b) : DataW.trod enc Tryd.prog w base spare held (n + 2) 23 [.int .i64 a, .int .i64 b] = some (dSpan a b, []) := by
  have h0 : (Lit.int .i64 a).wf = true := ha
  have h1 : (Lit.int .i64 b).wf = true := hb
  exact trod_struct2_mk (y0 := (.lit (.int .i64 a), [])) (y1 := (.lit (.int .i64 b), [])) Tryd.underlying23 (by rw [Tryd.cellsSpan]; rfl) (by simp only [Tryd.cellsInt, Tryd.cellsU8, Tryd.cellsU32, Tryd.cellsDraft]; exact trod_int_mk n Tryd.underlying3 h0) (by simp only [Tryd.cellsInt, Tryd.cellsU8, Tryd.cellsU32, Tryd.cellsDraft]; exact trod_int_mk n Tryd.underlying3 h1)
theorem m_draft (n : Nat) {a b c : Int} (ha : I64 a) (hb : U8 b) (hc : U32 c) : DataW.trod enc Tryd.prog w base spare held (n + 2) 26 [.int .i64 a, .int .u8 b, .int .u32 c] = some (dDraft a b c, []) := by
  have h0 : (Lit.int .i64 a).wf = true := ha
  have h1 : (Lit.int .u8 b).wf = true := hb
  have h2 : (Lit.int .u32 c).wf = true := hc
  exact trod_struct3_mk (y0 := (.lit (.int .i64 a), [])) (y1 := (.lit (.int .u8 b), [])) (y2 := (.lit (.int .u32 c), [])) Tryd.underlying26 (by rw [Tryd.cellsDraft]; rfl) (by simp only [Tryd.cellsInt, Tryd.cellsU8, Tryd.cellsU32, Tryd.cellsDraft]; exact trod_int_mk n Tryd.underlying3 h0) (by simp only [Tryd.cellsInt, Tryd.cellsU8, Tryd.cellsU32, Tryd.cellsDraft]; exact trod_int_mk n Tryd.underlying5 h1) (by simp only [Tryd.cellsInt, Tryd.cellsU8, Tryd.cellsU32, Tryd.cellsDraft]; exact trod_int_mk n Tryd.underlying24 h2)
theorem o_span {fuel : Nat} {u v : Value} {x : DataW H × List MemPlace} (h : DataW.trod enc Tryd.prog w base spare held fuel 23 [u, v] = some x) : ∃ a b, u = .int .i64 a ∧ v = .int .i64 b ∧ x = (dSpan a b, []) ∧ I64 a ∧ I64 b := by
  obtain ⟨y0, y1, n, hx, _, h0, h1⟩ := trod_struct2 Tryd.underlying23 h
  obtain ⟨a, e0, rfl, wa⟩ := DataW.trod_int Tryd.underlying3 h0
  obtain ⟨b, e1, rfl, wb⟩ := DataW.trod_int Tryd.underlying3 h1
  simp [Tryd.cellsInt] at e0 e1
  exact ⟨a, b, e0, e1, hx, wa, wb⟩
theorem o_draft {fuel : Nat} {u v z : Value} {x : DataW H × List MemPlace} (h : DataW.trod enc Tryd.prog w base spare held fuel 26 [u, v, z] = some x) : ∃ a b c, u = .int .i64 a ∧ v = .int .u8 b ∧ z = .int .u32 c ∧ x = (dDraft a b c, []) ∧ I64 a ∧ U8 b ∧ U32 c := by
  obtain ⟨y0, y1, y2, n, hx, _, h0, h1, h2⟩ := trod_struct3 Tryd.underlying26 h
  obtain ⟨a, e0, rfl, wa⟩ := DataW.trod_int Tryd.underlying3 h0
  obtain ⟨b, e1, rfl, wb⟩ := DataW.trod_int Tryd.underlying5 h1
  obtain ⟨c, e2, rfl, wc⟩ := DataW.trod_int Tryd.underlying24 h2
  simp [Tryd.cellsInt, Tryd.cellsU8, Tryd.cellsU32] at e0 e1 e2
  exact ⟨a, b, c, e0, e1, e2, hx, wa, wb, wc⟩

set_option maxRecDepth 100000 in
theorem m_two {a0 a1 b0 b1 d0 d1 d2 e0 e1 e2 : Int} (w_a0 : I64 a0) (w_a1 : I64 a1) (w_b0 : I64 b0) (w_b1 : I64 b1) (w_d0 : I64 d0) (w_d1 : U8 d1) (w_d2 : U32 d2) (w_e0 : I64 e0) (w_e1 : U8 e1) (w_e2 : U32 e2) : DataW.Trod enc Tryd.prog w base spare held 40 (.agg #[.int .i64 a0, .int .i64 a1, .int .i64 b0, .int .i64 b1, .int .i64 d0, .int .u8 d1, .int .u32 d2, .int .i64 e0, .int .u8 e1, .int .u32 e2]) (.agg [dSpan a0 a1, dSpan b0 b1, dDraft d0 d1 d2, dDraft e0 e1 e2]) [] :=
  ⟨4, trod_struct4_mk (y0 := (dSpan a0 a1, [])) (y1 := (dSpan b0 b1, [])) (y2 := (dDraft d0 d1 d2, [])) (y3 := (dDraft e0 e1 e2, [])) Tryd.underlying40 (by rw [Tryd.cellsTwo]; rfl)
    (by simp only [Tryd.cellsSpan]; exact m_span 1 w_a0 w_a1) (by simp only [Tryd.cellsSpan]; exact m_span 1 w_b0 w_b1) (by simp only [Tryd.cellsSpan, Tryd.cellsDraft]; exact m_draft 1 w_d0 w_d1 w_d2) (by simp only [Tryd.cellsSpan, Tryd.cellsDraft]; exact m_draft 1 w_e0 w_e1 w_e2)⟩
theorem list10 {l : List Value} (h : l.length = 10) : ∃ c0 c1 c2 c3 c4 c5 c6 c7 c8 c9, l = [c0, c1, c2, c3, c4, c5, c6, c7, c8, c9] := by
  match l, h with
  | [c0, c1, c2, c3, c4, c5, c6, c7, c8, c9], _ => exact ⟨c0, c1, c2, c3, c4, c5, c6, c7, c8, c9, rfl⟩
set_option maxRecDepth 100000 in
theorem o_two {r : Reach} {b0 : Nat} {v : Value} {d : DataW H} {p : List MemPlace} (hv : Value.okWide Tryd.prog w r b0 40 v) (h : DataW.Trod enc Tryd.prog w base spare held 40 v d p) :
    ∃ a0 a1 b0 b1 d0 d1 d2 e0 e1 e2, v = .agg #[.int .i64 a0, .int .i64 a1, .int .i64 b0, .int .i64 b1, .int .i64 d0, .int .u8 d1, .int .u32 d2, .int .i64 e0, .int .u8 e1, .int .u32 e2] ∧ d = .agg [dSpan a0 a1, dSpan b0 b1, dDraft d0 d1 d2, dDraft e0 e1 e2] ∧ p = [] ∧ I64 a0 ∧ I64 a1 ∧ I64 b0 ∧ I64 b1 ∧ I64 d0 ∧ U8 d1 ∧ U32 d2 ∧ I64 e0 ∧ U8 e1 ∧ U32 e2 := by
  obtain ⟨cs, rfl, hsz⟩ := okWide_struct Tryd.underlying40 hv
  obtain ⟨l⟩ := cs
  obtain ⟨c0, c1, c2, c3, c4, c5, c6, c7, c8, c9, rfl⟩ := list10 (show l.length = 10 by rw [Tryd.cellsTwo] at hsz; simpa using hsz)
  obtain ⟨fuel, hf⟩ := h
  obtain ⟨y0, y1, y2, y3, n, hx, _, h0, h1, h2, h3⟩ := trod_struct4 Tryd.underlying40 hf
  simp only [Tryd.cellsSpan, Tryd.cellsDraft] at h0 h1 h2 h3
  obtain ⟨a0, a1, rfl, rfl, rfl, wa0, wa1⟩ := o_span (by simpa [Value.cells] using h0)
  obtain ⟨b0, b1, rfl, rfl, rfl, wb0, wb1⟩ := o_span (by simpa [Value.cells] using h1)
  obtain ⟨d0, d1, d2, rfl, rfl, rfl, rfl, wd0, wd1, wd2⟩ := o_draft (by simpa [Value.cells] using h2)
  obtain ⟨e0, e1, e2, rfl, rfl, rfl, rfl, we0, we1, we2⟩ := o_draft (by simpa [Value.cells] using h3)
  simp only [Prod.mk.injEq] at hx
  exact ⟨a0, a1, b0, b1, d0, d1, d2, e0, e1, e2, rfl, hx.1, by simpa using hx.2, wa0, wa1, wb0, wb1, wd0, wd1, wd2, we0, we1, we2⟩
set_option maxRecDepth 100000 in
theorem os_span {r : Reach} {b0 : Nat} {v : Value} {d : DataW H} {p : List MemPlace} (hv : Value.okWide Tryd.prog w r b0 23 v) (h : DataW.Trod enc Tryd.prog w base spare held 23 v d p) :
    ∃ a b, v = .agg #[.int .i64 a, .int .i64 b] ∧ d = dSpan a b ∧ p = [] ∧ I64 a ∧ I64 b := by
  obtain ⟨cs, rfl, hsz⟩ := okWide_struct Tryd.underlying23 hv
  obtain ⟨u0, u1, rfl⟩ := array2 (hsz.trans Tryd.cellsSpan)
  obtain ⟨fuel, hf⟩ := h
  obtain ⟨a, b, rfl, rfl, hx, wa, wb⟩ := o_span (by simpa [Value.cells] using hf)
  simp only [Prod.mk.injEq] at hx
  exact ⟨a, b, rfl, hx.1, hx.2, wa, wb⟩
theorem ms_span {a b : Int} (ha : I64 a) (hb : I64 b) : DataW.Trod enc Tryd.prog w base spare held 23 (.agg #[.int .i64 a, .int .i64 b]) (dSpan a b) [] := ⟨2, m_span 0 ha hb⟩
set_option maxRecDepth 100000 in
theorem os_draft {r : Reach} {b0 : Nat} {v : Value} {d : DataW H} {p : List MemPlace} (hv : Value.okWide Tryd.prog w r b0 26 v) (h : DataW.Trod enc Tryd.prog w base spare held 26 v d p) :
    ∃ a b c, v = .agg #[.int .i64 a, .int .u8 b, .int .u32 c] ∧ d = dDraft a b c ∧ p = [] ∧ I64 a ∧ U8 b ∧ U32 c := by
  obtain ⟨cs, rfl, hsz⟩ := okWide_struct Tryd.underlying26 hv
  obtain ⟨u0, u1, u2, rfl⟩ := array3 (hsz.trans Tryd.cellsDraft)
  obtain ⟨fuel, hf⟩ := h
  obtain ⟨a, b, c, rfl, rfl, rfl, hx, wa, wb, wc⟩ := o_draft (by simpa [Value.cells] using hf)
  simp only [Prod.mk.injEq] at hx
  exact ⟨a, b, c, rfl, hx.1, hx.2, wa, wb, wc⟩
theorem ms_draft {a b c : Int} (ha : I64 a) (hb : U8 b) (hc : U32 c) : DataW.Trod enc Tryd.prog w base spare held 26 (.agg #[.int .i64 a, .int .u8 b, .int .u32 c]) (dDraft a b c) [] := ⟨2, m_draft 0 ha hb hc⟩
end

end Go.Proofs.YtpdaigenffecmaaDoor

namespace Go.Proofs.YtpdaigenffecmaaDoor

/-- The place n of an interval. -/
def atI (lo hi n : Int) : Int := lo + n.tmod (hi - lo + 1)
theorem atI_in {a : Int × Int} {n : Int} (ha : spChk a = 0) (hn : 0 ≤ n) : a.1 ≤ atI a.1 a.2 n ∧ atI a.1 a.2 n ≤ a.2 := by
  obtain ⟨h1, h2, h3⟩ := spChk_ok ha
  unfold atI
  rw [Int.tmod_eq_emod_of_nonneg hn]
  have e1 := Int.emod_nonneg n (show a.2 - a.1 + 1 ≠ 0 by omega)
  have e2 := Int.emod_lt_of_pos n (show 0 < a.2 - a.1 + 1 by omega)
  omega
theorem two_in {a : Int × Int} {x u : Int} (ha : spChk a = 0) (hx : a.1 ≤ x ∧ x ≤ a.2) (hu : a.1 ≤ u ∧ u ≤ a.2) : spChk (min x u, max x u) = 0 ∧ Wi (min x u, max x u) a := by
  obtain ⟨h1, h2, h3⟩ := spChk_ok ha
  exact ⟨spChk_mk (by simp only; omega) (by simp only; omega) (by simp only; omega), by simp only; omega, by simp only; omega⟩
theorem spMin_narrow {a b c d : Int × Int} (ha : spChk a = 0) (hb : spChk b = 0) (hc : spChk c = 0) (hd : spChk d = 0) (hca : Wi c a) (hdb : Wi d b) (h : (spMin a b).2.2 = 0) :
    (spMin c d).2.2 = 0 ∧ (spMin a b).1 ≤ (spMin c d).1 ∧ (spMin c d).2.1 ≤ (spMin a b).2.1 := by
  unfold spMin; rw [if_pos (spAll_eq ha hb), if_pos (spAll_eq hc hd)]
  obtain ⟨p1, p2⟩ := hca; obtain ⟨q1, q2⟩ := hdb
  exact ⟨rfl, by simp only; omega, by simp only; omega⟩
theorem spMax_narrow {a b c d : Int × Int} (ha : spChk a = 0) (hb : spChk b = 0) (hc : spChk c = 0) (hd : spChk d = 0) (hca : Wi c a) (hdb : Wi d b) (h : (spMax a b).2.2 = 0) :
    (spMax c d).2.2 = 0 ∧ (spMax a b).1 ≤ (spMax c d).1 ∧ (spMax c d).2.1 ≤ (spMax a b).2.1 := by
  unfold spMax; rw [if_pos (spAll_eq ha hb), if_pos (spAll_eq hc hd)]
  obtain ⟨p1, p2⟩ := hca; obtain ⟨q1, q2⟩ := hdb
  exact ⟨rfl, by simp only; omega, by simp only; omega⟩
theorem spHull_narrow {a b c d : Int × Int} (ha : spChk a = 0) (hb : spChk b = 0) (hc : spChk c = 0) (hd : spChk d = 0) (hca : Wi c a) (hdb : Wi d b) (h : (spHull a b).2.2 = 0) :
    (spHull c d).2.2 = 0 ∧ (spHull a b).1 ≤ (spHull c d).1 ∧ (spHull c d).2.1 ≤ (spHull a b).2.1 := by
  unfold spHull; rw [if_pos (spAll_eq ha hb), if_pos (spAll_eq hc hd)]
  obtain ⟨p1, p2⟩ := hca; obtain ⟨q1, q2⟩ := hdb
  exact ⟨rfl, by simp only; omega, by simp only; omega⟩
theorem spAbs_narrow {a c : Int × Int} (ha : spChk a = 0) (hc : spChk c = 0) (hca : Wi c a) (h : (spAbs a).2.2 = 0) :
    (spAbs c).2.2 = 0 ∧ (spAbs a).1 ≤ (spAbs c).1 ∧ (spAbs c).2.1 ≤ (spAbs a).2.1 := by
  rw [spAbs_is ha, spAbs_is hc]
  obtain ⟨p1, p2⟩ := hca
  exact ⟨rfl, by simp only; omega, by simp only; omega⟩
end Go.Proofs.YtpdaigenffecmaaDoor

namespace Go.Proofs.YtpdaigenffecmaaDoor
open Go.RowKit

def yjF : Facts := { ar := [(.sub, .i64, .sym 1, .i64, .sym 0, .sym 3), (.add, .i64, .sym 3, .i64, .lit 1, .sym 4), (.rem, .u64, .sym 2, .u64, .sym 4, .sym 5), (.add, .i64, .sym 0, .i64, .sym 5, .sym 6)], cv := [(.u64, .sym 4, .sym 4), (.i64, .sym 5, .sym 5)] }
def yjA : List AV := [SV [0, 1], .v (.one (.int .u64 (.sym 2)))]
theorem yj_run : runA Tryd.prog (tab Tryd.prog yjF [] [] []) 4 46 yjA = some (.v (.one (S1 6))) := by kernel_rfl
theorem c_placeat (lo hi n : Int) (ha : spChk (lo, hi) = 0) (hn : 0 ≤ n) (w : World) :
    Calls Tryd.prog 46 #[.agg #[.int .i64 lo, .int .i64 hi], .int .u64 n] w fun x w' => x = .returned (.int .i64 (atI lo hi n)) ∧ Below w.heap.size w w' := by
  obtain ⟨h1, h2, h3⟩ := spChk_ok ha
  simp only at h1 h2 h3
  have hr : 0 ≤ n.tmod (hi - lo + 1) ∧ n.tmod (hi - lo + 1) < hi - lo + 1 := by
    rw [Int.tmod_eq_emod_of_nonneg hn]
    exact ⟨Int.emod_nonneg n (by omega), Int.emod_lt_of_pos n (by omega)⟩
  obtain ⟨ρ, hρ⟩ : ∃ ρ, ρ = ρL [lo, hi, n, hi - lo, hi - lo + 1, n.tmod (hi - lo + 1), atI lo hi n] := ⟨_, rfl⟩
  have hF : FactsOk ρ yjF := by
    refine ⟨by simp [yjF], ?_, ?_, by simp [yjF]⟩
    · intro e he
      simp only [yjF, List.mem_cons, List.not_mem_nil, or_false] at he
      rw [hρ]
      rcases he with rfl | rfl | rfl | rfl
      · exact (ar_sub (wI (by omega) (by omega)) : ArOk .sub .i64 hi .i64 lo (hi - lo))
      · exact (ar_add (wI (by omega) (by omega)) : ArOk .add .i64 (hi - lo) .i64 1 (hi - lo + 1))
      · exact (ar_rem n (by omega) : ArOk .rem .u64 n .u64 (hi - lo + 1) (n.tmod (hi - lo + 1)))
      · exact (ar_add (wI (by omega) (by omega)) : ArOk .add .i64 lo .i64 (n.tmod (hi - lo + 1)) (atI lo hi n))
    · intro e he
      simp only [yjF, List.mem_cons, List.not_mem_nil, or_false] at he
      rw [hρ]
      rcases he with rfl | rfl
      · exact (IntWalk.u64_in (hi - lo + 1) ⟨by omega, by omega⟩ : IntKind.u64.wrap (hi - lo + 1) = hi - lo + 1)
      · exact (wI (by omega) (by omega) : IntKind.i64.wrap (n.tmod (hi - lo + 1)) = n.tmod (hi - lo + 1))
  have h := calls_run yj_run hF (by simp) (by simp) (by simp) rfl w
  rw [hρ] at h
  refine (show Calls Tryd.prog 46 #[.agg #[.int .i64 lo, .int .i64 hi], .int .u64 n] w _ from h).mono ?_
  rintro e w' ⟨⟨s, he⟩, hb⟩
  exact ⟨he, hb⟩
end Go.Proofs.YtpdaigenffecmaaDoor

namespace Go.Proofs.YtpdaigenffecmaaDoor
open Go Go.RowKit Go.ChangeShapes Go.WideShapes Go.Joins Go.Deep

section
variable {H : Type} {enc : TypeId × Value → H} {w : World} {base : Nat} {spare : Nat → Bool} {held : Bool}
set_option maxRecDepth 100000 in
theorem os_places {r : Reach} {b0 : Nat} {v : Value} {d : DataW H} {p : List MemPlace} (hv : Value.okWide Tryd.prog w r b0 50 v) (h : DataW.Trod enc Tryd.prog w base spare held 50 v d p) :
    ∃ a b, v = .agg #[.int .u64 a, .int .u64 b] ∧ d = dPlaces a b ∧ p = [] ∧ U64 a ∧ U64 b := by
  obtain ⟨cs, rfl, hsz⟩ := okWide_struct Tryd.underlying50 hv
  obtain ⟨u0, u1, rfl⟩ := array2 (hsz.trans Tryd.cellsPlaces)
  obtain ⟨fuel, hf⟩ := h
  obtain ⟨y0, y1, n, hx, _, h0, h1⟩ := trod_struct2 Tryd.underlying50 hf
  obtain ⟨a, e0, rfl, wa⟩ := DataW.trod_int Tryd.underlying48 h0
  obtain ⟨b, e1, rfl, wb⟩ := DataW.trod_int Tryd.underlying48 h1
  simp [Tryd.cellsU64, Value.cells] at e0 e1
  subst e0 e1
  simp only [Prod.mk.injEq] at hx
  exact ⟨a, b, rfl, hx.1, by simpa using hx.2, wa, wb⟩
theorem ms_places {a b : Int} (ha : U64 a) (hb : U64 b) : DataW.Trod enc Tryd.prog w base spare held 50 (.agg #[.int .u64 a, .int .u64 b]) (dPlaces a b) [] := by
  have h0 : (Lit.int .u64 a).wf = true := ha
  have h1 : (Lit.int .u64 b).wf = true := hb
  exact ⟨2, trod_struct2_mk (y0 := (.lit (.int .u64 a), [])) (y1 := (.lit (.int .u64 b), [])) Tryd.underlying50 (by rw [Tryd.cellsPlaces]; rfl) (by simp only [Tryd.cellsU64]; exact trod_int_mk 0 Tryd.underlying48 h0) (by simp only [Tryd.cellsU64]; exact trod_int_mk 0 Tryd.underlying48 h1)⟩
end
end Go.Proofs.YtpdaigenffecmaaDoor
