/-
  The statement SpanSets: its code answers true. Plain: the reference's product and quotient of intervals are the program's. The walk of the reference's 'four'. What the reference's product and quotient of intervals keep in their tables of four. Plain: numbers by digits to the base 2^16. The walk of the reference's 'parts'. The walk of the reference's 'product' of digits. Plain: the reference's powers of intervals are the program's.
-/
import Derived.Test.YtpdaigenffecmaaDoorM21
import Derived.Test.YtpdaigenffecmaaDoorM23
import Derived.Test.YtpdaigenffecmaaDoorM24
set_option linter.all false
namespace Go.Proofs.YtpdaigenffecmaaDoor
open Go.RowKit

def yYtL : List Ent := [
  ⟨13, [.v (.agg (dr 4))], .v (SR [10, 11])⟩,
  ⟨13, [.v (.agg (dr 7))], .v (SR [12, 13])⟩,
  ⟨64, [.v (.agg (dr 4))], .v (SR [14, 15])⟩,
  ⟨64, [.v (.agg (dr 7))], .v (SR [16, 17])⟩,
  ⟨36, [SV [0, 1]], SE [18, 19] 20⟩,
  ⟨37, [SV [0, 1]], SE [18, 19] 20⟩,
  ⟨38, [SV [0, 1], SV [2, 3]], SE [21, 22] 23⟩,
  ⟨39, [SV [0, 1], SV [2, 3]], SE [21, 22] 23⟩,
  ⟨40, [SV [0, 1], SV [2, 3]], SE [24, 25] 26⟩,
  ⟨41, [SV [0, 1], SV [2, 3]], SE [24, 25] 26⟩,
  ⟨42, [SV [0, 1], SV [2, 3]], SE [27, 28] 29⟩,
  ⟨43, [SV [0, 1], SV [2, 3]], SE [27, 28] 29⟩,
  ⟨44, [SV [0, 1], SV [2, 3]], SE [30, 31] 32⟩,
  ⟨45, [SV [0, 1], SV [2, 3]], SE [30, 31] 32⟩,
  ⟨36, [SV [10, 11]], SE [33, 34] 35⟩,
  ⟨37, [SV [10, 11]], SE [33, 34] 35⟩,
  ⟨38, [SV [10, 11], SV [12, 13]], SE [36, 37] 38⟩,
  ⟨39, [SV [10, 11], SV [12, 13]], SE [36, 37] 38⟩,
  ⟨40, [SV [10, 11], SV [12, 13]], SE [39, 40] 41⟩,
  ⟨41, [SV [10, 11], SV [12, 13]], SE [39, 40] 41⟩,
  ⟨42, [SV [10, 11], SV [12, 13]], SE [42, 43] 44⟩,
  ⟨43, [SV [10, 11], SV [12, 13]], SE [42, 43] 44⟩,
  ⟨44, [SV [10, 11], SV [12, 13]], SE [45, 46] 47⟩,
  ⟨45, [SV [10, 11], SV [12, 13]], SE [45, 46] 47⟩,
  ⟨36, [SV [14, 15]], SE [48, 49] 50⟩,
  ⟨37, [SV [14, 15]], SE [48, 49] 50⟩,
  ⟨38, [SV [14, 15], SV [16, 17]], SE [51, 52] 53⟩,
  ⟨39, [SV [14, 15], SV [16, 17]], SE [51, 52] 53⟩,
  ⟨40, [SV [14, 15], SV [16, 17]], SE [54, 55] 56⟩,
  ⟨41, [SV [14, 15], SV [16, 17]], SE [54, 55] 56⟩,
  ⟨42, [SV [14, 15], SV [16, 17]], SE [57, 58] 59⟩,
  ⟨43, [SV [14, 15], SV [16, 17]], SE [57, 58] 59⟩,
  ⟨44, [SV [14, 15], SV [16, 17]], SE [60, 61] 62⟩,
  ⟨45, [SV [14, 15], SV [16, 17]], SE [60, 61] 62⟩,
  ⟨38, [SV [10, 11], SV [16, 17]], SE [63, 64] 65⟩,
  ⟨39, [SV [10, 11], SV [16, 17]], SE [63, 64] 65⟩,
  ⟨40, [SV [10, 11], SV [16, 17]], SE [66, 67] 68⟩,
  ⟨41, [SV [10, 11], SV [16, 17]], SE [66, 67] 68⟩,
  ⟨42, [SV [10, 11], SV [16, 17]], SE [69, 70] 71⟩,
  ⟨43, [SV [10, 11], SV [16, 17]], SE [69, 70] 71⟩,
  ⟨44, [SV [10, 11], SV [16, 17]], SE [72, 73] 74⟩,
  ⟨45, [SV [10, 11], SV [16, 17]], SE [72, 73] 74⟩,
  ⟨38, [SV [0, 1], SV [12, 13]], SE [75, 76] 77⟩,
  ⟨39, [SV [0, 1], SV [12, 13]], SE [75, 76] 77⟩,
  ⟨40, [SV [0, 1], SV [12, 13]], SE [78, 79] 80⟩,
  ⟨41, [SV [0, 1], SV [12, 13]], SE [78, 79] 80⟩,
  ⟨42, [SV [0, 1], SV [12, 13]], SE [81, 82] 83⟩,
  ⟨43, [SV [0, 1], SV [12, 13]], SE [81, 82] 83⟩,
  ⟨44, [SV [0, 1], SV [12, 13]], SE [84, 85] 86⟩,
  ⟨45, [SV [0, 1], SV [12, 13]], SE [84, 85] 86⟩]
def yYtF : Facts := { cmp := [], ar := [], cv := [], mm := [] }
def yYtA : List AV := [.v (.agg ((rg 0 4).map S1 ++ dr 4 ++ dr 7))]

set_option maxRecDepth 100000 in
theorem yYt_run : runM Tryd.prog (tab Tryd.prog yYtF [(23, 2)] (wkE :: yYtL) []) 6 pwM 6 yYtA = some (.v (.one (.bool true))) := by kernel_rfl

set_option maxRecDepth 100000 in
set_option maxHeartbeats 4000000 in
theorem c_lawSpanSets (a0 a1 b0 b1 d0 d1 d2 e0 e1 e2 : Int) (hd1 : 0 ≤ d1 ∧ d1 ≤ 255) (hd2 : 0 ≤ d2 ∧ d2 ≤ 4294967295) (he1 : 0 ≤ e1 ∧ e1 ≤ 255) (he2 : 0 ≤ e2 ∧ e2 ≤ 4294967295) (w : World) (hp : Pow10 w) :
    Calls Tryd.prog 6 #[.agg #[.int .i64 a0, .int .i64 a1, .int .i64 b0, .int .i64 b1, .int .i64 d0, .int .u8 d1, .int .u32 d2, .int .i64 e0, .int .u8 e1, .int .u32 e2]] w fun e w' => e = .returned (.bool true) ∧ Below w.heap.size w w' := by
  obtain ⟨ρ, hρ⟩ : ∃ ρ, ρ = ρL [a0, a1, b0, b1, d0, d1, d2, e0, e1, e2, (dLo 52 d0 d1), (dHi d0 d1 d2), (dLo 52 e0 e1), (dHi e0 e1 e2), (dLo 37 d0 d1), (dHs d0 d1 d2), (dLo 37 e0 e1), (dHs e0 e1 e2), (spAbs (a0, a1)).1, (spAbs (a0, a1)).2.1, (spAbs (a0, a1)).2.2, (spMin (a0, a1) (b0, b1)).1, (spMin (a0, a1) (b0, b1)).2.1, (spMin (a0, a1) (b0, b1)).2.2, (spMax (a0, a1) (b0, b1)).1, (spMax (a0, a1) (b0, b1)).2.1, (spMax (a0, a1) (b0, b1)).2.2, (spHull (a0, a1) (b0, b1)).1, (spHull (a0, a1) (b0, b1)).2.1, (spHull (a0, a1) (b0, b1)).2.2, (spMeet (a0, a1) (b0, b1)).1, (spMeet (a0, a1) (b0, b1)).2.1, (spMeet (a0, a1) (b0, b1)).2.2, (spAbs ((dLo 52 d0 d1), (dHi d0 d1 d2))).1, (spAbs ((dLo 52 d0 d1), (dHi d0 d1 d2))).2.1, (spAbs ((dLo 52 d0 d1), (dHi d0 d1 d2))).2.2, (spMin ((dLo 52 d0 d1), (dHi d0 d1 d2)) ((dLo 52 e0 e1), (dHi e0 e1 e2))).1, (spMin ((dLo 52 d0 d1), (dHi d0 d1 d2)) ((dLo 52 e0 e1), (dHi e0 e1 e2))).2.1, (spMin ((dLo 52 d0 d1), (dHi d0 d1 d2)) ((dLo 52 e0 e1), (dHi e0 e1 e2))).2.2, (spMax ((dLo 52 d0 d1), (dHi d0 d1 d2)) ((dLo 52 e0 e1), (dHi e0 e1 e2))).1, (spMax ((dLo 52 d0 d1), (dHi d0 d1 d2)) ((dLo 52 e0 e1), (dHi e0 e1 e2))).2.1, (spMax ((dLo 52 d0 d1), (dHi d0 d1 d2)) ((dLo 52 e0 e1), (dHi e0 e1 e2))).2.2, (spHull ((dLo 52 d0 d1), (dHi d0 d1 d2)) ((dLo 52 e0 e1), (dHi e0 e1 e2))).1, (spHull ((dLo 52 d0 d1), (dHi d0 d1 d2)) ((dLo 52 e0 e1), (dHi e0 e1 e2))).2.1, (spHull ((dLo 52 d0 d1), (dHi d0 d1 d2)) ((dLo 52 e0 e1), (dHi e0 e1 e2))).2.2, (spMeet ((dLo 52 d0 d1), (dHi d0 d1 d2)) ((dLo 52 e0 e1), (dHi e0 e1 e2))).1, (spMeet ((dLo 52 d0 d1), (dHi d0 d1 d2)) ((dLo 52 e0 e1), (dHi e0 e1 e2))).2.1, (spMeet ((dLo 52 d0 d1), (dHi d0 d1 d2)) ((dLo 52 e0 e1), (dHi e0 e1 e2))).2.2, (spAbs ((dLo 37 d0 d1), (dHs d0 d1 d2))).1, (spAbs ((dLo 37 d0 d1), (dHs d0 d1 d2))).2.1, (spAbs ((dLo 37 d0 d1), (dHs d0 d1 d2))).2.2, (spMin ((dLo 37 d0 d1), (dHs d0 d1 d2)) ((dLo 37 e0 e1), (dHs e0 e1 e2))).1, (spMin ((dLo 37 d0 d1), (dHs d0 d1 d2)) ((dLo 37 e0 e1), (dHs e0 e1 e2))).2.1, (spMin ((dLo 37 d0 d1), (dHs d0 d1 d2)) ((dLo 37 e0 e1), (dHs e0 e1 e2))).2.2, (spMax ((dLo 37 d0 d1), (dHs d0 d1 d2)) ((dLo 37 e0 e1), (dHs e0 e1 e2))).1, (spMax ((dLo 37 d0 d1), (dHs d0 d1 d2)) ((dLo 37 e0 e1), (dHs e0 e1 e2))).2.1, (spMax ((dLo 37 d0 d1), (dHs d0 d1 d2)) ((dLo 37 e0 e1), (dHs e0 e1 e2))).2.2, (spHull ((dLo 37 d0 d1), (dHs d0 d1 d2)) ((dLo 37 e0 e1), (dHs e0 e1 e2))).1, (spHull ((dLo 37 d0 d1), (dHs d0 d1 d2)) ((dLo 37 e0 e1), (dHs e0 e1 e2))).2.1, (spHull ((dLo 37 d0 d1), (dHs d0 d1 d2)) ((dLo 37 e0 e1), (dHs e0 e1 e2))).2.2, (spMeet ((dLo 37 d0 d1), (dHs d0 d1 d2)) ((dLo 37 e0 e1), (dHs e0 e1 e2))).1, (spMeet ((dLo 37 d0 d1), (dHs d0 d1 d2)) ((dLo 37 e0 e1), (dHs e0 e1 e2))).2.1, (spMeet ((dLo 37 d0 d1), (dHs d0 d1 d2)) ((dLo 37 e0 e1), (dHs e0 e1 e2))).2.2, (spMin ((dLo 52 d0 d1), (dHi d0 d1 d2)) ((dLo 37 e0 e1), (dHs e0 e1 e2))).1, (spMin ((dLo 52 d0 d1), (dHi d0 d1 d2)) ((dLo 37 e0 e1), (dHs e0 e1 e2))).2.1, (spMin ((dLo 52 d0 d1), (dHi d0 d1 d2)) ((dLo 37 e0 e1), (dHs e0 e1 e2))).2.2, (spMax ((dLo 52 d0 d1), (dHi d0 d1 d2)) ((dLo 37 e0 e1), (dHs e0 e1 e2))).1, (spMax ((dLo 52 d0 d1), (dHi d0 d1 d2)) ((dLo 37 e0 e1), (dHs e0 e1 e2))).2.1, (spMax ((dLo 52 d0 d1), (dHi d0 d1 d2)) ((dLo 37 e0 e1), (dHs e0 e1 e2))).2.2, (spHull ((dLo 52 d0 d1), (dHi d0 d1 d2)) ((dLo 37 e0 e1), (dHs e0 e1 e2))).1, (spHull ((dLo 52 d0 d1), (dHi d0 d1 d2)) ((dLo 37 e0 e1), (dHs e0 e1 e2))).2.1, (spHull ((dLo 52 d0 d1), (dHi d0 d1 d2)) ((dLo 37 e0 e1), (dHs e0 e1 e2))).2.2, (spMeet ((dLo 52 d0 d1), (dHi d0 d1 d2)) ((dLo 37 e0 e1), (dHs e0 e1 e2))).1, (spMeet ((dLo 52 d0 d1), (dHi d0 d1 d2)) ((dLo 37 e0 e1), (dHs e0 e1 e2))).2.1, (spMeet ((dLo 52 d0 d1), (dHi d0 d1 d2)) ((dLo 37 e0 e1), (dHs e0 e1 e2))).2.2, (spMin (a0, a1) ((dLo 52 e0 e1), (dHi e0 e1 e2))).1, (spMin (a0, a1) ((dLo 52 e0 e1), (dHi e0 e1 e2))).2.1, (spMin (a0, a1) ((dLo 52 e0 e1), (dHi e0 e1 e2))).2.2, (spMax (a0, a1) ((dLo 52 e0 e1), (dHi e0 e1 e2))).1, (spMax (a0, a1) ((dLo 52 e0 e1), (dHi e0 e1 e2))).2.1, (spMax (a0, a1) ((dLo 52 e0 e1), (dHi e0 e1 e2))).2.2, (spHull (a0, a1) ((dLo 52 e0 e1), (dHi e0 e1 e2))).1, (spHull (a0, a1) ((dLo 52 e0 e1), (dHi e0 e1 e2))).2.1, (spHull (a0, a1) ((dLo 52 e0 e1), (dHi e0 e1 e2))).2.2, (spMeet (a0, a1) ((dLo 52 e0 e1), (dHi e0 e1 e2))).1, (spMeet (a0, a1) ((dLo 52 e0 e1), (dHi e0 e1 e2))).2.1, (spMeet (a0, a1) ((dLo 52 e0 e1), (dHi e0 e1 e2))).2.2] := ⟨_, rfl⟩
  have hL : ∀ e ∈ yYtL, EntOk Tryd.prog ρ e := by
    intro e he
    simp only [yYtL, List.mem_cons, List.not_mem_nil, or_false] at he
    rcases he with rfl | rfl | rfl | rfl | rfl | rfl | rfl | rfl | rfl | rfl | rfl | rfl | rfl | rfl | rfl | rfl | rfl | rfl | rfl | rfl | rfl | rfl | rfl | rfl | rfl | rfl | rfl | rfl | rfl | rfl | rfl | rfl | rfl | rfl | rfl | rfl | rfl | rfl | rfl | rfl | rfl | rfl | rfl | rfl | rfl | rfl | rfl | rfl | rfl | rfl
    · rw [hρ]; exact fun s w => c_dspanD d0 d1 d2 hd1 hd2 w
    · rw [hρ]; exact fun s w => c_dspanD e0 e1 e2 he1 he2 w
    · rw [hρ]; exact fun s w => c_dsmallD d0 d1 d2 hd1 hd2 w
    · rw [hρ]; exact fun s w => c_dsmallD e0 e1 e2 he1 he2 w
    · rw [hρ]; exact fun s w => c_spanAbs a0 a1 w
    · rw [hρ]; exact fun s w => c_sAbs a0 a1 w
    · rw [hρ]; exact fun s w => c_spanMin a0 a1 b0 b1 w
    · rw [hρ]; exact fun s w => c_sMin a0 a1 b0 b1 w
    · rw [hρ]; exact fun s w => c_spanMax a0 a1 b0 b1 w
    · rw [hρ]; exact fun s w => c_sMax a0 a1 b0 b1 w
    · rw [hρ]; exact fun s w => c_spanHull a0 a1 b0 b1 w
    · rw [hρ]; exact fun s w => c_sHull a0 a1 b0 b1 w
    · rw [hρ]; exact fun s w => c_spanMeet a0 a1 b0 b1 w
    · rw [hρ]; exact fun s w => c_sMeet a0 a1 b0 b1 w
    · rw [hρ]; exact fun s w => c_spanAbs (dLo 52 d0 d1) (dHi d0 d1 d2) w
    · rw [hρ]; exact fun s w => c_sAbs (dLo 52 d0 d1) (dHi d0 d1 d2) w
    · rw [hρ]; exact fun s w => c_spanMin (dLo 52 d0 d1) (dHi d0 d1 d2) (dLo 52 e0 e1) (dHi e0 e1 e2) w
    · rw [hρ]; exact fun s w => c_sMin (dLo 52 d0 d1) (dHi d0 d1 d2) (dLo 52 e0 e1) (dHi e0 e1 e2) w
    · rw [hρ]; exact fun s w => c_spanMax (dLo 52 d0 d1) (dHi d0 d1 d2) (dLo 52 e0 e1) (dHi e0 e1 e2) w
    · rw [hρ]; exact fun s w => c_sMax (dLo 52 d0 d1) (dHi d0 d1 d2) (dLo 52 e0 e1) (dHi e0 e1 e2) w
    · rw [hρ]; exact fun s w => c_spanHull (dLo 52 d0 d1) (dHi d0 d1 d2) (dLo 52 e0 e1) (dHi e0 e1 e2) w
    · rw [hρ]; exact fun s w => c_sHull (dLo 52 d0 d1) (dHi d0 d1 d2) (dLo 52 e0 e1) (dHi e0 e1 e2) w
    · rw [hρ]; exact fun s w => c_spanMeet (dLo 52 d0 d1) (dHi d0 d1 d2) (dLo 52 e0 e1) (dHi e0 e1 e2) w
    · rw [hρ]; exact fun s w => c_sMeet (dLo 52 d0 d1) (dHi d0 d1 d2) (dLo 52 e0 e1) (dHi e0 e1 e2) w
    · rw [hρ]; exact fun s w => c_spanAbs (dLo 37 d0 d1) (dHs d0 d1 d2) w
    · rw [hρ]; exact fun s w => c_sAbs (dLo 37 d0 d1) (dHs d0 d1 d2) w
    · rw [hρ]; exact fun s w => c_spanMin (dLo 37 d0 d1) (dHs d0 d1 d2) (dLo 37 e0 e1) (dHs e0 e1 e2) w
    · rw [hρ]; exact fun s w => c_sMin (dLo 37 d0 d1) (dHs d0 d1 d2) (dLo 37 e0 e1) (dHs e0 e1 e2) w
    · rw [hρ]; exact fun s w => c_spanMax (dLo 37 d0 d1) (dHs d0 d1 d2) (dLo 37 e0 e1) (dHs e0 e1 e2) w
    · rw [hρ]; exact fun s w => c_sMax (dLo 37 d0 d1) (dHs d0 d1 d2) (dLo 37 e0 e1) (dHs e0 e1 e2) w
    · rw [hρ]; exact fun s w => c_spanHull (dLo 37 d0 d1) (dHs d0 d1 d2) (dLo 37 e0 e1) (dHs e0 e1 e2) w
    · rw [hρ]; exact fun s w => c_sHull (dLo 37 d0 d1) (dHs d0 d1 d2) (dLo 37 e0 e1) (dHs e0 e1 e2) w
    · rw [hρ]; exact fun s w => c_spanMeet (dLo 37 d0 d1) (dHs d0 d1 d2) (dLo 37 e0 e1) (dHs e0 e1 e2) w
    · rw [hρ]; exact fun s w => c_sMeet (dLo 37 d0 d1) (dHs d0 d1 d2) (dLo 37 e0 e1) (dHs e0 e1 e2) w
    · rw [hρ]; exact fun s w => c_spanMin (dLo 52 d0 d1) (dHi d0 d1 d2) (dLo 37 e0 e1) (dHs e0 e1 e2) w
    · rw [hρ]; exact fun s w => c_sMin (dLo 52 d0 d1) (dHi d0 d1 d2) (dLo 37 e0 e1) (dHs e0 e1 e2) w
    · rw [hρ]; exact fun s w => c_spanMax (dLo 52 d0 d1) (dHi d0 d1 d2) (dLo 37 e0 e1) (dHs e0 e1 e2) w
    · rw [hρ]; exact fun s w => c_sMax (dLo 52 d0 d1) (dHi d0 d1 d2) (dLo 37 e0 e1) (dHs e0 e1 e2) w
    · rw [hρ]; exact fun s w => c_spanHull (dLo 52 d0 d1) (dHi d0 d1 d2) (dLo 37 e0 e1) (dHs e0 e1 e2) w
    · rw [hρ]; exact fun s w => c_sHull (dLo 52 d0 d1) (dHi d0 d1 d2) (dLo 37 e0 e1) (dHs e0 e1 e2) w
    · rw [hρ]; exact fun s w => c_spanMeet (dLo 52 d0 d1) (dHi d0 d1 d2) (dLo 37 e0 e1) (dHs e0 e1 e2) w
    · rw [hρ]; exact fun s w => c_sMeet (dLo 52 d0 d1) (dHi d0 d1 d2) (dLo 37 e0 e1) (dHs e0 e1 e2) w
    · rw [hρ]; exact fun s w => c_spanMin a0 a1 (dLo 52 e0 e1) (dHi e0 e1 e2) w
    · rw [hρ]; exact fun s w => c_sMin a0 a1 (dLo 52 e0 e1) (dHi e0 e1 e2) w
    · rw [hρ]; exact fun s w => c_spanMax a0 a1 (dLo 52 e0 e1) (dHi e0 e1 e2) w
    · rw [hρ]; exact fun s w => c_sMax a0 a1 (dLo 52 e0 e1) (dHi e0 e1 e2) w
    · rw [hρ]; exact fun s w => c_spanHull a0 a1 (dLo 52 e0 e1) (dHi e0 e1 e2) w
    · rw [hρ]; exact fun s w => c_sHull a0 a1 (dLo 52 e0 e1) (dHi e0 e1 e2) w
    · rw [hρ]; exact fun s w => c_spanMeet a0 a1 (dLo 52 e0 e1) (dHi e0 e1 e2) w
    · rw [hρ]; exact fun s w => c_sMeet a0 a1 (dLo 52 e0 e1) (dHi e0 e1 e2) w
  have hF : FactsOk ρ yYtF := by
    refine ⟨?_, ?_, ?_, ?_⟩
    · simp [yYtF]
    · simp [yYtF]
    · simp [yYtF]
    · simp [yYtF]
  have h := calls_runM yYt_run hF (by intro e he; simp only [List.mem_cons, List.not_mem_nil, or_false] at he; subst he; exact eqOk_span) (by intro e he; rcases List.mem_cons.1 he with rfl | he; exact wkE_ok _ hp; exact fun s w _ => hL e he s w) (by simp) rfl (pw_rel ρ hp)
  rw [hρ] at h
  refine (show Calls Tryd.prog 6 #[.agg #[.int .i64 a0, .int .i64 a1, .int .i64 b0, .int .i64 b1, .int .i64 d0, .int .u8 d1, .int .u32 d2, .int .i64 e0, .int .u8 e1, .int .u32 e2]] w _ from h).mono ?_
  rintro e w' ⟨⟨s, he⟩, hb⟩
  exact ⟨he, hb⟩

end Go.Proofs.YtpdaigenffecmaaDoor

namespace Go.Proofs.YtpdaigenffecmaaDoor

/-- What 'four' makes of four lower and four upper ends. -/
def spFourRes (l0 l1 l2 l3 h0 h1 h2 h3 : Int) (fits : Bool) : Int × Int × Int := spRes (min l0 (min l1 (min l2 l3))) (max h0 (max h1 (max h2 h3))) fits

theorem rnd_le (n d : Int) (hd : 0 < d) : rnd n d false ≤ rnd n d true := by
  unfold rnd
  simp only [if_true, Bool.false_eq_true, if_false]
  have h1 := Int.mul_ediv_add_emod n d
  have h2 := Int.mul_ediv_add_emod (-n) d
  have h3 := Int.emod_nonneg n (show d ≠ 0 by omega)
  have h4 := Int.emod_nonneg (-n) (show d ≠ 0 by omega)
  rcases Int.lt_or_le (-((-n) / d)) (n / d) with h | h
  · exfalso
    have h5 : d * 1 ≤ d * (n / d + (-n) / d) := Int.mul_le_mul_of_nonneg_left (by omega) (by omega)
    rw [Int.mul_add] at h5
    omega
  · exact h

theorem fit_ok {r : Int} (h : (fit r).2 = 0) : (fit r).1 = r := by
  unfold fit at h ⊢; split at h
  · simp at h
  · rename_i e; rw [if_neg e]

theorem fxMul_le (a b : Int) (h1 : (fxMul a b false).2 = 0) (h2 : (fxMul a b true).2 = 0) : (fxMul a b false).1 ≤ (fxMul a b true).1 := by
  unfold fxMul at h1 h2 ⊢
  split at h1
  · rename_i e
    rw [if_pos e] at h2
    rw [if_pos e, if_pos e, fit_ok h1, fit_ok h2]
    exact rnd_le _ _ (by omega)
  · simp at h1

theorem fxDiv_le (a b : Int) (h1 : (fxDiv a b false).2 = 0) (h2 : (fxDiv a b true).2 = 0) : (fxDiv a b false).1 ≤ (fxDiv a b true).1 := by
  unfold fxDiv at h1 h2 ⊢
  split at h1
  · rename_i e
    rw [if_pos e] at h2
    rw [if_pos e, if_pos e]
    split at h1
    · simp at h1
    · rename_i e0
      rw [if_neg e0] at h2
      rw [if_neg e0, if_neg e0, fit_ok h1, fit_ok h2]
      exact rnd_le _ _ (by omega)
  · simp at h1

/-- The four rounds' word that all fits. -/
def allFit (k0 k1 k2 k3 g0 g1 g2 g3 : Bool) : Bool := ((((((((true && k0) && g0) && k1) && g1) && k2) && g2) && k3) && g3)

theorem four_eq (f : Int → Int → Bool → Int × Int) (hf : ∀ a b, (f a b false).2 = 0 → (f a b true).2 = 0 → (f a b false).1 ≤ (f a b true).1) (al ah bl bh : Int) :
    spFour f (al, ah) (bl, bh) = spFourRes (f al bl false).1 (f al bh false).1 (f ah bl false).1 (f ah bh false).1 (f al bl true).1 (f al bh true).1 (f ah bl true).1 (f ah bh true).1
      (allFit (decide ((f al bl false).2 = 0)) (decide ((f al bh false).2 = 0)) (decide ((f ah bl false).2 = 0)) (decide ((f ah bh false).2 = 0)) (decide ((f al bl true).2 = 0)) (decide ((f al bh true).2 = 0)) (decide ((f ah bl true).2 = 0)) (decide ((f ah bh true).2 = 0))) := by
  unfold spFour spFourRes allFit
  simp only
  have hm := hf al bl
  split
  · rename_i h
    unfold spRes
    rw [if_neg]
    simp only [Bool.true_and, Bool.and_eq_true, decide_eq_true_eq, not_and]
    intro h2
    omega
  · rename_i h
    have e : (true && decide ((f al bl false).2 = 0) && decide ((f al bl true).2 = 0) && decide ((f al bh false).2 = 0) && decide ((f al bh true).2 = 0) && decide ((f ah bl false).2 = 0) && decide ((f ah bl true).2 = 0) && decide ((f ah bh false).2 = 0) && decide ((f ah bh true).2 = 0)) = true := by
      simp only [Bool.true_and, Bool.and_eq_true, decide_eq_true_eq]
      omega
    rw [e, spRes_told]
    · congr 1 <;> omega
    · have := hm (by omega) (by omega)
      omega

theorem spMul_ref (al ah bl bh : Int) (ha : spChk (al, ah) = 0) (hb : spChk (bl, bh) = 0) :
    spMul (al, ah) (bl, bh) = spFourRes (rMul al bl false).1 (rMul al bh false).1 (rMul ah bl false).1 (rMul ah bh false).1 (rMul al bl true).1 (rMul al bh true).1 (rMul ah bl true).1 (rMul ah bh true).1
      (allFit (rMul al bl false).2 (rMul al bh false).2 (rMul ah bl false).2 (rMul ah bh false).2 (rMul al bl true).2 (rMul al bh true).2 (rMul ah bl true).2 (rMul ah bh true).2) := by
  obtain ⟨a1, a2, _⟩ := (spChk_parts al ah).1 ha
  obtain ⟨b1, b2, _⟩ := (spChk_parts bl bh).1 hb
  unfold spMul
  rw [if_pos (by unfold spAll; rw [if_pos ha]; exact hb), four_eq fxMul fxMul_le]
  simp only [rMul_eq _ _ _ a1 b1, rMul_eq _ _ _ a1 b2, rMul_eq _ _ _ a2 b1, rMul_eq _ _ _ a2 b2]

theorem spDiv_zero (a b : Int × Int) (ha : spChk a = 0) (hb : spChk b = 0) (h : b.1 ≤ 0 ∧ 0 ≤ b.2) : spDiv a b = (0, 0, 7) := by
  unfold spDiv
  rw [if_pos (by unfold spAll; rw [if_pos ha]; exact hb), if_pos h]

theorem spDiv_ref (al ah bl bh : Int) (ha : spChk (al, ah) = 0) (hb : spChk (bl, bh) = 0) (h : ¬ (bl ≤ 0 ∧ 0 ≤ bh)) :
    spDiv (al, ah) (bl, bh) = spFourRes (rDiv al bl false).1 (rDiv al bh false).1 (rDiv ah bl false).1 (rDiv ah bh false).1 (rDiv al bl true).1 (rDiv al bh true).1 (rDiv ah bl true).1 (rDiv ah bh true).1
      (allFit (rDiv al bl false).2 (rDiv al bh false).2 (rDiv ah bl false).2 (rDiv ah bh false).2 (rDiv al bl true).2 (rDiv al bh true).2 (rDiv ah bl true).2 (rDiv ah bh true).2) := by
  obtain ⟨a1, a2, _⟩ := (spChk_parts al ah).1 ha
  obtain ⟨b1, b2, b3⟩ := (spChk_parts bl bh).1 hb
  have hl : bl ≠ 0 := by omega
  have hh : bh ≠ 0 := by omega
  unfold spDiv
  rw [if_pos (by unfold spAll; rw [if_pos ha]; exact hb), if_neg h, four_eq fxDiv fxDiv_le]
  simp only [rDiv_eq _ _ _ a1 b1 hl, rDiv_eq _ _ _ a1 b2 hh, rDiv_eq _ _ _ a2 b1 hl, rDiv_eq _ _ _ a2 b2 hh]

end Go.Proofs.YtpdaigenffecmaaDoor

namespace Go.Proofs.YtpdaigenffecmaaDoor
open Go.RowKit Go.Shelf

set_option maxHeartbeats 1000000 in
theorem c_four (l0 l1 l2 l3 h0 h1 h2 h3 : Int) (fits : Bool) (w : World) :
    Calls Tryd.prog 75 #[.agg #[.int .i64 l0, .int .i64 l1, .int .i64 l2, .int .i64 l3], .agg #[.int .i64 h0, .int .i64 h1, .int .i64 h2, .int .i64 h3], .bool fits] w fun e w' => e = .returned (.tuple #[.agg #[.int .i64 (spFourRes l0 l1 l2 l3 h0 h1 h2 h3 fits).1, .int .i64 (spFourRes l0 l1 l2 l3 h0 h1 h2 h3 fits).2.1], .int .i64 (spFourRes l0 l1 l2 l3 h0 h1 h2 h3 fits).2.2]) ∧ Below w.heap.size w w' := by
  go_enter Tryd.func75, Tryd.ntmps75
  go_wp2_with (first | (with_reducible refine wp_rounds 4 ?_) | (with_reducible refine rounds_step _ ?_; intro _ _) | (go_quiet (fail)) | (go_at_call 70; refine (c_sresult _ _ _ _).mono ?_; rintro e w3 ⟨rfl, hb3⟩; (obtain ⟨hc3, hf3⟩ := bcell hb3; have hs3 := hb3.size; (try simp only [World.size_alloc, World.drew_heap, World.heap_drewN, World.size_setCell] at hs3); try (have z3_0 : w.heap.size < w3.heap.size := (by omega)); try (have z3_1 : w.heap.size + 1 < w3.heap.size := (by omega)); try (have z3_2 : w.heap.size + 1 + 1 < w3.heap.size := (by omega)); try (have z3_3 : w.heap.size + 1 + 1 + 1 < w3.heap.size := (by omega)); try (have z3_4 : w.heap.size + 1 + 1 + 1 + 1 < w3.heap.size := (by omega)); try (have z3_5 : w.heap.size + 1 + 1 + 1 + 1 + 1 < w3.heap.size := (by omega)))))
  refine bodyPost_ret (v := .tuple #[.agg #[.int .i64 (spFourRes l0 l1 l2 l3 h0 h1 h2 h3 fits).1, .int .i64 (spFourRes l0 l1 l2 l3 h0 h1 h2 h3 fits).2.1], .int .i64 (spFourRes l0 l1 l2 l3 h0 h1 h2 h3 fits).2.2]) (by simp [results, Tryd.results75, spFourRes, go_sem, *]) rfl ⟨rfl, by (repeat' (first | (with_reducible exact Below.refl _ _) | assumption | (with_reducible refine Below.setCell ?_ ?_ _) | (with_reducible refine Below.alloc ?_ ?_ _) | (with_reducible refine Below.drew ?_) | (with_reducible refine below_drewN ?_ _) | (with_reducible refine Below.trans ?_ (Below.mono (by assumption) ?_)) | omega | (simp; done) | (simp; omega) | (simp [World.setCell]; omega)))⟩

end Go.Proofs.YtpdaigenffecmaaDoor

namespace Go.Proofs.YtpdaigenffecmaaDoor
open Go.RowKit Go.Shelf

/-- The ends at the four corners. -/
def cx (al ah : Int) (k : Nat) : Int := if k < 2 then al else ah
def cy (bl bh : Int) (k : Nat) : Int := if k % 2 = 0 then bl else bh

/-- Block b holds a table of four numbers. -/
def TabAt (w : World) (b : Nat) (f : Nat → Int) : Prop := ∀ j, j < 4 → w.cell? ⟨b, j, none⟩ = some (.int .i64 (f j))
def Soft (w : World) (b : Nat) : Prop := ∀ j, w.frozen? ⟨b, j, none⟩ = false

theorem TabAt.other {w : World} {b : Nat} {f : Nat → Int} (h : TabAt w b f) (p : Addr) (v : Value) (hp : p.block ≠ b) : TabAt (w.setCell p v) b f := fun j hj => by
  rw [World.cell?_setCell_far _ _ _ _ hp]; exact h j hj
theorem TabAt.set {w : World} {b : Nat} {f : Nat → Int} (h : TabAt w b f) (k : Nat) (x : Int) (hk : k < 4) : TabAt (w.setCell ⟨b, k, none⟩ (.int .i64 x)) b (fun j => if j = k then x else f j) := fun j hj => by
  by_cases e : j = k
  · subst e; rw [World.cell?_setCell_same _ _ _ (h j hj)]; simp
  · rw [World.cell?_setCell_other _ _ _ _ (by intro h2; exact e (by injection h2 with _ h3 _; exact h3.symm))]
    simp only [if_neg e]; exact h j hj
theorem TabAt.congr {w : World} {b : Nat} {f g : Nat → Int} (h : TabAt w b f) (hf : ∀ j, j < 4 → f j = g j) : TabAt w b g := fun j hj => by rw [← hf j hj]; exact h j hj
theorem TabAt.below {w w' : World} {b n : Nat} {f : Nat → Int} (h : TabAt w b f) (hb : Below n w w') (hn : b < n) : TabAt w' b f := fun j hj => by
  rw [hb.cell (p := ⟨b, j, none⟩) hn]; exact h j hj
theorem TabAt.drew {w : World} {b : Nat} {f : Nat → Int} (h : TabAt w b f) : TabAt w.drew b f := h
theorem Soft.set {w : World} {b : Nat} (h : Soft w b) (p : Addr) (v : Value) : Soft (w.setCell p v) b := fun j => by rw [World.frozen?_setCell]; exact h j
theorem Soft.below {w w' : World} {b n : Nat} (h : Soft w b) (hb : Below n w w') (hn : b < n) : Soft w' b := fun j => by
  rw [(bcell hb).2 b j hn]; exact h j

/-- A table that is filled as far as k. -/
def upto (g : Nat → Int) (k : Nat) : Nat → Int := fun j => if j < k then g j else 0
theorem upto_zero (g : Nat → Int) : upto g 0 = fun _ => 0 := by funext j; simp [upto]
theorem upto_step (g : Nat → Int) (k : Nat) : (fun j => if j = k then g k else upto g k j) = upto g (k + 1) := by
  funext j; unfold upto
  by_cases e : j = k
  · subst e; simp
  · by_cases h : j < k
    · simp [e, h, show j < k + 1 by omega]
    · simp [e, h, show ¬ j < k + 1 by omega]

/-- Whether all fits so far. -/
def fitTo (g h : Nat → Bool) : Nat → Bool
  | 0 => true
  | k + 1 => (fitTo g h k && g k) && h k

theorem cx_ok (al ah : Int) (k : Nat) (h1 : fxChk al = 0) (h2 : fxChk ah = 0) : fxChk (cx al ah k) = 0 := by unfold cx; split <;> assumption
theorem cy_ok (bl bh : Int) (k : Nat) (h1 : fxChk bl = 0) (h2 : fxChk bh = 0) : fxChk (cy bl bh k) = 0 := by unfold cy; split <;> assumption
theorem cy_ne (bl bh : Int) (k : Nat) (h1 : bl ≠ 0) (h2 : bh ≠ 0) : cy bl bh k ≠ 0 := by unfold cy; split <;> assumption

end Go.Proofs.YtpdaigenffecmaaDoor

namespace Go.Proofs.YtpdaigenffecmaaDoor

abbrev W16 : Nat := 65536

/-- The number that n digits to the base 2^16 tell. -/
def v16 (f : Nat → Nat) : Nat → Nat
  | 0 => 0
  | k + 1 => v16 f k + f k * W16 ^ k

theorem v16_congr {f g : Nat → Nat} : ∀ {k : Nat}, (∀ j, j < k → f j = g j) → v16 f k = v16 g k
  | 0, _ => rfl
  | k + 1, h => by unfold v16; rw [v16_congr (k := k) (fun j hj => h j (by omega)), h k (by omega)]

def upd (h : Nat → Nat) (j x : Nat) : Nat → Nat := fun i => if i = j then x else h i

theorem v16_upd (h : Nat → Nat) (j x : Nat) : ∀ n, j < n → v16 (upd h j x) n + h j * W16 ^ j = v16 h n + x * W16 ^ j
  | 0, hj => by omega
  | n + 1, hj => by
    unfold v16
    by_cases e : j = n
    · subst e
      rw [v16_congr (f := upd h j x) (g := h) (fun i hi => by unfold upd; rw [if_neg (by omega)])]
      simp only [upd, if_true]; omega
    · have := v16_upd h j x n (by omega)
      have e2 : upd h j x n = h n := by unfold upd; rw [if_neg (by omega)]
      rw [e2]; omega

theorem v16_zero (n : Nat) : v16 (fun _ => 0) n = 0 := by
  induction n with
  | zero => rfl
  | succ n ih => unfold v16; rw [ih]; simp

theorem v16_lt (f : Nat → Nat) (hf : ∀ j, f j < W16) : ∀ k, v16 f k < W16 ^ k
  | 0 => by simp [v16]
  | k + 1 => by
    have h := v16_lt f hf k
    have h2 : f k + 1 ≤ W16 := hf k
    unfold v16
    calc v16 f k + f k * W16 ^ k < W16 ^ k + f k * W16 ^ k := by omega
      _ = (f k + 1) * W16 ^ k := by rw [Nat.add_mul]; omega
      _ ≤ W16 * W16 ^ k := Nat.mul_le_mul_right _ h2
      _ = W16 ^ (k + 1) := by rw [Nat.pow_succ, Nat.mul_comm]

/-- The digits of a number. -/
def dig (N j : Nat) : Nat := N / W16 ^ j % W16
theorem dig_lt (N j : Nat) : dig N j < W16 := Nat.mod_lt _ (by decide)
theorem v16_dig (N : Nat) : ∀ k, v16 (dig N) k = N % W16 ^ k
  | 0 => by simp [v16, Nat.mod_one]
  | k + 1 => by
    unfold v16
    rw [v16_dig N k, Nat.pow_succ, Nat.mod_mul, Nat.mul_comm (dig N k)]; rfl


theorem div_of_pow (N k : Nat) : N / W16 ^ (k + 1) = N / W16 ^ k / W16 := by rw [Nat.pow_succ, Nat.div_div_eq_div_mul]

/-- What the digits from s on tell, from the top: one more digit. -/
theorem v16_top (f : Nat → Nat) (hf : ∀ j, f j < W16) (L s : Nat) (hs : s ≤ L) : v16 f L % W16 ^ s = v16 f s := by
  obtain ⟨k, rfl⟩ : ∃ k, L = s + k := ⟨L - s, by omega⟩
  clear hs
  induction k with
  | zero => exact Nat.mod_eq_of_lt (v16_lt f hf s)
  | succ k ih =>
    show (v16 f (s + k) + f (s + k) * W16 ^ (s + k)) % W16 ^ s = _
    rw [Nat.pow_add, show f (s + k) * (W16 ^ s * W16 ^ k) = W16 ^ s * (f (s + k) * W16 ^ k) by ac_rfl, Nat.add_mul_mod_self_left, ih]

theorem v16_div (f : Nat → Nat) (hf : ∀ j, f j < W16) (L s : Nat) (hs : s < L) : v16 f L / W16 ^ s = v16 f L / W16 ^ (s + 1) * W16 + f s := by
  have h1 := v16_top f hf L s (by omega)
  have h2 := v16_top f hf L (s + 1) (by omega)
  have h3 := Nat.div_add_mod (v16 f L) (W16 ^ s)
  have h4 := Nat.div_add_mod (v16 f L) (W16 ^ (s + 1))
  rw [h1] at h3; rw [h2] at h4
  have hp : 0 < W16 ^ s := Nat.pow_pos (by decide)
  have e : v16 f (s + 1) = v16 f s + f s * W16 ^ s := rfl
  rw [e] at h4
  have e2 : W16 ^ (s + 1) * (v16 f L / W16 ^ (s + 1)) = W16 ^ s * (v16 f L / W16 ^ (s + 1) * W16) := by rw [Nat.pow_succ]; ac_rfl
  rw [e2] at h4
  have h5 : W16 ^ s * (v16 f L / W16 ^ s) = W16 ^ s * (v16 f L / W16 ^ (s + 1) * W16 + f s) := by
    rw [Nat.mul_add, Nat.mul_comm (W16 ^ s) (f s)]; omega
  exact Nat.eq_of_mul_eq_mul_left hp h5

theorem v16_eq_zero (f : Nat → Nat) : ∀ k, v16 f k = 0 ↔ ∀ j, j < k → f j = 0
  | 0 => by simp [v16]
  | k + 1 => by
    unfold v16
    have h := v16_eq_zero f k
    have hp : 0 < W16 ^ k := Nat.pow_pos (by decide)
    constructor
    · intro e
      have e1 : v16 f k = 0 := by omega
      have e2 : f k * W16 ^ k = 0 := by omega
      have e3 : f k = 0 := by rcases Nat.mul_eq_zero.1 e2 with e | e <;> omega
      intro j hj
      by_cases hjk : j = k
      · subst hjk; exact e3
      · exact h.1 e1 j (by omega)
    · intro e
      rw [h.2 (fun j hj => e j (by omega)), e k (by omega)]; simp

end Go.Proofs.YtpdaigenffecmaaDoor

namespace Go.Proofs.YtpdaigenffecmaaDoor
open Go.RowKit

/-- The cells of n numbers. -/
def cellsI (f : Nat → Nat) (n : Nat) : List Value := (List.range n).map fun j => Value.int .i64 ((f j : Nat) : Int)
theorem cellsI_length (f : Nat → Nat) (n : Nat) : (cellsI f n).length = n := by simp [cellsI]
theorem cellsI_get (f : Nat → Nat) (n j : Nat) (h : j < n) : (cellsI f n)[j]? = some (Value.int .i64 ((f j : Nat) : Int)) := by simp [cellsI, h]
theorem cellsI_snoc (f : Nat → Nat) (n : Nat) : cellsI f (n + 1) = cellsI f n ++ [Value.int .i64 ((f n : Nat) : Int)] := by simp [cellsI, List.range_succ]
theorem cellsI_set (f : Nat → Nat) (n k u : Nat) (hk : k < n) : (cellsI f n).set k (Value.int .i64 ((u : Nat) : Int)) = cellsI (upd f k u) n := by
  apply List.ext_getElem?
  intro j
  by_cases hj : j < n
  · rw [List.getElem?_set]
    by_cases e : k = j
    · subst e; rw [if_pos rfl, if_pos (by rw [cellsI_length]; exact hk), cellsI_get _ _ _ hk]; simp [upd]
    · rw [if_neg e, cellsI_get _ _ _ hj, cellsI_get _ _ _ hj]; unfold upd; rw [if_neg (fun h => e h.symm)]
  · rw [List.getElem?_eq_none (by rw [List.length_set, cellsI_length]; omega), List.getElem?_eq_none (by rw [cellsI_length]; omega)]

theorem info_int : (Tryd.prog.info? 3).map (fun i => (i.zero, i.size, i.bytes)) = some (some (.int .i64 0), 1, 8) := by kernel_rfl
theorem und_ints : Tryd.prog.underlying 114 = some (.slice 3) := by kernel_rfl

set_option maxHeartbeats 1000000 in
theorem c_parts (N : Nat) (w : World) (hN : N ≤ 4503599627370496) :
    Calls Tryd.prog 116 #[.int .i64 (N : Int)] w fun e w' => ∃ v' k, e = .returned v' ∧ w'.ownsRow w.heap.size 3 1 v' k (cellsI (dig N) k) ∧ k ≤ 4 ∧ v16 (dig N) k = N ∧ Below w.heap.size w w' := by
  obtain ⟨i0, hi, hz0, hz1, hz2⟩ := info_parts info_int
  have I := Lib.hid hi; clear hi
  have HB := Lib.hid (Below.refl w.heap.size w)
  go_enter Tryd.func116, Tryd.ntmps116
  go_wp2
  go_loopw [0, 3] (fun n v wr => ∃ (k R : Nat), n = .int .i64 (R : Int) ∧ Hid (R = N / W16 ^ k) ∧ k ≤ 4 ∧ R ≤ 4503599627370496 ∧ wr.ownsRow w.heap.size 3 1 v k (cellsI (dig N) k) ∧ Below w.heap.size w wr) (fun n _ _ => (intOf n).toNat)
  case atStart => exact ⟨0, N, rfl, by unfold Hid; simp, by omega, hN, World.ownsRow_nil _ _ _ _, HB.out⟩
  case round =>
    obtain ⟨k, R, rfl, hR, hk, hRb, hown, hbe⟩ := hrel
    have HR := Lib.hid hown; clear hown
    have HE := Lib.hid hbe; clear hbe
    rcases Nat.eq_zero_or_pos R with h0 | h0
    · subst h0
      have hv : Hid (v16 (dig N) k = N) := by
        unfold Hid; rw [v16_dig]
        have h1 := hR.out
        have hp : 0 < W16 ^ k := Nat.pow_pos (by decide)
        have := Nat.div_add_mod N (W16 ^ k)
        rw [← h1] at this; omega
      go_wp2
      go_ret
      exact ⟨_, k, rfl, HR.out, hk, hv.out, HE.out⟩
    · have t1 : decide ((0 : Int) < (R : Int)) = true := by (simp <;> omega)
      have hk4 : k < 4 := by
        rcases Nat.lt_or_ge k 4 with h | h
        · exact h
        · exfalso
          have : k = 4 := by omega
          have h1 := hR.out
          rw [this, Nat.div_eq_of_lt (by simp only [W16]; omega)] at h1
          omega
      obtain ⟨d, hd⟩ : ∃ d, d = R % 65536 := ⟨_, rfl⟩
      obtain ⟨q, hq⟩ : ∃ q, q = R / 65536 := ⟨_, rfl⟩
      have e1 : (R : Int) % 65536 = (d : Int) := by omega
      have e2 : (R : Int) / 65536 = (q : Int) := by omega
      have e3 : (R : Int).tmod 65536 = (d : Int) := by rw [Int.tmod_eq_emod_of_nonneg (by omega)]; omega
      have e4 : (R : Int).tdiv 65536 = (q : Int) := by rw [Int.tdiv_eq_ediv_of_nonneg (by omega)]; omega
      have hdd : Hid (dig N k = d) := by unfold Hid dig; rw [← hR.out, hd]
      have hqq : Hid (q = N / W16 ^ (k + 1)) := by unfold Hid; rw [div_of_pow, ← hR.out, hq]
      have hlt : q < R := by omega
      clear hd hq
      have hws : w.heap.size ≤ wr.heap.size := HE.out.size
      go_wp2_with (at_builtin; refine wpList_append_own _ rfl _ _ 114 rfl w.heap.size 3 i0 (.int .i64 0) 1 8 und_ints I.out hz0 hz1 hz2 rfl (by decide) _ _ _ rfl (HR.out.alloc _) ⟨wr.heap.size, 0, none⟩ 1 1 [.int .i64 (d : Int)] rfl ?qc1 ?qc2 ?qc3 ?qc4 ?qc5 ?qc6 ?_)
      case qc1 => rfl
      case qc2 =>
        intro j u hj
        match j, hj with
        | 0, hj => simp at hj; subst hj; simp [Addr.add]
      case qc3 => intro u hu; simp at hu; subst hu; rfl
      case qc4 => unfold maxLen; omega
      case qc5 => omega
      case qc6 => simp; omega
      intro v' w2 hown' hgrow _
      have HO := Lib.hid hown'
      have HG := Lib.hid hgrow
      clear hown' hgrow
      go_wp2
      go_roundw
      case rel => exact ⟨k + 1, q, by simp, hqq, hk4, by omega, by rw [cellsI_snoc, hdd.out]; exact HO.out, (HE.out.alloc hws _).grown HG.out (by simp; omega) (by intro x hx; exact (HR.out.lt x hx).1)⟩
      case measure => simp [intOf]; omega

end Go.Proofs.YtpdaigenffecmaaDoor

namespace Go.Proofs.YtpdaigenffecmaaDoor
open Go.RowKit

/-- One digit more of a product: V is what is laid, c the carry at place p, h0 the digit that stood there. -/
theorem prod_digit {V V' c d q h0 F G p T : Nat} (hq : h0 + F * G + c = d + 65536 * q) (hu : V' + h0 * W16 ^ p = V + d * W16 ^ p) (hT : V + c * W16 ^ p = T) :
    V' + q * W16 ^ (p + 1) = T + F * G * W16 ^ p := by
  rw [Nat.pow_succ]
  have e : q * (W16 ^ p * W16) = 65536 * q * W16 ^ p := by simp only [W16]; ac_rfl
  rw [e]
  have h1 : (h0 + F * G + c) * W16 ^ p = (d + 65536 * q) * W16 ^ p := by rw [hq]
  rw [Nat.add_mul, Nat.add_mul, Nat.add_mul] at h1
  omega

theorem dgt_bound {a b c d : Nat} (ha : a < 65536) (hb : b < 65536) (hc : c < 65536) (hd : d < 65536) : d + a * b + c < 4294967296 := by
  have : a * b ≤ 65535 * 65535 := Nat.mul_le_mul (by omega) (by omega)
  omega

theorem madeCells_int (n : Nat) : (madeCells (Value.int .i64 0).cells (n * 1)).toList = cellsI (fun _ => 0) n := by
  apply List.ext_getElem?
  intro j
  by_cases hj : j < n
  · rw [cellsI_get _ _ _ hj]
    simp [madeCells, Value.cells, hj, Nat.mod_one]
  · rw [List.getElem?_eq_none (by simp [madeCells]; omega), List.getElem?_eq_none (by rw [cellsI_length]; omega)]

set_option maxHeartbeats 1000000 in
theorem c_product16 (ba bb : Nat) (va vb : Value) (n m : Nat) (f g : Nat → Nat) (w : World) (hn : 1 ≤ n) (hn2 : n ≤ 100) (hm2 : m ≤ 100) (hf : ∀ j, f j < W16) (hg : ∀ j, g j < W16)
    (hoa : w.ownsRow ba 3 1 va n (cellsI f n)) (hob : w.ownsRow bb 3 1 vb m (cellsI g m)) :
    Calls Tryd.prog 115 #[va, vb] w fun e w' => ∃ v' h, e = .returned v' ∧ w'.ownsRow w.heap.size 3 1 v' (n + m) (cellsI h (n + m)) ∧ (∀ j, h j < W16) ∧ v16 h (n + m) = v16 f n * v16 g m ∧ Below w.heap.size w w' := by
  obtain ⟨i0, hi, hz0, hz1, hz2⟩ := info_parts info_int
  have I := Lib.hid hi; clear hi
  have HF := Lib.hid hf; clear hf
  have HG := Lib.hid hg; clear hg
  have OA := Lib.hid hoa
  have OB := Lib.hid hob
  obtain ⟨ga, ca, rfl⟩ := Joins.ownsRow_form hoa (by omega)
  have hgb : ∃ pb cb, vb = .slice pb m cb := by
    rcases Joins.ownsRow_forms hob with ⟨e, e2⟩ | ⟨gb, cb, e⟩
    · subst e2; exact ⟨none, 0, e⟩
    · exact ⟨_, cb, e⟩
  obtain ⟨pb, cb, rfl⟩ := hgb
  clear hoa hob
  go_enter Tryd.func115, Tryd.ntmps115
  go_wp2_with (first | (refine wpList_make_full _ rfl _ _ 114 rfl w.heap.size 3 i0 (.int .i64 0) 1 und_ints I.out hz0 hz1 .i64 .i64 _ _ (n + m) rfl rfl (by simp) (by simp) (by rw [hz2]; omega) (by unfold maxLen; omega) (Nat.le_refl _) ?_; intro w1 hown hgrow; (have HO := Lib.hid hown); (have HGR := Lib.hid hgrow); clear hown hgrow))
  have HO0 : Hid (w1.ownsRow w.heap.size 3 1 (Value.slice (some { block := w.heap.size, off := 0 }) (n + m) (n + m)) (n + m) (cellsI (fun _ => 0) (n + m))) := by
    have := HO.out; rw [madeCells_int] at this; exact this
  clear HO
  have HB0 : Hid (Below w.heap.size w w1) := (Below.refl _ w).grown HGR.out (Nat.le_refl _) (by intro x hx; cases hx)
  clear HGR
  have HFin : Hid (∀ j, j < n → w.cell? ⟨ga, j, none⟩ = some (.int .i64 ((f j : Nat) : Int))) := fun j hj => by rw [OA.out.cellAt j (by omega), cellsI_get _ _ _ hj]
  have hga : ga < w.heap.size := (OA.out.lt ga rfl).2
  have HGin : Hid (∀ j, j < m → ∃ gb, pb = some ⟨gb, 0, none⟩ ∧ gb < w.heap.size ∧ w.cell? ⟨gb, j, none⟩ = some (.int .i64 ((g j : Nat) : Int))) := fun j hj => by
    obtain ⟨gb, cb', e⟩ := Joins.ownsRow_form OB.out (by omega)
    injection e with e1 e2 e3
    subst e1
    subst e3
    exact ⟨gb, rfl, (OB.out.lt gb rfl).2, by rw [OB.out.cellAt j (by omega), cellsI_get _ _ _ hj]⟩
  clear OA OB
  go_loopw [6] (fun iv wr => ∃ (i : Nat) (h : Nat → Nat), iv = .int .i64 (i : Int) ∧ i ≤ n ∧ Hid (wr.ownsRow w.heap.size 3 1 (Value.slice (some { block := w.heap.size, off := 0 }) (n + m) (n + m)) (n + m) (cellsI h (n + m))) ∧
    Hid (∀ j, h j < W16) ∧ Hid (v16 h (n + m) = v16 f i * v16 g m) ∧ Hid (∀ j, i + m ≤ j → h j = 0) ∧ Hid (Below w.heap.size w wr)) (fun iv _ => n - (intOf iv).toNat)
  case atStart => exact ⟨0, fun _ => 0, rfl, by omega, HO0.out, fun _ => (by decide : (0 : Nat) < W16), by unfold Hid; rw [v16_zero]; simp [v16], fun _ _ => rfl, HB0.out⟩
  case round =>
    obtain ⟨i, h, rfl, hi, ho, hd, hv, hz, hbe⟩ := hrel
    rcases Nat.lt_or_ge i n with hlt | hge
    · have t1 : decide ((i : Int) < (n : Int)) = true := by (simp <;> omega)
      go_wp2
      go_loopw [7, 8] (fun cv kv wx => ∃ (k c : Nat) (h : Nat → Nat), cv = .int .i64 (c : Int) ∧ kv = .int .i64 (k : Int) ∧ k ≤ m ∧ c < 65536 ∧ Hid (wx.ownsRow w.heap.size 3 1 (Value.slice (some { block := w.heap.size, off := 0 }) (n + m) (n + m)) (n + m) (cellsI h (n + m))) ∧
        Hid (∀ j, h j < W16) ∧ Hid (v16 h (n + m) + c * W16 ^ (i + k) = v16 f i * v16 g m + f i * v16 g k * W16 ^ i) ∧ Hid (∀ j, i + m ≤ j → h j = 0) ∧ Hid (Below w.heap.size w wx)) (fun _ kv _ => m - (intOf kv).toNat)
      case atStart => exact ⟨0, 0, h, rfl, rfl, by omega, by omega, ho, hd, by unfold Hid; rw [hv.out]; simp [v16], hz, hbe⟩
      case round =>
        clear ho hd hv hz hbe h
        obtain ⟨k, c, h, rfl, rfl, hk, hc, ho, hd, hv, hz, hbe⟩ := hrel
        rcases Nat.lt_or_ge k m with hkm | hkm
        · have t2 : decide ((k : Int) < (m : Int)) = true := by (simp <;> omega)
          obtain ⟨gb, rfl, hgb, hgc⟩ := HGin.out k hkm
          obtain ⟨F, hF⟩ : ∃ F, F = f i := ⟨_, rfl⟩
          obtain ⟨G, hG⟩ : ∃ G, G = g k := ⟨_, rfl⟩
          obtain ⟨D, hD⟩ : ∃ D, D = h (i + k) := ⟨_, rfl⟩
          obtain ⟨P, hP⟩ : ∃ P, P = F * G := ⟨_, rfl⟩
          have bF : F < 65536 := by rw [hF]; exact HF.out i
          have bG : G < 65536 := by rw [hG]; exact HG.out k
          have bD : D < 65536 := by rw [hD]; exact hd.out _
          have bP : D + P + c < 4294967296 := by rw [hP]; exact dgt_bound bF bG hc bD
          have gP : (F : Int) * (G : Int) = (P : Int) := by rw [hP]; simp
          have c1 : wr.cell? ⟨w.heap.size, i + k, none⟩ = some (.int .i64 (D : Int)) := by rw [hD, ho.out.cellAt (i + k) (by omega), cellsI_get _ _ _ (by omega)]
          have c2 : wr.cell? ⟨ga, i, none⟩ = some (.int .i64 (F : Int)) := by rw [hF, (bcell hbe.out).1 _ _ hga]; exact HFin.out i hlt
          have c3 : wr.cell? ⟨gb, k, none⟩ = some (.int .i64 (G : Int)) := by rw [hG, (bcell hbe.out).1 _ _ hgb]; exact hgc
          have c4 : wr.frozen? ⟨w.heap.size, i + k, none⟩ = false := ho.out.frozenAt _
          obtain ⟨d, hdd⟩ : ∃ d, d = (D + P + c) % 65536 := ⟨_, rfl⟩
          obtain ⟨q, hq⟩ : ∃ q, q = (D + P + c) / 65536 := ⟨_, rfl⟩
          have e3 : ((D : Int) + (P : Int) + (c : Int)).tmod 65536 = (d : Int) := by rw [Int.tmod_eq_emod_of_nonneg (by omega)]; omega
          have e4 : ((D : Int) + (P : Int) + (c : Int)).tdiv 65536 = (q : Int) := by rw [Int.tdiv_eq_ediv_of_nonneg (by omega)]; omega
          have e5 : ((D : Int) + (P : Int) + (c : Int)) % 65536 = (d : Int) := by omega
          have e6 : ((D : Int) + (P : Int) + (c : Int)) / 65536 = (q : Int) := by omega
          have bd : d < 65536 := by omega
          have bq : q < 65536 := by omega
          have HN : Hid (v16 (upd h (i + k) d) (n + m) + q * W16 ^ (i + (k + 1)) = v16 f i * v16 g m + f i * v16 g (k + 1) * W16 ^ i) := by
            unfold Hid
            have hu := v16_upd h (i + k) d (n + m) (by omega)
            have := prod_digit (h0 := D) (F := F) (G := G) (c := c) (d := d) (q := q) (p := i + k) (V := v16 h (n + m)) (V' := v16 (upd h (i + k) d) (n + m)) (T := v16 f i * v16 g m + f i * v16 g k * W16 ^ i) (by rw [← hP]; omega) (by rw [hD]; exact hu) hv.out
            rw [← Nat.add_assoc, this]
            show _ = _ + f i * (v16 g k + g k * W16 ^ k) * W16 ^ i
            rw [Nat.mul_add, Nat.add_mul, Nat.pow_add, ← hF, ← hG]
            have : F * G * (W16 ^ i * W16 ^ k) = F * (G * W16 ^ k) * W16 ^ i := by ac_rfl
            omega
          clear hF hG hD hP hdd hq hgc
          have x1 : (i : Int) + (k : Int) < (n : Int) + (m : Int) := by omega
          have x2 : (0 : Int) ≤ (i : Int) + (k : Int) := by omega
          have x3 : (0 : Int) ≤ (i : Int) := by omega
          have x4 : (0 : Int) ≤ (k : Int) := by omega
          have x5 : (i : Int) < (n : Int) := by omega
          have x6 : (k : Int) < (m : Int) := by omega
          go_wp2_with (first | (go_quiet (fail)))
          go_roundw
          case rel =>
            refine ⟨k + 1, q, upd h (i + k) d, rfl, by simp, hkm, bq, ?_, ?_, HN.out, ?_, ?_⟩
            · have := (ho.out.stored (i + k) (.int .i64 (d : Int))).1
              rw [cellsI_set _ _ _ _ (by omega)] at this
              exact this
            · intro j; unfold upd; split
              · exact bd
              · exact hd.out j
            · intro j hj; unfold upd; rw [if_neg (by omega)]; exact hz.out j hj
            · exact (below_drewN hbe.out _).setCell (Nat.le_refl _) _
          case measure => simp [intOf]; omega
        · have hkm2 : k = m := by omega
          subst hkm2
          have t2 : decide ((k : Int) < (k : Int)) = false := by simp
          have t2' : ¬ (k : Int) < (k : Int) := by omega
          have c1 : wr.cell? ⟨w.heap.size, i + k, none⟩ = some (.int .i64 0) := by rw [ho.out.cellAt (i + k) (by omega), cellsI_get _ _ _ (by omega), hz.out (i + k) (Nat.le_refl _)]; rfl
          have c4 : wr.frozen? ⟨w.heap.size, i + k, none⟩ = false := ho.out.frozenAt _
          have HN : Hid (v16 (upd h (i + k) c) (n + k) = v16 f (i + 1) * v16 g k) := by
            unfold Hid
            have hu := v16_upd h (i + k) c (n + k) (by omega)
            rw [hz.out (i + k) (Nat.le_refl _)] at hu
            have h1 := hv.out
            show _ = (v16 f i + f i * W16 ^ i) * v16 g k
            rw [Nat.add_mul]
            have : f i * W16 ^ i * v16 g k = f i * v16 g k * W16 ^ i := by ac_rfl
            omega
          have x1 : (i : Int) + (k : Int) < (n : Int) + (k : Int) := by omega
          have x2 : (0 : Int) ≤ (i : Int) + (k : Int) := by omega
          go_wp2
          go_roundw
          case rel =>
            refine ⟨i + 1, upd h (i + k) c, by simp, hlt, ?_, ?_, HN.out, ?_, ?_⟩
            · have := (ho.out.stored (i + k) (.int .i64 (c : Int))).1
              rw [cellsI_set _ _ _ _ (by omega)] at this
              exact this
            · intro j; unfold upd; split
              · exact hc
              · exact hd.out j
            · intro j hj; unfold upd; rw [if_neg (by omega)]; exact hz.out j (by omega)
            · exact hbe.out.setCell (Nat.le_refl _) _
          case measure => simp [intOf]; omega
    · have hin : i = n := by omega
      subst hin
      have t1 : decide ((i : Int) < (i : Int)) = false := by simp
      have t1' : ¬ (i : Int) < (i : Int) := by omega
      go_wp2
      go_ret
      exact ⟨_, rfl, h, ho.out, hd.out, hv.out, hbe.out⟩

end Go.Proofs.YtpdaigenffecmaaDoor

namespace Go.Proofs.YtpdaigenffecmaaDoor

/-- A power, rounded, as the reference reckons it: m + 1 factors. -/
def rpw (v m : Nat) (up : Bool) : Nat := v ^ (m + 1) / W16 ^ (2 * m) + if up = true ∧ v ^ (m + 1) % W16 ^ (2 * m) ≠ 0 then 1 else 0

theorem rpw_zero (m : Nat) (up : Bool) : rpw 0 m up = 0 := by
  unfold rpw; rw [Nat.zero_pow (by omega)]; simp

theorem rpw_le (v m : Nat) : rpw v m false ≤ rpw v m true ∧ rpw v m true ≤ rpw v m false + 1 := by
  unfold rpw; simp only [Bool.false_eq_true, false_and, if_false, true_and]; split <;> omega

theorem ceil_eq (P D : Nat) (hD : 0 < D) : P / D + (if P % D ≠ 0 then 1 else 0) = (P + (D - 1)) / D := by
  have h := Nat.div_add_mod P D
  have h2 := Nat.mod_lt P hD
  generalize P / D = q at *
  generalize P % D = r at *
  split
  · symm
    refine (Nat.div_eq_of_lt_le ?_ ?_)
    · rw [Nat.add_mul, Nat.mul_comm q D]; omega
    · rw [Nat.add_mul, Nat.add_mul, Nat.mul_comm q D]; omega
  · symm
    refine (Nat.div_eq_of_lt_le ?_ ?_)
    · rw [Nat.add_zero, Nat.mul_comm q D]; omega
    · rw [Nat.add_zero, Nat.add_mul, Nat.mul_comm q D]; omega

theorem rpw_mono {v u : Nat} (m : Nat) (up : Bool) (h : v ≤ u) : rpw v m up ≤ rpw u m up := by
  have hp : v ^ (m + 1) ≤ u ^ (m + 1) := Nat.pow_le_pow_left h _
  have hD : 0 < W16 ^ (2 * m) := Nat.pow_pos (by decide)
  cases up
  · unfold rpw; simp only [Bool.false_eq_true, false_and, if_false]
    exact Nat.div_le_div_right hp
  · unfold rpw; simp only [true_and]
    rw [ceil_eq _ _ hD, ceil_eq _ _ hD]
    exact Nat.div_le_div_right (by omega)

theorem D_eq (m : Nat) : 4294967296 ^ m = W16 ^ (2 * m) := by
  rw [show (4294967296 : Nat) = W16 ^ 2 by decide, ← Nat.pow_mul]

theorem pwS_rpw (v : Int) (m : Nat) : pwS v (m + 1) =
    if 4503599627370496 < rpw v.natAbs m false then (0, 0, 6) else
    if v < 0 ∧ (m + 1) % 2 = 1 then (-(rpw v.natAbs m true : Int), -(rpw v.natAbs m false : Int), 0) else ((rpw v.natAbs m false : Int), (rpw v.natAbs m true : Int), 0) := by
  unfold pwS rpw
  simp only [Nat.add_sub_cancel, D_eq, Bool.false_eq_true, false_and, if_false, true_and, Nat.add_zero]
  by_cases h : v.natAbs ^ (m + 1) % W16 ^ (2 * m) = 0
  · simp [h]
  · simp [h]

/-- The reference's power of a number, rounded; whether it fits. -/
def rzDir (v : Int) (m : Nat) (up : Bool) : Bool := if v < 0 ∧ (m + 1) % 2 = 1 then !up else up
def rz (v : Int) (m : Nat) (up : Bool) : Int := if v < 0 ∧ (m + 1) % 2 = 1 then -(rpw v.natAbs m (!up) : Int) else (rpw v.natAbs m up : Int)
def rzf (v : Int) (m : Nat) (up : Bool) : Bool := decide (rpw v.natAbs m (rzDir v m up) ≤ 4503599627370496)

/-- The lower end as the reference takes it. -/
def rzLo (a b : Int) (m : Nat) : Int := if (m + 1) % 2 = 0 ∧ a < 0 ∧ 0 < b then 0 else min (rz a m false) (rz b m false)

theorem all_fit {a b : Int} {m : Nat} : (rzf a m false && rzf b m false && rzf a m true && rzf b m true) = true ↔ rpw a.natAbs m true ≤ 4503599627370496 ∧ rpw b.natAbs m true ≤ 4503599627370496 := by
  have ha := rpw_le a.natAbs m
  have hb := rpw_le b.natAbs m
  unfold rzf rzDir
  simp only [Bool.and_eq_true, decide_eq_true_eq]
  by_cases h1 : a < 0 ∧ (m + 1) % 2 = 1 <;> by_cases h2 : b < 0 ∧ (m + 1) % 2 = 1
  · simp only [if_pos h1, if_pos h2, Bool.not_false, Bool.not_true]; omega
  · simp only [if_pos h1, if_neg h2, Bool.not_false, Bool.not_true]; omega
  · simp only [if_neg h1, if_pos h2, Bool.not_false, Bool.not_true]; omega
  · simp only [if_neg h1, if_neg h2]; omega

theorem spPow_ref_ok (al ah : Int) (m : Nat) (h : spChk (al, ah) = 0) (hm : m ≤ 15) (hf : (rzf al m false && rzf ah m false && rzf al m true && rzf ah m true) = true) :
    spPow (al, ah) ((m : Int) + 1) = spRes (rzLo al ah m) (max (rz al m true) (rz ah m true)) true := by
  obtain ⟨f1, f2⟩ := all_fit.1 hf
  obtain ⟨h1, h2, h3⟩ := spChk_ok h
  simp only at h1 h2 h3
  have ha := rpw_le al.natAbs m
  have hb := rpw_le ah.natAbs m
  by_cases ho : (m + 1) % 2 = 1
  · rw [show ((m : Int) + 1) = ((m + 1 : Nat) : Int) by simp, spPow_odd _ _ h (by omega) ho]
    rw [pwS_rpw, pwS_rpw]
    simp only
    rw [if_neg (show ¬ 4503599627370496 < rpw al.natAbs m false by omega), if_neg (show ¬ 4503599627370496 < rpw ah.natAbs m false by omega)]
    unfold rzLo rz
    rw [if_neg (show ¬ ((m + 1) % 2 = 0 ∧ al < 0 ∧ 0 < ah) by omega)]
    by_cases e1 : al < 0 <;> by_cases e2 : ah < 0
    · have hm1 := rpw_mono m true (show ah.natAbs ≤ al.natAbs by omega)
      have hm2 := rpw_mono m false (show ah.natAbs ≤ al.natAbs by omega)
      simp only [if_pos (show al < 0 ∧ (m + 1) % 2 = 1 from ⟨e1, ho⟩), if_pos (show ah < 0 ∧ (m + 1) % 2 = 1 from ⟨e2, ho⟩), Bool.not_false, Bool.not_true]
      rw [Int.min_eq_left (by omega), Int.max_eq_right (by omega), spRes_told _ _ (by omega), spPowOf_ok _ _ rfl rfl]
    · have n2 : ¬ (ah < 0 ∧ (m + 1) % 2 = 1) := by omega
      simp only [if_pos (show al < 0 ∧ (m + 1) % 2 = 1 from ⟨e1, ho⟩), if_neg n2, Bool.not_false, Bool.not_true]
      rw [Int.min_eq_left (by omega), Int.max_eq_right (by omega), spRes_told _ _ (by omega), spPowOf_ok _ _ rfl rfl]
    · omega
    · have hm1 := rpw_mono m true (show al.natAbs ≤ ah.natAbs by omega)
      have hm2 := rpw_mono m false (show al.natAbs ≤ ah.natAbs by omega)
      have n1 : ¬ (al < 0 ∧ (m + 1) % 2 = 1) := by omega
      have n2 : ¬ (ah < 0 ∧ (m + 1) % 2 = 1) := by omega
      simp only [if_neg n1, if_neg n2]
      rw [Int.min_eq_left (by omega), Int.max_eq_right (by omega), spRes_told _ _ (by omega), spPowOf_ok _ _ rfl rfl]
  · have ho2 : (m + 1) % 2 = 0 := by omega
    rw [show ((m : Int) + 1) = ((m + 1 : Nat) : Int) by simp, spPow_even _ _ h (by omega) (by omega) ho2]
    have eL : 0 ≤ abLo (al, ah) := by unfold abLo; simp only; omega
    have eH : 0 ≤ abHi (al, ah) := by unfold abHi; simp only; omega
    have eHa : (abHi (al, ah)).natAbs = max al.natAbs ah.natAbs := by unfold abHi; simp only; omega
    have uH : rpw (abHi (al, ah)).natAbs m true = max (rpw al.natAbs m true) (rpw ah.natAbs m true) := by
      rw [eHa]
      rcases Nat.le_total al.natAbs ah.natAbs with e | e
      · have := rpw_mono m true e; rw [Nat.max_eq_right e]; omega
      · have := rpw_mono m true e; rw [Nat.max_eq_left e]; omega
    have hbb := rpw_le (abHi (al, ah)).natAbs m
    have hLH : (abLo (al, ah)).natAbs ≤ (abHi (al, ah)).natAbs := by unfold abLo abHi; simp only; omega
    have mm := rpw_mono m false hLH
    have eLo : rzLo al ah m = (rpw (abLo (al, ah)).natAbs m false : Int) := by
      unfold rzLo rz
      simp only [ho, and_false, if_false, ho2, true_and]
      split
      · have : abLo (al, ah) = 0 := by unfold abLo; simp only; omega
        rw [this]; simp [rpw_zero]
      · rename_i hs
        rcases Nat.le_total al.natAbs ah.natAbs with e | e
        · have h4 := rpw_mono m false e
          have : (abLo (al, ah)).natAbs = al.natAbs := by unfold abLo; simp only; omega
          rw [this]; omega
        · have h4 := rpw_mono m false e
          have : (abLo (al, ah)).natAbs = ah.natAbs := by unfold abLo; simp only; omega
          rw [this]; omega
    have eHi : max (rz al m true) (rz ah m true) = (rpw (abHi (al, ah)).natAbs m true : Int) := by
      unfold rz; simp only [ho, and_false, if_false]; omega
    rw [eLo, eHi, spRes_told _ _ (by omega), pwS_rpw, pwS_rpw, if_neg (by omega), if_neg (by omega), if_neg (by omega), if_neg (by omega), spPowOf_ok _ _ rfl rfl]

theorem spPow_ref_bad (al ah : Int) (m : Nat) (h : spChk (al, ah) = 0) (hm : m ≤ 15) (hf : (rzf al m false && rzf ah m false && rzf al m true && rzf ah m true) = false) :
    spPow (al, ah) ((m : Int) + 1) = (0, 0, 6) := by
  have hf' : ¬ (rpw al.natAbs m true ≤ 4503599627370496 ∧ rpw ah.natAbs m true ≤ 4503599627370496) := fun h2 => by
    rw [all_fit.2 h2] at hf; cases hf
  obtain ⟨h1, h2, h3⟩ := spChk_ok h
  simp only at h1 h2 h3
  have ha := rpw_le al.natAbs m
  have hb := rpw_le ah.natAbs m
  have told_big : ∀ lo hi : Int, lo < -4503599627370496 ∨ 4503599627370496 < hi → spTold lo hi = (0, 0, 6) := fun lo hi hh => by unfold spTold; rw [if_pos hh]
  by_cases ho : (m + 1) % 2 = 1
  · rw [show ((m : Int) + 1) = ((m + 1 : Nat) : Int) by simp, spPow_odd _ _ h (by omega) ho]
    rw [pwS_rpw, pwS_rpw]
    simp only [ho, and_true]
    by_cases g1 : 4503599627370496 < rpw al.natAbs m false
    · rw [if_pos g1]; exact spPowOf_bad _ _ (.inl (by decide))
    · by_cases g2 : 4503599627370496 < rpw ah.natAbs m false
      · rw [if_pos g2]; exact spPowOf_bad _ _ (.inr (by decide))
      · rw [if_neg g1, if_neg g2]
        by_cases e1 : al < 0 <;> by_cases e2 : ah < 0
        · have hm1 := rpw_mono m true (show ah.natAbs ≤ al.natAbs by omega)
          rw [if_pos e1, if_pos e2, spPowOf_ok _ _ rfl rfl]; exact told_big _ _ (by simp only; omega)
        · rw [if_pos e1, if_neg e2, spPowOf_ok _ _ rfl rfl]; exact told_big _ _ (by simp only; omega)
        · omega
        · have hm1 := rpw_mono m true (show al.natAbs ≤ ah.natAbs by omega)
          rw [if_neg e1, if_neg e2, spPowOf_ok _ _ rfl rfl]; exact told_big _ _ (by simp only; omega)
  · have ho2 : (m + 1) % 2 = 0 := by omega
    rw [show ((m : Int) + 1) = ((m + 1 : Nat) : Int) by simp, spPow_even _ _ h (by omega) (by omega) ho2]
    have eL : 0 ≤ abLo (al, ah) := by unfold abLo; simp only; omega
    have eH : 0 ≤ abHi (al, ah) := by unfold abHi; simp only; omega
    have g : 4503599627370496 < rpw (abHi (al, ah)).natAbs m true := by
      have e1 := rpw_mono m true (show al.natAbs ≤ (abHi (al, ah)).natAbs by unfold abHi; simp only; omega)
      have e2 := rpw_mono m true (show ah.natAbs ≤ (abHi (al, ah)).natAbs by unfold abHi; simp only; omega)
      omega
    rw [pwS_rpw, pwS_rpw]
    by_cases g1 : 4503599627370496 < rpw (abLo (al, ah)).natAbs m false
    · rw [if_pos g1]; exact spPowOf_bad _ _ (.inl (by decide))
    · by_cases g2 : 4503599627370496 < rpw (abHi (al, ah)).natAbs m false
      · rw [if_pos g2]; exact spPowOf_bad _ _ (.inr (by decide))
      · rw [if_neg g1, if_neg g2, if_neg (by omega), if_neg (by omega), spPowOf_ok _ _ rfl rfl]
        exact told_big _ _ (by simp only; omega)

end Go.Proofs.YtpdaigenffecmaaDoor
