/-
  The statement SpanRings: its code answers true. The statement SpanRings: its code answers true.
-/
import Derived.Test.YtpdaigenffecmaaDoorM22
import Derived.Test.YtpdaigenffecmaaDoorM27
import Derived.Test.YtpdaigenffecmaaDoorM31
set_option linter.all false
namespace Go.Proofs.YtpdaigenffecmaaDoor
open Go.RowKit

def yYgFTL : List Ent := [
  ⟨13, [.v (.agg (dr 4))], .v (SR [10, 11])⟩,
  ⟨13, [.v (.agg (dr 7))], .v (SR [12, 13])⟩,
  ⟨64, [.v (.agg (dr 4))], .v (SR [14, 15])⟩,
  ⟨64, [.v (.agg (dr 7))], .v (SR [16, 17])⟩,
  ⟨18, [SV [0, 1]], .v (.one (.int .i64 (.lit 20)))⟩,
  ⟨30, [SV [0, 1], SV [2, 3]], RE [0, 0] 20⟩,
  ⟨18, [SV [10, 11]], .v (.one (.int .i64 (.lit 0)))⟩,
  ⟨18, [SV [12, 13]], .v (.one (.int .i64 (.lit 0)))⟩,
  ⟨24, [SV [10, 11], SV [12, 13]], SE [18, 19] 20⟩,
  ⟨24, [SV [12, 13], SV [10, 11]], SE [18, 19] 20⟩,
  ⟨30, [SV [10, 11], SV [12, 13]], SE [21, 22] 23⟩,
  ⟨30, [SV [12, 13], SV [10, 11]], SE [21, 22] 23⟩,
  ⟨38, [SV [10, 11], SV [12, 13]], SE [24, 25] 26⟩,
  ⟨38, [SV [12, 13], SV [10, 11]], SE [24, 25] 26⟩,
  ⟨40, [SV [10, 11], SV [12, 13]], SE [27, 28] 29⟩,
  ⟨40, [SV [12, 13], SV [10, 11]], SE [27, 28] 29⟩,
  ⟨42, [SV [10, 11], SV [12, 13]], SE [30, 31] 32⟩,
  ⟨42, [SV [12, 13], SV [10, 11]], SE [30, 31] 32⟩,
  ⟨44, [SV [10, 11], SV [12, 13]], SE [33, 34] 35⟩,
  ⟨44, [SV [12, 13], SV [10, 11]], SE [33, 34] 35⟩,
  ⟨28, [SV [12, 13]], SE0 [36, 37]⟩,
  ⟨28, [SV [36, 37]], SE0 [12, 13]⟩,
  ⟨26, [SV [10, 11], SV [12, 13]], SE [38, 39] 40⟩,
  ⟨24, [SV [10, 11], SV [36, 37]], SE [38, 39] 40⟩,
  ⟨30, [SV [10, 11], Rw [4294967296, 4294967296]], SE0 [10, 11]⟩,
  ⟨47, [SV [10, 11], Rw [4294967296, 4294967296]], SE0 [10, 11]⟩,
  ⟨32, [SV [10, 11]], SE [41, 42] 43⟩,
  ⟨30, [SV [10, 11], SV [10, 11]], SE [44, 45] 46⟩,
  ⟨48, [SV [41, 42], .v (.one (S1 43)), SV [44, 45], .v (.one (S1 46))], .v (.one (.bool true))⟩,
  ⟨18, [SV [14, 15]], .v (.one (.int .i64 (.lit 0)))⟩,
  ⟨18, [SV [16, 17]], .v (.one (.int .i64 (.lit 0)))⟩,
  ⟨24, [SV [14, 15], SV [16, 17]], SE [47, 48] 49⟩,
  ⟨24, [SV [16, 17], SV [14, 15]], SE [47, 48] 49⟩,
  ⟨30, [SV [14, 15], SV [16, 17]], SE [50, 51] 52⟩,
  ⟨30, [SV [16, 17], SV [14, 15]], SE [50, 51] 52⟩,
  ⟨38, [SV [14, 15], SV [16, 17]], SE [53, 54] 55⟩,
  ⟨38, [SV [16, 17], SV [14, 15]], SE [53, 54] 55⟩,
  ⟨40, [SV [14, 15], SV [16, 17]], SE [56, 57] 58⟩,
  ⟨40, [SV [16, 17], SV [14, 15]], SE [56, 57] 58⟩,
  ⟨42, [SV [14, 15], SV [16, 17]], SE [59, 60] 61⟩,
  ⟨42, [SV [16, 17], SV [14, 15]], SE [59, 60] 61⟩,
  ⟨44, [SV [14, 15], SV [16, 17]], SE [62, 63] 64⟩,
  ⟨44, [SV [16, 17], SV [14, 15]], SE [62, 63] 64⟩,
  ⟨28, [SV [16, 17]], SE0 [65, 66]⟩,
  ⟨28, [SV [65, 66]], SE0 [16, 17]⟩,
  ⟨26, [SV [14, 15], SV [16, 17]], SE [67, 68] 69⟩,
  ⟨24, [SV [14, 15], SV [65, 66]], SE [67, 68] 69⟩,
  ⟨30, [SV [14, 15], Rw [4294967296, 4294967296]], SE0 [14, 15]⟩,
  ⟨47, [SV [14, 15], Rw [4294967296, 4294967296]], SE0 [14, 15]⟩,
  ⟨32, [SV [14, 15]], SE [70, 71] 72⟩,
  ⟨30, [SV [14, 15], SV [14, 15]], SE [73, 74] 75⟩,
  ⟨48, [SV [70, 71], .v (.one (S1 72)), SV [73, 74], .v (.one (S1 75))], .v (.one (.bool true))⟩,
  ⟨24, [SV [10, 11], SV [16, 17]], SE [76, 77] 78⟩,
  ⟨24, [SV [16, 17], SV [10, 11]], SE [76, 77] 78⟩,
  ⟨30, [SV [10, 11], SV [16, 17]], SE [79, 80] 81⟩,
  ⟨30, [SV [16, 17], SV [10, 11]], SE [79, 80] 81⟩,
  ⟨38, [SV [10, 11], SV [16, 17]], SE [82, 83] 84⟩,
  ⟨38, [SV [16, 17], SV [10, 11]], SE [82, 83] 84⟩,
  ⟨40, [SV [10, 11], SV [16, 17]], SE [85, 86] 87⟩,
  ⟨40, [SV [16, 17], SV [10, 11]], SE [85, 86] 87⟩,
  ⟨42, [SV [10, 11], SV [16, 17]], SE [88, 89] 90⟩,
  ⟨42, [SV [16, 17], SV [10, 11]], SE [88, 89] 90⟩,
  ⟨44, [SV [10, 11], SV [16, 17]], SE [91, 92] 93⟩,
  ⟨44, [SV [16, 17], SV [10, 11]], SE [91, 92] 93⟩,
  ⟨26, [SV [10, 11], SV [16, 17]], SE [94, 95] 96⟩,
  ⟨24, [SV [10, 11], SV [65, 66]], SE [94, 95] 96⟩,
  ⟨30, [SV [0, 1], SV [12, 13]], RE [0, 0] 20⟩]
def yYgFTF : Facts := { cmp := [], ar := [], cv := [], mm := [] }
def yYgFTA : List AV := [.v (.agg ((rg 0 4).map S1 ++ dr 4 ++ dr 7))]

set_option maxRecDepth 100000 in
theorem yYgFT_run : runM Tryd.prog (tab Tryd.prog yYgFTF [(23, 2)] (wkE :: yYgFTL) []) 6 pwM 8 yYgFTA = some (.v (.one (.bool true))) := by kernel_rfl

set_option maxRecDepth 100000 in
set_option maxHeartbeats 4000000 in
theorem c_lawSpanRingsFT (a0 a1 b0 b1 d0 d1 d2 e0 e1 e2 : Int) (hd1 : 0 ≤ d1 ∧ d1 ≤ 255) (hd2 : 0 ≤ d2 ∧ d2 ≤ 4294967295) (he1 : 0 ≤ e1 ∧ e1 ≤ 255) (he2 : 0 ≤ e2 ∧ e2 ≤ 4294967295) (hA : spChk (a0, a1) ≠ 0) (hB : spChk (b0, b1) = 0) (w : World) (hp : Pow10 w) :
    Calls Tryd.prog 8 #[.agg #[.int .i64 a0, .int .i64 a1, .int .i64 b0, .int .i64 b1, .int .i64 d0, .int .u8 d1, .int .u32 d2, .int .i64 e0, .int .u8 e1, .int .u32 e2]] w fun e w' => e = .returned (.bool true) ∧ Below w.heap.size w w' := by
  obtain ⟨ρ, hρ⟩ : ∃ ρ, ρ = ρL [a0, a1, b0, b1, d0, d1, d2, e0, e1, e2, (dLo 52 d0 d1), (dHi d0 d1 d2), (dLo 52 e0 e1), (dHi e0 e1 e2), (dLo 37 d0 d1), (dHs d0 d1 d2), (dLo 37 e0 e1), (dHs e0 e1 e2), (spAdd ((dLo 52 d0 d1), (dHi d0 d1 d2)) ((dLo 52 e0 e1), (dHi e0 e1 e2))).1, (spAdd ((dLo 52 d0 d1), (dHi d0 d1 d2)) ((dLo 52 e0 e1), (dHi e0 e1 e2))).2.1, (spAdd ((dLo 52 d0 d1), (dHi d0 d1 d2)) ((dLo 52 e0 e1), (dHi e0 e1 e2))).2.2, (spMul ((dLo 52 d0 d1), (dHi d0 d1 d2)) ((dLo 52 e0 e1), (dHi e0 e1 e2))).1, (spMul ((dLo 52 d0 d1), (dHi d0 d1 d2)) ((dLo 52 e0 e1), (dHi e0 e1 e2))).2.1, (spMul ((dLo 52 d0 d1), (dHi d0 d1 d2)) ((dLo 52 e0 e1), (dHi e0 e1 e2))).2.2, (spMin ((dLo 52 d0 d1), (dHi d0 d1 d2)) ((dLo 52 e0 e1), (dHi e0 e1 e2))).1, (spMin ((dLo 52 d0 d1), (dHi d0 d1 d2)) ((dLo 52 e0 e1), (dHi e0 e1 e2))).2.1, (spMin ((dLo 52 d0 d1), (dHi d0 d1 d2)) ((dLo 52 e0 e1), (dHi e0 e1 e2))).2.2, (spMax ((dLo 52 d0 d1), (dHi d0 d1 d2)) ((dLo 52 e0 e1), (dHi e0 e1 e2))).1, (spMax ((dLo 52 d0 d1), (dHi d0 d1 d2)) ((dLo 52 e0 e1), (dHi e0 e1 e2))).2.1, (spMax ((dLo 52 d0 d1), (dHi d0 d1 d2)) ((dLo 52 e0 e1), (dHi e0 e1 e2))).2.2, (spHull ((dLo 52 d0 d1), (dHi d0 d1 d2)) ((dLo 52 e0 e1), (dHi e0 e1 e2))).1, (spHull ((dLo 52 d0 d1), (dHi d0 d1 d2)) ((dLo 52 e0 e1), (dHi e0 e1 e2))).2.1, (spHull ((dLo 52 d0 d1), (dHi d0 d1 d2)) ((dLo 52 e0 e1), (dHi e0 e1 e2))).2.2, (spMeet ((dLo 52 d0 d1), (dHi d0 d1 d2)) ((dLo 52 e0 e1), (dHi e0 e1 e2))).1, (spMeet ((dLo 52 d0 d1), (dHi d0 d1 d2)) ((dLo 52 e0 e1), (dHi e0 e1 e2))).2.1, (spMeet ((dLo 52 d0 d1), (dHi d0 d1 d2)) ((dLo 52 e0 e1), (dHi e0 e1 e2))).2.2, (-(dHi e0 e1 e2)), (-(dLo 52 e0 e1)), (spSub ((dLo 52 d0 d1), (dHi d0 d1 d2)) ((dLo 52 e0 e1), (dHi e0 e1 e2))).1, (spSub ((dLo 52 d0 d1), (dHi d0 d1 d2)) ((dLo 52 e0 e1), (dHi e0 e1 e2))).2.1, (spSub ((dLo 52 d0 d1), (dHi d0 d1 d2)) ((dLo 52 e0 e1), (dHi e0 e1 e2))).2.2, (spPow ((dLo 52 d0 d1), (dHi d0 d1 d2)) 2).1, (spPow ((dLo 52 d0 d1), (dHi d0 d1 d2)) 2).2.1, (spPow ((dLo 52 d0 d1), (dHi d0 d1 d2)) 2).2.2, (spMul ((dLo 52 d0 d1), (dHi d0 d1 d2)) ((dLo 52 d0 d1), (dHi d0 d1 d2))).1, (spMul ((dLo 52 d0 d1), (dHi d0 d1 d2)) ((dLo 52 d0 d1), (dHi d0 d1 d2))).2.1, (spMul ((dLo 52 d0 d1), (dHi d0 d1 d2)) ((dLo 52 d0 d1), (dHi d0 d1 d2))).2.2, (spAdd ((dLo 37 d0 d1), (dHs d0 d1 d2)) ((dLo 37 e0 e1), (dHs e0 e1 e2))).1, (spAdd ((dLo 37 d0 d1), (dHs d0 d1 d2)) ((dLo 37 e0 e1), (dHs e0 e1 e2))).2.1, (spAdd ((dLo 37 d0 d1), (dHs d0 d1 d2)) ((dLo 37 e0 e1), (dHs e0 e1 e2))).2.2, (spMul ((dLo 37 d0 d1), (dHs d0 d1 d2)) ((dLo 37 e0 e1), (dHs e0 e1 e2))).1, (spMul ((dLo 37 d0 d1), (dHs d0 d1 d2)) ((dLo 37 e0 e1), (dHs e0 e1 e2))).2.1, (spMul ((dLo 37 d0 d1), (dHs d0 d1 d2)) ((dLo 37 e0 e1), (dHs e0 e1 e2))).2.2, (spMin ((dLo 37 d0 d1), (dHs d0 d1 d2)) ((dLo 37 e0 e1), (dHs e0 e1 e2))).1, (spMin ((dLo 37 d0 d1), (dHs d0 d1 d2)) ((dLo 37 e0 e1), (dHs e0 e1 e2))).2.1, (spMin ((dLo 37 d0 d1), (dHs d0 d1 d2)) ((dLo 37 e0 e1), (dHs e0 e1 e2))).2.2, (spMax ((dLo 37 d0 d1), (dHs d0 d1 d2)) ((dLo 37 e0 e1), (dHs e0 e1 e2))).1, (spMax ((dLo 37 d0 d1), (dHs d0 d1 d2)) ((dLo 37 e0 e1), (dHs e0 e1 e2))).2.1, (spMax ((dLo 37 d0 d1), (dHs d0 d1 d2)) ((dLo 37 e0 e1), (dHs e0 e1 e2))).2.2, (spHull ((dLo 37 d0 d1), (dHs d0 d1 d2)) ((dLo 37 e0 e1), (dHs e0 e1 e2))).1, (spHull ((dLo 37 d0 d1), (dHs d0 d1 d2)) ((dLo 37 e0 e1), (dHs e0 e1 e2))).2.1, (spHull ((dLo 37 d0 d1), (dHs d0 d1 d2)) ((dLo 37 e0 e1), (dHs e0 e1 e2))).2.2, (spMeet ((dLo 37 d0 d1), (dHs d0 d1 d2)) ((dLo 37 e0 e1), (dHs e0 e1 e2))).1, (spMeet ((dLo 37 d0 d1), (dHs d0 d1 d2)) ((dLo 37 e0 e1), (dHs e0 e1 e2))).2.1, (spMeet ((dLo 37 d0 d1), (dHs d0 d1 d2)) ((dLo 37 e0 e1), (dHs e0 e1 e2))).2.2, (-(dHs e0 e1 e2)), (-(dLo 37 e0 e1)), (spSub ((dLo 37 d0 d1), (dHs d0 d1 d2)) ((dLo 37 e0 e1), (dHs e0 e1 e2))).1, (spSub ((dLo 37 d0 d1), (dHs d0 d1 d2)) ((dLo 37 e0 e1), (dHs e0 e1 e2))).2.1, (spSub ((dLo 37 d0 d1), (dHs d0 d1 d2)) ((dLo 37 e0 e1), (dHs e0 e1 e2))).2.2, (spPow ((dLo 37 d0 d1), (dHs d0 d1 d2)) 2).1, (spPow ((dLo 37 d0 d1), (dHs d0 d1 d2)) 2).2.1, (spPow ((dLo 37 d0 d1), (dHs d0 d1 d2)) 2).2.2, (spMul ((dLo 37 d0 d1), (dHs d0 d1 d2)) ((dLo 37 d0 d1), (dHs d0 d1 d2))).1, (spMul ((dLo 37 d0 d1), (dHs d0 d1 d2)) ((dLo 37 d0 d1), (dHs d0 d1 d2))).2.1, (spMul ((dLo 37 d0 d1), (dHs d0 d1 d2)) ((dLo 37 d0 d1), (dHs d0 d1 d2))).2.2, (spAdd ((dLo 52 d0 d1), (dHi d0 d1 d2)) ((dLo 37 e0 e1), (dHs e0 e1 e2))).1, (spAdd ((dLo 52 d0 d1), (dHi d0 d1 d2)) ((dLo 37 e0 e1), (dHs e0 e1 e2))).2.1, (spAdd ((dLo 52 d0 d1), (dHi d0 d1 d2)) ((dLo 37 e0 e1), (dHs e0 e1 e2))).2.2, (spMul ((dLo 52 d0 d1), (dHi d0 d1 d2)) ((dLo 37 e0 e1), (dHs e0 e1 e2))).1, (spMul ((dLo 52 d0 d1), (dHi d0 d1 d2)) ((dLo 37 e0 e1), (dHs e0 e1 e2))).2.1, (spMul ((dLo 52 d0 d1), (dHi d0 d1 d2)) ((dLo 37 e0 e1), (dHs e0 e1 e2))).2.2, (spMin ((dLo 52 d0 d1), (dHi d0 d1 d2)) ((dLo 37 e0 e1), (dHs e0 e1 e2))).1, (spMin ((dLo 52 d0 d1), (dHi d0 d1 d2)) ((dLo 37 e0 e1), (dHs e0 e1 e2))).2.1, (spMin ((dLo 52 d0 d1), (dHi d0 d1 d2)) ((dLo 37 e0 e1), (dHs e0 e1 e2))).2.2, (spMax ((dLo 52 d0 d1), (dHi d0 d1 d2)) ((dLo 37 e0 e1), (dHs e0 e1 e2))).1, (spMax ((dLo 52 d0 d1), (dHi d0 d1 d2)) ((dLo 37 e0 e1), (dHs e0 e1 e2))).2.1, (spMax ((dLo 52 d0 d1), (dHi d0 d1 d2)) ((dLo 37 e0 e1), (dHs e0 e1 e2))).2.2, (spHull ((dLo 52 d0 d1), (dHi d0 d1 d2)) ((dLo 37 e0 e1), (dHs e0 e1 e2))).1, (spHull ((dLo 52 d0 d1), (dHi d0 d1 d2)) ((dLo 37 e0 e1), (dHs e0 e1 e2))).2.1, (spHull ((dLo 52 d0 d1), (dHi d0 d1 d2)) ((dLo 37 e0 e1), (dHs e0 e1 e2))).2.2, (spMeet ((dLo 52 d0 d1), (dHi d0 d1 d2)) ((dLo 37 e0 e1), (dHs e0 e1 e2))).1, (spMeet ((dLo 52 d0 d1), (dHi d0 d1 d2)) ((dLo 37 e0 e1), (dHs e0 e1 e2))).2.1, (spMeet ((dLo 52 d0 d1), (dHi d0 d1 d2)) ((dLo 37 e0 e1), (dHs e0 e1 e2))).2.2, (spSub ((dLo 52 d0 d1), (dHi d0 d1 d2)) ((dLo 37 e0 e1), (dHs e0 e1 e2))).1, (spSub ((dLo 52 d0 d1), (dHi d0 d1 d2)) ((dLo 37 e0 e1), (dHs e0 e1 e2))).2.1, (spSub ((dLo 52 d0 d1), (dHi d0 d1 d2)) ((dLo 37 e0 e1), (dHs e0 e1 e2))).2.2] := ⟨_, rfl⟩
  have hL : ∀ e ∈ yYgFTL, EntOk Tryd.prog ρ e := by
    intro e he
    simp only [yYgFTL, List.mem_cons, List.not_mem_nil, or_false] at he
    rcases he with rfl | rfl | rfl | rfl | rfl | rfl | rfl | rfl | rfl | rfl | rfl | rfl | rfl | rfl | rfl | rfl | rfl | rfl | rfl | rfl | rfl | rfl | rfl | rfl | rfl | rfl | rfl | rfl | rfl | rfl | rfl | rfl | rfl | rfl | rfl | rfl | rfl | rfl | rfl | rfl | rfl | rfl | rfl | rfl | rfl | rfl | rfl | rfl | rfl | rfl | rfl | rfl | rfl | rfl | rfl | rfl | rfl | rfl | rfl | rfl | rfl | rfl | rfl | rfl | rfl | rfl | rfl
    · rw [hρ]; exact fun s w => c_dspanD d0 d1 d2 hd1 hd2 w
    · rw [hρ]; exact fun s w => c_dspanD e0 e1 e2 he1 he2 w
    · rw [hρ]; exact fun s w => c_dsmallD d0 d1 d2 hd1 hd2 w
    · rw [hρ]; exact fun s w => c_dsmallD e0 e1 e2 he1 he2 w
    · rw [hρ]; exact fun s w => int_eq (c_spanCheck a0 a1 w) (chk_bad hA)
    · rw [hρ]; exact fun s w => tri_eq (c_spanMul a0 a1 b0 b1 w) (rInv (.inl hA))
    · rw [hρ]; exact fun s w => int_eq (c_spanCheck (dLo 52 d0 d1) (dHi d0 d1 d2) w) (dspan_valid d0 d1 d2 hd2)
    · rw [hρ]; exact fun s w => int_eq (c_spanCheck (dLo 52 e0 e1) (dHi e0 e1 e2) w) (dspan_valid e0 e1 e2 he2)
    · rw [hρ]; exact fun s w => c_spanAdd (dLo 52 d0 d1) (dHi d0 d1 d2) (dLo 52 e0 e1) (dHi e0 e1 e2) w
    · rw [hρ]; exact fun s w => tri_eq (c_spanAdd (dLo 52 e0 e1) (dHi e0 e1 e2) (dLo 52 d0 d1) (dHi d0 d1 d2) w) (rAdd_comm _ _)
    · rw [hρ]; exact fun s w => c_spanMul (dLo 52 d0 d1) (dHi d0 d1 d2) (dLo 52 e0 e1) (dHi e0 e1 e2) w
    · rw [hρ]; exact fun s w => tri_eq (c_spanMul (dLo 52 e0 e1) (dHi e0 e1 e2) (dLo 52 d0 d1) (dHi d0 d1 d2) w) (rMul_comm _ _)
    · rw [hρ]; exact fun s w => c_spanMin (dLo 52 d0 d1) (dHi d0 d1 d2) (dLo 52 e0 e1) (dHi e0 e1 e2) w
    · rw [hρ]; exact fun s w => tri_eq (c_spanMin (dLo 52 e0 e1) (dHi e0 e1 e2) (dLo 52 d0 d1) (dHi d0 d1 d2) w) (rMin_comm _ _)
    · rw [hρ]; exact fun s w => c_spanMax (dLo 52 d0 d1) (dHi d0 d1 d2) (dLo 52 e0 e1) (dHi e0 e1 e2) w
    · rw [hρ]; exact fun s w => tri_eq (c_spanMax (dLo 52 e0 e1) (dHi e0 e1 e2) (dLo 52 d0 d1) (dHi d0 d1 d2) w) (rMax_comm _ _)
    · rw [hρ]; exact fun s w => c_spanHull (dLo 52 d0 d1) (dHi d0 d1 d2) (dLo 52 e0 e1) (dHi e0 e1 e2) w
    · rw [hρ]; exact fun s w => tri_eq (c_spanHull (dLo 52 e0 e1) (dHi e0 e1 e2) (dLo 52 d0 d1) (dHi d0 d1 d2) w) (rHull_comm _ _)
    · rw [hρ]; exact fun s w => c_spanMeet (dLo 52 d0 d1) (dHi d0 d1 d2) (dLo 52 e0 e1) (dHi e0 e1 e2) w
    · rw [hρ]; exact fun s w => tri_eq (c_spanMeet (dLo 52 e0 e1) (dHi e0 e1 e2) (dLo 52 d0 d1) (dHi d0 d1 d2) w) (rMeet_comm _ _)
    · rw [hρ]; exact fun s w => tri_eq (c_spanNeg (dLo 52 e0 e1) (dHi e0 e1 e2) w) (rNeg (dspan_valid e0 e1 e2 he2))
    · rw [hρ]; exact fun s w => tri_eq (c_spanNeg (-(dHi e0 e1 e2)) (-(dLo 52 e0 e1)) w) (rNeg2 (dspan_valid e0 e1 e2 he2))
    · rw [hρ]; exact fun s w => c_spanSub (dLo 52 d0 d1) (dHi d0 d1 d2) (dLo 52 e0 e1) (dHi e0 e1 e2) w
    · rw [hρ]; exact fun s w => tri_eq (c_spanAdd (dLo 52 d0 d1) (dHi d0 d1 d2) (-(dHi e0 e1 e2)) (-(dLo 52 e0 e1)) w) (rAdd_neg (dspan_valid d0 d1 d2 hd2) (dspan_valid e0 e1 e2 he2))
    · rw [hρ]; exact fun s w => tri_eq (c_spanMul (dLo 52 d0 d1) (dHi d0 d1 d2) 4294967296 4294967296 w) (rMul_one rfl (dspan_valid d0 d1 d2 hd2))
    · rw [hρ]; exact fun s w => tri_eq (c_spanDiv (dLo 52 d0 d1) (dHi d0 d1 d2) 4294967296 4294967296 w) (rDiv_one rfl (dspan_valid d0 d1 d2 hd2))
    · rw [hρ]; exact fun s w => c_spanSqr (dLo 52 d0 d1) (dHi d0 d1 d2) w
    · rw [hρ]; exact fun s w => c_spanMul (dLo 52 d0 d1) (dHi d0 d1 d2) (dLo 52 d0 d1) (dHi d0 d1 d2) w
    · rw [hρ]; exact fun s w => c_inside _ _ _ _ _ _ (rSqr_mul (dspan_valid d0 d1 d2 hd2)) w
    · rw [hρ]; exact fun s w => int_eq (c_spanCheck (dLo 37 d0 d1) (dHs d0 d1 d2) w) (dsmall_valid d0 d1 d2 hd2).ok
    · rw [hρ]; exact fun s w => int_eq (c_spanCheck (dLo 37 e0 e1) (dHs e0 e1 e2) w) (dsmall_valid e0 e1 e2 he2).ok
    · rw [hρ]; exact fun s w => c_spanAdd (dLo 37 d0 d1) (dHs d0 d1 d2) (dLo 37 e0 e1) (dHs e0 e1 e2) w
    · rw [hρ]; exact fun s w => tri_eq (c_spanAdd (dLo 37 e0 e1) (dHs e0 e1 e2) (dLo 37 d0 d1) (dHs d0 d1 d2) w) (rAdd_comm _ _)
    · rw [hρ]; exact fun s w => c_spanMul (dLo 37 d0 d1) (dHs d0 d1 d2) (dLo 37 e0 e1) (dHs e0 e1 e2) w
    · rw [hρ]; exact fun s w => tri_eq (c_spanMul (dLo 37 e0 e1) (dHs e0 e1 e2) (dLo 37 d0 d1) (dHs d0 d1 d2) w) (rMul_comm _ _)
    · rw [hρ]; exact fun s w => c_spanMin (dLo 37 d0 d1) (dHs d0 d1 d2) (dLo 37 e0 e1) (dHs e0 e1 e2) w
    · rw [hρ]; exact fun s w => tri_eq (c_spanMin (dLo 37 e0 e1) (dHs e0 e1 e2) (dLo 37 d0 d1) (dHs d0 d1 d2) w) (rMin_comm _ _)
    · rw [hρ]; exact fun s w => c_spanMax (dLo 37 d0 d1) (dHs d0 d1 d2) (dLo 37 e0 e1) (dHs e0 e1 e2) w
    · rw [hρ]; exact fun s w => tri_eq (c_spanMax (dLo 37 e0 e1) (dHs e0 e1 e2) (dLo 37 d0 d1) (dHs d0 d1 d2) w) (rMax_comm _ _)
    · rw [hρ]; exact fun s w => c_spanHull (dLo 37 d0 d1) (dHs d0 d1 d2) (dLo 37 e0 e1) (dHs e0 e1 e2) w
    · rw [hρ]; exact fun s w => tri_eq (c_spanHull (dLo 37 e0 e1) (dHs e0 e1 e2) (dLo 37 d0 d1) (dHs d0 d1 d2) w) (rHull_comm _ _)
    · rw [hρ]; exact fun s w => c_spanMeet (dLo 37 d0 d1) (dHs d0 d1 d2) (dLo 37 e0 e1) (dHs e0 e1 e2) w
    · rw [hρ]; exact fun s w => tri_eq (c_spanMeet (dLo 37 e0 e1) (dHs e0 e1 e2) (dLo 37 d0 d1) (dHs d0 d1 d2) w) (rMeet_comm _ _)
    · rw [hρ]; exact fun s w => tri_eq (c_spanNeg (dLo 37 e0 e1) (dHs e0 e1 e2) w) (rNeg (dsmall_valid e0 e1 e2 he2).ok)
    · rw [hρ]; exact fun s w => tri_eq (c_spanNeg (-(dHs e0 e1 e2)) (-(dLo 37 e0 e1)) w) (rNeg2 (dsmall_valid e0 e1 e2 he2).ok)
    · rw [hρ]; exact fun s w => c_spanSub (dLo 37 d0 d1) (dHs d0 d1 d2) (dLo 37 e0 e1) (dHs e0 e1 e2) w
    · rw [hρ]; exact fun s w => tri_eq (c_spanAdd (dLo 37 d0 d1) (dHs d0 d1 d2) (-(dHs e0 e1 e2)) (-(dLo 37 e0 e1)) w) (rAdd_neg (dsmall_valid d0 d1 d2 hd2).ok (dsmall_valid e0 e1 e2 he2).ok)
    · rw [hρ]; exact fun s w => tri_eq (c_spanMul (dLo 37 d0 d1) (dHs d0 d1 d2) 4294967296 4294967296 w) (rMul_one rfl (dsmall_valid d0 d1 d2 hd2).ok)
    · rw [hρ]; exact fun s w => tri_eq (c_spanDiv (dLo 37 d0 d1) (dHs d0 d1 d2) 4294967296 4294967296 w) (rDiv_one rfl (dsmall_valid d0 d1 d2 hd2).ok)
    · rw [hρ]; exact fun s w => c_spanSqr (dLo 37 d0 d1) (dHs d0 d1 d2) w
    · rw [hρ]; exact fun s w => c_spanMul (dLo 37 d0 d1) (dHs d0 d1 d2) (dLo 37 d0 d1) (dHs d0 d1 d2) w
    · rw [hρ]; exact fun s w => c_inside _ _ _ _ _ _ (rSqr_mul (dsmall_valid d0 d1 d2 hd2).ok) w
    · rw [hρ]; exact fun s w => c_spanAdd (dLo 52 d0 d1) (dHi d0 d1 d2) (dLo 37 e0 e1) (dHs e0 e1 e2) w
    · rw [hρ]; exact fun s w => tri_eq (c_spanAdd (dLo 37 e0 e1) (dHs e0 e1 e2) (dLo 52 d0 d1) (dHi d0 d1 d2) w) (rAdd_comm _ _)
    · rw [hρ]; exact fun s w => c_spanMul (dLo 52 d0 d1) (dHi d0 d1 d2) (dLo 37 e0 e1) (dHs e0 e1 e2) w
    · rw [hρ]; exact fun s w => tri_eq (c_spanMul (dLo 37 e0 e1) (dHs e0 e1 e2) (dLo 52 d0 d1) (dHi d0 d1 d2) w) (rMul_comm _ _)
    · rw [hρ]; exact fun s w => c_spanMin (dLo 52 d0 d1) (dHi d0 d1 d2) (dLo 37 e0 e1) (dHs e0 e1 e2) w
    · rw [hρ]; exact fun s w => tri_eq (c_spanMin (dLo 37 e0 e1) (dHs e0 e1 e2) (dLo 52 d0 d1) (dHi d0 d1 d2) w) (rMin_comm _ _)
    · rw [hρ]; exact fun s w => c_spanMax (dLo 52 d0 d1) (dHi d0 d1 d2) (dLo 37 e0 e1) (dHs e0 e1 e2) w
    · rw [hρ]; exact fun s w => tri_eq (c_spanMax (dLo 37 e0 e1) (dHs e0 e1 e2) (dLo 52 d0 d1) (dHi d0 d1 d2) w) (rMax_comm _ _)
    · rw [hρ]; exact fun s w => c_spanHull (dLo 52 d0 d1) (dHi d0 d1 d2) (dLo 37 e0 e1) (dHs e0 e1 e2) w
    · rw [hρ]; exact fun s w => tri_eq (c_spanHull (dLo 37 e0 e1) (dHs e0 e1 e2) (dLo 52 d0 d1) (dHi d0 d1 d2) w) (rHull_comm _ _)
    · rw [hρ]; exact fun s w => c_spanMeet (dLo 52 d0 d1) (dHi d0 d1 d2) (dLo 37 e0 e1) (dHs e0 e1 e2) w
    · rw [hρ]; exact fun s w => tri_eq (c_spanMeet (dLo 37 e0 e1) (dHs e0 e1 e2) (dLo 52 d0 d1) (dHi d0 d1 d2) w) (rMeet_comm _ _)
    · rw [hρ]; exact fun s w => c_spanSub (dLo 52 d0 d1) (dHi d0 d1 d2) (dLo 37 e0 e1) (dHs e0 e1 e2) w
    · rw [hρ]; exact fun s w => tri_eq (c_spanAdd (dLo 52 d0 d1) (dHi d0 d1 d2) (-(dHs e0 e1 e2)) (-(dLo 37 e0 e1)) w) (rAdd_neg (dspan_valid d0 d1 d2 hd2) (dsmall_valid e0 e1 e2 he2).ok)
    · rw [hρ]; exact fun s w => tri_eq (c_spanMul a0 a1 (dLo 52 e0 e1) (dHi e0 e1 e2) w) (rInv (.inl hA))
  have hF : FactsOk ρ yYgFTF := by
    refine ⟨?_, ?_, ?_, ?_⟩
    · simp [yYgFTF]
    · simp [yYgFTF]
    · simp [yYgFTF]
    · simp [yYgFTF]
  have h := calls_runM yYgFT_run hF (by intro e he; simp only [List.mem_cons, List.not_mem_nil, or_false] at he; subst he; exact eqOk_span) (by intro e he; rcases List.mem_cons.1 he with rfl | he; exact wkE_ok _ hp; exact fun s w _ => hL e he s w) (by simp) rfl (pw_rel ρ hp)
  rw [hρ] at h
  refine (show Calls Tryd.prog 8 #[.agg #[.int .i64 a0, .int .i64 a1, .int .i64 b0, .int .i64 b1, .int .i64 d0, .int .u8 d1, .int .u32 d2, .int .i64 e0, .int .u8 e1, .int .u32 e2]] w _ from h).mono ?_
  rintro e w' ⟨⟨s, he⟩, hb⟩
  exact ⟨he, hb⟩

end Go.Proofs.YtpdaigenffecmaaDoor

namespace Go.Proofs.YtpdaigenffecmaaDoor
open Go.RowKit

def yYgFFL : List Ent := [
  ⟨13, [.v (.agg (dr 4))], .v (SR [10, 11])⟩,
  ⟨13, [.v (.agg (dr 7))], .v (SR [12, 13])⟩,
  ⟨64, [.v (.agg (dr 4))], .v (SR [14, 15])⟩,
  ⟨64, [.v (.agg (dr 7))], .v (SR [16, 17])⟩,
  ⟨18, [SV [0, 1]], .v (.one (.int .i64 (.lit 20)))⟩,
  ⟨30, [SV [0, 1], SV [2, 3]], RE [0, 0] 20⟩,
  ⟨18, [SV [10, 11]], .v (.one (.int .i64 (.lit 0)))⟩,
  ⟨18, [SV [12, 13]], .v (.one (.int .i64 (.lit 0)))⟩,
  ⟨24, [SV [10, 11], SV [12, 13]], SE [18, 19] 20⟩,
  ⟨24, [SV [12, 13], SV [10, 11]], SE [18, 19] 20⟩,
  ⟨30, [SV [10, 11], SV [12, 13]], SE [21, 22] 23⟩,
  ⟨30, [SV [12, 13], SV [10, 11]], SE [21, 22] 23⟩,
  ⟨38, [SV [10, 11], SV [12, 13]], SE [24, 25] 26⟩,
  ⟨38, [SV [12, 13], SV [10, 11]], SE [24, 25] 26⟩,
  ⟨40, [SV [10, 11], SV [12, 13]], SE [27, 28] 29⟩,
  ⟨40, [SV [12, 13], SV [10, 11]], SE [27, 28] 29⟩,
  ⟨42, [SV [10, 11], SV [12, 13]], SE [30, 31] 32⟩,
  ⟨42, [SV [12, 13], SV [10, 11]], SE [30, 31] 32⟩,
  ⟨44, [SV [10, 11], SV [12, 13]], SE [33, 34] 35⟩,
  ⟨44, [SV [12, 13], SV [10, 11]], SE [33, 34] 35⟩,
  ⟨28, [SV [12, 13]], SE0 [36, 37]⟩,
  ⟨28, [SV [36, 37]], SE0 [12, 13]⟩,
  ⟨26, [SV [10, 11], SV [12, 13]], SE [38, 39] 40⟩,
  ⟨24, [SV [10, 11], SV [36, 37]], SE [38, 39] 40⟩,
  ⟨30, [SV [10, 11], Rw [4294967296, 4294967296]], SE0 [10, 11]⟩,
  ⟨47, [SV [10, 11], Rw [4294967296, 4294967296]], SE0 [10, 11]⟩,
  ⟨32, [SV [10, 11]], SE [41, 42] 43⟩,
  ⟨30, [SV [10, 11], SV [10, 11]], SE [44, 45] 46⟩,
  ⟨48, [SV [41, 42], .v (.one (S1 43)), SV [44, 45], .v (.one (S1 46))], .v (.one (.bool true))⟩,
  ⟨18, [SV [14, 15]], .v (.one (.int .i64 (.lit 0)))⟩,
  ⟨18, [SV [16, 17]], .v (.one (.int .i64 (.lit 0)))⟩,
  ⟨24, [SV [14, 15], SV [16, 17]], SE [47, 48] 49⟩,
  ⟨24, [SV [16, 17], SV [14, 15]], SE [47, 48] 49⟩,
  ⟨30, [SV [14, 15], SV [16, 17]], SE [50, 51] 52⟩,
  ⟨30, [SV [16, 17], SV [14, 15]], SE [50, 51] 52⟩,
  ⟨38, [SV [14, 15], SV [16, 17]], SE [53, 54] 55⟩,
  ⟨38, [SV [16, 17], SV [14, 15]], SE [53, 54] 55⟩,
  ⟨40, [SV [14, 15], SV [16, 17]], SE [56, 57] 58⟩,
  ⟨40, [SV [16, 17], SV [14, 15]], SE [56, 57] 58⟩,
  ⟨42, [SV [14, 15], SV [16, 17]], SE [59, 60] 61⟩,
  ⟨42, [SV [16, 17], SV [14, 15]], SE [59, 60] 61⟩,
  ⟨44, [SV [14, 15], SV [16, 17]], SE [62, 63] 64⟩,
  ⟨44, [SV [16, 17], SV [14, 15]], SE [62, 63] 64⟩,
  ⟨28, [SV [16, 17]], SE0 [65, 66]⟩,
  ⟨28, [SV [65, 66]], SE0 [16, 17]⟩,
  ⟨26, [SV [14, 15], SV [16, 17]], SE [67, 68] 69⟩,
  ⟨24, [SV [14, 15], SV [65, 66]], SE [67, 68] 69⟩,
  ⟨30, [SV [14, 15], Rw [4294967296, 4294967296]], SE0 [14, 15]⟩,
  ⟨47, [SV [14, 15], Rw [4294967296, 4294967296]], SE0 [14, 15]⟩,
  ⟨32, [SV [14, 15]], SE [70, 71] 72⟩,
  ⟨30, [SV [14, 15], SV [14, 15]], SE [73, 74] 75⟩,
  ⟨48, [SV [70, 71], .v (.one (S1 72)), SV [73, 74], .v (.one (S1 75))], .v (.one (.bool true))⟩,
  ⟨24, [SV [10, 11], SV [16, 17]], SE [76, 77] 78⟩,
  ⟨24, [SV [16, 17], SV [10, 11]], SE [76, 77] 78⟩,
  ⟨30, [SV [10, 11], SV [16, 17]], SE [79, 80] 81⟩,
  ⟨30, [SV [16, 17], SV [10, 11]], SE [79, 80] 81⟩,
  ⟨38, [SV [10, 11], SV [16, 17]], SE [82, 83] 84⟩,
  ⟨38, [SV [16, 17], SV [10, 11]], SE [82, 83] 84⟩,
  ⟨40, [SV [10, 11], SV [16, 17]], SE [85, 86] 87⟩,
  ⟨40, [SV [16, 17], SV [10, 11]], SE [85, 86] 87⟩,
  ⟨42, [SV [10, 11], SV [16, 17]], SE [88, 89] 90⟩,
  ⟨42, [SV [16, 17], SV [10, 11]], SE [88, 89] 90⟩,
  ⟨44, [SV [10, 11], SV [16, 17]], SE [91, 92] 93⟩,
  ⟨44, [SV [16, 17], SV [10, 11]], SE [91, 92] 93⟩,
  ⟨26, [SV [10, 11], SV [16, 17]], SE [94, 95] 96⟩,
  ⟨24, [SV [10, 11], SV [65, 66]], SE [94, 95] 96⟩,
  ⟨30, [SV [0, 1], SV [12, 13]], RE [0, 0] 20⟩]
def yYgFFF : Facts := { cmp := [], ar := [], cv := [], mm := [] }
def yYgFFA : List AV := [.v (.agg ((rg 0 4).map S1 ++ dr 4 ++ dr 7))]

set_option maxRecDepth 100000 in
theorem yYgFF_run : runM Tryd.prog (tab Tryd.prog yYgFFF [(23, 2)] (wkE :: yYgFFL) []) 6 pwM 8 yYgFFA = some (.v (.one (.bool true))) := by kernel_rfl

set_option maxRecDepth 100000 in
set_option maxHeartbeats 4000000 in
theorem c_lawSpanRingsFF (a0 a1 b0 b1 d0 d1 d2 e0 e1 e2 : Int) (hd1 : 0 ≤ d1 ∧ d1 ≤ 255) (hd2 : 0 ≤ d2 ∧ d2 ≤ 4294967295) (he1 : 0 ≤ e1 ∧ e1 ≤ 255) (he2 : 0 ≤ e2 ∧ e2 ≤ 4294967295) (hA : spChk (a0, a1) ≠ 0) (hB : spChk (b0, b1) ≠ 0) (w : World) (hp : Pow10 w) :
    Calls Tryd.prog 8 #[.agg #[.int .i64 a0, .int .i64 a1, .int .i64 b0, .int .i64 b1, .int .i64 d0, .int .u8 d1, .int .u32 d2, .int .i64 e0, .int .u8 e1, .int .u32 e2]] w fun e w' => e = .returned (.bool true) ∧ Below w.heap.size w w' := by
  obtain ⟨ρ, hρ⟩ : ∃ ρ, ρ = ρL [a0, a1, b0, b1, d0, d1, d2, e0, e1, e2, (dLo 52 d0 d1), (dHi d0 d1 d2), (dLo 52 e0 e1), (dHi e0 e1 e2), (dLo 37 d0 d1), (dHs d0 d1 d2), (dLo 37 e0 e1), (dHs e0 e1 e2), (spAdd ((dLo 52 d0 d1), (dHi d0 d1 d2)) ((dLo 52 e0 e1), (dHi e0 e1 e2))).1, (spAdd ((dLo 52 d0 d1), (dHi d0 d1 d2)) ((dLo 52 e0 e1), (dHi e0 e1 e2))).2.1, (spAdd ((dLo 52 d0 d1), (dHi d0 d1 d2)) ((dLo 52 e0 e1), (dHi e0 e1 e2))).2.2, (spMul ((dLo 52 d0 d1), (dHi d0 d1 d2)) ((dLo 52 e0 e1), (dHi e0 e1 e2))).1, (spMul ((dLo 52 d0 d1), (dHi d0 d1 d2)) ((dLo 52 e0 e1), (dHi e0 e1 e2))).2.1, (spMul ((dLo 52 d0 d1), (dHi d0 d1 d2)) ((dLo 52 e0 e1), (dHi e0 e1 e2))).2.2, (spMin ((dLo 52 d0 d1), (dHi d0 d1 d2)) ((dLo 52 e0 e1), (dHi e0 e1 e2))).1, (spMin ((dLo 52 d0 d1), (dHi d0 d1 d2)) ((dLo 52 e0 e1), (dHi e0 e1 e2))).2.1, (spMin ((dLo 52 d0 d1), (dHi d0 d1 d2)) ((dLo 52 e0 e1), (dHi e0 e1 e2))).2.2, (spMax ((dLo 52 d0 d1), (dHi d0 d1 d2)) ((dLo 52 e0 e1), (dHi e0 e1 e2))).1, (spMax ((dLo 52 d0 d1), (dHi d0 d1 d2)) ((dLo 52 e0 e1), (dHi e0 e1 e2))).2.1, (spMax ((dLo 52 d0 d1), (dHi d0 d1 d2)) ((dLo 52 e0 e1), (dHi e0 e1 e2))).2.2, (spHull ((dLo 52 d0 d1), (dHi d0 d1 d2)) ((dLo 52 e0 e1), (dHi e0 e1 e2))).1, (spHull ((dLo 52 d0 d1), (dHi d0 d1 d2)) ((dLo 52 e0 e1), (dHi e0 e1 e2))).2.1, (spHull ((dLo 52 d0 d1), (dHi d0 d1 d2)) ((dLo 52 e0 e1), (dHi e0 e1 e2))).2.2, (spMeet ((dLo 52 d0 d1), (dHi d0 d1 d2)) ((dLo 52 e0 e1), (dHi e0 e1 e2))).1, (spMeet ((dLo 52 d0 d1), (dHi d0 d1 d2)) ((dLo 52 e0 e1), (dHi e0 e1 e2))).2.1, (spMeet ((dLo 52 d0 d1), (dHi d0 d1 d2)) ((dLo 52 e0 e1), (dHi e0 e1 e2))).2.2, (-(dHi e0 e1 e2)), (-(dLo 52 e0 e1)), (spSub ((dLo 52 d0 d1), (dHi d0 d1 d2)) ((dLo 52 e0 e1), (dHi e0 e1 e2))).1, (spSub ((dLo 52 d0 d1), (dHi d0 d1 d2)) ((dLo 52 e0 e1), (dHi e0 e1 e2))).2.1, (spSub ((dLo 52 d0 d1), (dHi d0 d1 d2)) ((dLo 52 e0 e1), (dHi e0 e1 e2))).2.2, (spPow ((dLo 52 d0 d1), (dHi d0 d1 d2)) 2).1, (spPow ((dLo 52 d0 d1), (dHi d0 d1 d2)) 2).2.1, (spPow ((dLo 52 d0 d1), (dHi d0 d1 d2)) 2).2.2, (spMul ((dLo 52 d0 d1), (dHi d0 d1 d2)) ((dLo 52 d0 d1), (dHi d0 d1 d2))).1, (spMul ((dLo 52 d0 d1), (dHi d0 d1 d2)) ((dLo 52 d0 d1), (dHi d0 d1 d2))).2.1, (spMul ((dLo 52 d0 d1), (dHi d0 d1 d2)) ((dLo 52 d0 d1), (dHi d0 d1 d2))).2.2, (spAdd ((dLo 37 d0 d1), (dHs d0 d1 d2)) ((dLo 37 e0 e1), (dHs e0 e1 e2))).1, (spAdd ((dLo 37 d0 d1), (dHs d0 d1 d2)) ((dLo 37 e0 e1), (dHs e0 e1 e2))).2.1, (spAdd ((dLo 37 d0 d1), (dHs d0 d1 d2)) ((dLo 37 e0 e1), (dHs e0 e1 e2))).2.2, (spMul ((dLo 37 d0 d1), (dHs d0 d1 d2)) ((dLo 37 e0 e1), (dHs e0 e1 e2))).1, (spMul ((dLo 37 d0 d1), (dHs d0 d1 d2)) ((dLo 37 e0 e1), (dHs e0 e1 e2))).2.1, (spMul ((dLo 37 d0 d1), (dHs d0 d1 d2)) ((dLo 37 e0 e1), (dHs e0 e1 e2))).2.2, (spMin ((dLo 37 d0 d1), (dHs d0 d1 d2)) ((dLo 37 e0 e1), (dHs e0 e1 e2))).1, (spMin ((dLo 37 d0 d1), (dHs d0 d1 d2)) ((dLo 37 e0 e1), (dHs e0 e1 e2))).2.1, (spMin ((dLo 37 d0 d1), (dHs d0 d1 d2)) ((dLo 37 e0 e1), (dHs e0 e1 e2))).2.2, (spMax ((dLo 37 d0 d1), (dHs d0 d1 d2)) ((dLo 37 e0 e1), (dHs e0 e1 e2))).1, (spMax ((dLo 37 d0 d1), (dHs d0 d1 d2)) ((dLo 37 e0 e1), (dHs e0 e1 e2))).2.1, (spMax ((dLo 37 d0 d1), (dHs d0 d1 d2)) ((dLo 37 e0 e1), (dHs e0 e1 e2))).2.2, (spHull ((dLo 37 d0 d1), (dHs d0 d1 d2)) ((dLo 37 e0 e1), (dHs e0 e1 e2))).1, (spHull ((dLo 37 d0 d1), (dHs d0 d1 d2)) ((dLo 37 e0 e1), (dHs e0 e1 e2))).2.1, (spHull ((dLo 37 d0 d1), (dHs d0 d1 d2)) ((dLo 37 e0 e1), (dHs e0 e1 e2))).2.2, (spMeet ((dLo 37 d0 d1), (dHs d0 d1 d2)) ((dLo 37 e0 e1), (dHs e0 e1 e2))).1, (spMeet ((dLo 37 d0 d1), (dHs d0 d1 d2)) ((dLo 37 e0 e1), (dHs e0 e1 e2))).2.1, (spMeet ((dLo 37 d0 d1), (dHs d0 d1 d2)) ((dLo 37 e0 e1), (dHs e0 e1 e2))).2.2, (-(dHs e0 e1 e2)), (-(dLo 37 e0 e1)), (spSub ((dLo 37 d0 d1), (dHs d0 d1 d2)) ((dLo 37 e0 e1), (dHs e0 e1 e2))).1, (spSub ((dLo 37 d0 d1), (dHs d0 d1 d2)) ((dLo 37 e0 e1), (dHs e0 e1 e2))).2.1, (spSub ((dLo 37 d0 d1), (dHs d0 d1 d2)) ((dLo 37 e0 e1), (dHs e0 e1 e2))).2.2, (spPow ((dLo 37 d0 d1), (dHs d0 d1 d2)) 2).1, (spPow ((dLo 37 d0 d1), (dHs d0 d1 d2)) 2).2.1, (spPow ((dLo 37 d0 d1), (dHs d0 d1 d2)) 2).2.2, (spMul ((dLo 37 d0 d1), (dHs d0 d1 d2)) ((dLo 37 d0 d1), (dHs d0 d1 d2))).1, (spMul ((dLo 37 d0 d1), (dHs d0 d1 d2)) ((dLo 37 d0 d1), (dHs d0 d1 d2))).2.1, (spMul ((dLo 37 d0 d1), (dHs d0 d1 d2)) ((dLo 37 d0 d1), (dHs d0 d1 d2))).2.2, (spAdd ((dLo 52 d0 d1), (dHi d0 d1 d2)) ((dLo 37 e0 e1), (dHs e0 e1 e2))).1, (spAdd ((dLo 52 d0 d1), (dHi d0 d1 d2)) ((dLo 37 e0 e1), (dHs e0 e1 e2))).2.1, (spAdd ((dLo 52 d0 d1), (dHi d0 d1 d2)) ((dLo 37 e0 e1), (dHs e0 e1 e2))).2.2, (spMul ((dLo 52 d0 d1), (dHi d0 d1 d2)) ((dLo 37 e0 e1), (dHs e0 e1 e2))).1, (spMul ((dLo 52 d0 d1), (dHi d0 d1 d2)) ((dLo 37 e0 e1), (dHs e0 e1 e2))).2.1, (spMul ((dLo 52 d0 d1), (dHi d0 d1 d2)) ((dLo 37 e0 e1), (dHs e0 e1 e2))).2.2, (spMin ((dLo 52 d0 d1), (dHi d0 d1 d2)) ((dLo 37 e0 e1), (dHs e0 e1 e2))).1, (spMin ((dLo 52 d0 d1), (dHi d0 d1 d2)) ((dLo 37 e0 e1), (dHs e0 e1 e2))).2.1, (spMin ((dLo 52 d0 d1), (dHi d0 d1 d2)) ((dLo 37 e0 e1), (dHs e0 e1 e2))).2.2, (spMax ((dLo 52 d0 d1), (dHi d0 d1 d2)) ((dLo 37 e0 e1), (dHs e0 e1 e2))).1, (spMax ((dLo 52 d0 d1), (dHi d0 d1 d2)) ((dLo 37 e0 e1), (dHs e0 e1 e2))).2.1, (spMax ((dLo 52 d0 d1), (dHi d0 d1 d2)) ((dLo 37 e0 e1), (dHs e0 e1 e2))).2.2, (spHull ((dLo 52 d0 d1), (dHi d0 d1 d2)) ((dLo 37 e0 e1), (dHs e0 e1 e2))).1, (spHull ((dLo 52 d0 d1), (dHi d0 d1 d2)) ((dLo 37 e0 e1), (dHs e0 e1 e2))).2.1, (spHull ((dLo 52 d0 d1), (dHi d0 d1 d2)) ((dLo 37 e0 e1), (dHs e0 e1 e2))).2.2, (spMeet ((dLo 52 d0 d1), (dHi d0 d1 d2)) ((dLo 37 e0 e1), (dHs e0 e1 e2))).1, (spMeet ((dLo 52 d0 d1), (dHi d0 d1 d2)) ((dLo 37 e0 e1), (dHs e0 e1 e2))).2.1, (spMeet ((dLo 52 d0 d1), (dHi d0 d1 d2)) ((dLo 37 e0 e1), (dHs e0 e1 e2))).2.2, (spSub ((dLo 52 d0 d1), (dHi d0 d1 d2)) ((dLo 37 e0 e1), (dHs e0 e1 e2))).1, (spSub ((dLo 52 d0 d1), (dHi d0 d1 d2)) ((dLo 37 e0 e1), (dHs e0 e1 e2))).2.1, (spSub ((dLo 52 d0 d1), (dHi d0 d1 d2)) ((dLo 37 e0 e1), (dHs e0 e1 e2))).2.2] := ⟨_, rfl⟩
  have hL : ∀ e ∈ yYgFFL, EntOk Tryd.prog ρ e := by
    intro e he
    simp only [yYgFFL, List.mem_cons, List.not_mem_nil, or_false] at he
    rcases he with rfl | rfl | rfl | rfl | rfl | rfl | rfl | rfl | rfl | rfl | rfl | rfl | rfl | rfl | rfl | rfl | rfl | rfl | rfl | rfl | rfl | rfl | rfl | rfl | rfl | rfl | rfl | rfl | rfl | rfl | rfl | rfl | rfl | rfl | rfl | rfl | rfl | rfl | rfl | rfl | rfl | rfl | rfl | rfl | rfl | rfl | rfl | rfl | rfl | rfl | rfl | rfl | rfl | rfl | rfl | rfl | rfl | rfl | rfl | rfl | rfl | rfl | rfl | rfl | rfl | rfl | rfl
    · rw [hρ]; exact fun s w => c_dspanD d0 d1 d2 hd1 hd2 w
    · rw [hρ]; exact fun s w => c_dspanD e0 e1 e2 he1 he2 w
    · rw [hρ]; exact fun s w => c_dsmallD d0 d1 d2 hd1 hd2 w
    · rw [hρ]; exact fun s w => c_dsmallD e0 e1 e2 he1 he2 w
    · rw [hρ]; exact fun s w => int_eq (c_spanCheck a0 a1 w) (chk_bad hA)
    · rw [hρ]; exact fun s w => tri_eq (c_spanMul a0 a1 b0 b1 w) (rInv (.inl hA))
    · rw [hρ]; exact fun s w => int_eq (c_spanCheck (dLo 52 d0 d1) (dHi d0 d1 d2) w) (dspan_valid d0 d1 d2 hd2)
    · rw [hρ]; exact fun s w => int_eq (c_spanCheck (dLo 52 e0 e1) (dHi e0 e1 e2) w) (dspan_valid e0 e1 e2 he2)
    · rw [hρ]; exact fun s w => c_spanAdd (dLo 52 d0 d1) (dHi d0 d1 d2) (dLo 52 e0 e1) (dHi e0 e1 e2) w
    · rw [hρ]; exact fun s w => tri_eq (c_spanAdd (dLo 52 e0 e1) (dHi e0 e1 e2) (dLo 52 d0 d1) (dHi d0 d1 d2) w) (rAdd_comm _ _)
    · rw [hρ]; exact fun s w => c_spanMul (dLo 52 d0 d1) (dHi d0 d1 d2) (dLo 52 e0 e1) (dHi e0 e1 e2) w
    · rw [hρ]; exact fun s w => tri_eq (c_spanMul (dLo 52 e0 e1) (dHi e0 e1 e2) (dLo 52 d0 d1) (dHi d0 d1 d2) w) (rMul_comm _ _)
    · rw [hρ]; exact fun s w => c_spanMin (dLo 52 d0 d1) (dHi d0 d1 d2) (dLo 52 e0 e1) (dHi e0 e1 e2) w
    · rw [hρ]; exact fun s w => tri_eq (c_spanMin (dLo 52 e0 e1) (dHi e0 e1 e2) (dLo 52 d0 d1) (dHi d0 d1 d2) w) (rMin_comm _ _)
    · rw [hρ]; exact fun s w => c_spanMax (dLo 52 d0 d1) (dHi d0 d1 d2) (dLo 52 e0 e1) (dHi e0 e1 e2) w
    · rw [hρ]; exact fun s w => tri_eq (c_spanMax (dLo 52 e0 e1) (dHi e0 e1 e2) (dLo 52 d0 d1) (dHi d0 d1 d2) w) (rMax_comm _ _)
    · rw [hρ]; exact fun s w => c_spanHull (dLo 52 d0 d1) (dHi d0 d1 d2) (dLo 52 e0 e1) (dHi e0 e1 e2) w
    · rw [hρ]; exact fun s w => tri_eq (c_spanHull (dLo 52 e0 e1) (dHi e0 e1 e2) (dLo 52 d0 d1) (dHi d0 d1 d2) w) (rHull_comm _ _)
    · rw [hρ]; exact fun s w => c_spanMeet (dLo 52 d0 d1) (dHi d0 d1 d2) (dLo 52 e0 e1) (dHi e0 e1 e2) w
    · rw [hρ]; exact fun s w => tri_eq (c_spanMeet (dLo 52 e0 e1) (dHi e0 e1 e2) (dLo 52 d0 d1) (dHi d0 d1 d2) w) (rMeet_comm _ _)
    · rw [hρ]; exact fun s w => tri_eq (c_spanNeg (dLo 52 e0 e1) (dHi e0 e1 e2) w) (rNeg (dspan_valid e0 e1 e2 he2))
    · rw [hρ]; exact fun s w => tri_eq (c_spanNeg (-(dHi e0 e1 e2)) (-(dLo 52 e0 e1)) w) (rNeg2 (dspan_valid e0 e1 e2 he2))
    · rw [hρ]; exact fun s w => c_spanSub (dLo 52 d0 d1) (dHi d0 d1 d2) (dLo 52 e0 e1) (dHi e0 e1 e2) w
    · rw [hρ]; exact fun s w => tri_eq (c_spanAdd (dLo 52 d0 d1) (dHi d0 d1 d2) (-(dHi e0 e1 e2)) (-(dLo 52 e0 e1)) w) (rAdd_neg (dspan_valid d0 d1 d2 hd2) (dspan_valid e0 e1 e2 he2))
    · rw [hρ]; exact fun s w => tri_eq (c_spanMul (dLo 52 d0 d1) (dHi d0 d1 d2) 4294967296 4294967296 w) (rMul_one rfl (dspan_valid d0 d1 d2 hd2))
    · rw [hρ]; exact fun s w => tri_eq (c_spanDiv (dLo 52 d0 d1) (dHi d0 d1 d2) 4294967296 4294967296 w) (rDiv_one rfl (dspan_valid d0 d1 d2 hd2))
    · rw [hρ]; exact fun s w => c_spanSqr (dLo 52 d0 d1) (dHi d0 d1 d2) w
    · rw [hρ]; exact fun s w => c_spanMul (dLo 52 d0 d1) (dHi d0 d1 d2) (dLo 52 d0 d1) (dHi d0 d1 d2) w
    · rw [hρ]; exact fun s w => c_inside _ _ _ _ _ _ (rSqr_mul (dspan_valid d0 d1 d2 hd2)) w
    · rw [hρ]; exact fun s w => int_eq (c_spanCheck (dLo 37 d0 d1) (dHs d0 d1 d2) w) (dsmall_valid d0 d1 d2 hd2).ok
    · rw [hρ]; exact fun s w => int_eq (c_spanCheck (dLo 37 e0 e1) (dHs e0 e1 e2) w) (dsmall_valid e0 e1 e2 he2).ok
    · rw [hρ]; exact fun s w => c_spanAdd (dLo 37 d0 d1) (dHs d0 d1 d2) (dLo 37 e0 e1) (dHs e0 e1 e2) w
    · rw [hρ]; exact fun s w => tri_eq (c_spanAdd (dLo 37 e0 e1) (dHs e0 e1 e2) (dLo 37 d0 d1) (dHs d0 d1 d2) w) (rAdd_comm _ _)
    · rw [hρ]; exact fun s w => c_spanMul (dLo 37 d0 d1) (dHs d0 d1 d2) (dLo 37 e0 e1) (dHs e0 e1 e2) w
    · rw [hρ]; exact fun s w => tri_eq (c_spanMul (dLo 37 e0 e1) (dHs e0 e1 e2) (dLo 37 d0 d1) (dHs d0 d1 d2) w) (rMul_comm _ _)
    · rw [hρ]; exact fun s w => c_spanMin (dLo 37 d0 d1) (dHs d0 d1 d2) (dLo 37 e0 e1) (dHs e0 e1 e2) w
    · rw [hρ]; exact fun s w => tri_eq (c_spanMin (dLo 37 e0 e1) (dHs e0 e1 e2) (dLo 37 d0 d1) (dHs d0 d1 d2) w) (rMin_comm _ _)
    · rw [hρ]; exact fun s w => c_spanMax (dLo 37 d0 d1) (dHs d0 d1 d2) (dLo 37 e0 e1) (dHs e0 e1 e2) w
    · rw [hρ]; exact fun s w => tri_eq (c_spanMax (dLo 37 e0 e1) (dHs e0 e1 e2) (dLo 37 d0 d1) (dHs d0 d1 d2) w) (rMax_comm _ _)
    · rw [hρ]; exact fun s w => c_spanHull (dLo 37 d0 d1) (dHs d0 d1 d2) (dLo 37 e0 e1) (dHs e0 e1 e2) w
    · rw [hρ]; exact fun s w => tri_eq (c_spanHull (dLo 37 e0 e1) (dHs e0 e1 e2) (dLo 37 d0 d1) (dHs d0 d1 d2) w) (rHull_comm _ _)
    · rw [hρ]; exact fun s w => c_spanMeet (dLo 37 d0 d1) (dHs d0 d1 d2) (dLo 37 e0 e1) (dHs e0 e1 e2) w
    · rw [hρ]; exact fun s w => tri_eq (c_spanMeet (dLo 37 e0 e1) (dHs e0 e1 e2) (dLo 37 d0 d1) (dHs d0 d1 d2) w) (rMeet_comm _ _)
    · rw [hρ]; exact fun s w => tri_eq (c_spanNeg (dLo 37 e0 e1) (dHs e0 e1 e2) w) (rNeg (dsmall_valid e0 e1 e2 he2).ok)
    · rw [hρ]; exact fun s w => tri_eq (c_spanNeg (-(dHs e0 e1 e2)) (-(dLo 37 e0 e1)) w) (rNeg2 (dsmall_valid e0 e1 e2 he2).ok)
    · rw [hρ]; exact fun s w => c_spanSub (dLo 37 d0 d1) (dHs d0 d1 d2) (dLo 37 e0 e1) (dHs e0 e1 e2) w
    · rw [hρ]; exact fun s w => tri_eq (c_spanAdd (dLo 37 d0 d1) (dHs d0 d1 d2) (-(dHs e0 e1 e2)) (-(dLo 37 e0 e1)) w) (rAdd_neg (dsmall_valid d0 d1 d2 hd2).ok (dsmall_valid e0 e1 e2 he2).ok)
    · rw [hρ]; exact fun s w => tri_eq (c_spanMul (dLo 37 d0 d1) (dHs d0 d1 d2) 4294967296 4294967296 w) (rMul_one rfl (dsmall_valid d0 d1 d2 hd2).ok)
    · rw [hρ]; exact fun s w => tri_eq (c_spanDiv (dLo 37 d0 d1) (dHs d0 d1 d2) 4294967296 4294967296 w) (rDiv_one rfl (dsmall_valid d0 d1 d2 hd2).ok)
    · rw [hρ]; exact fun s w => c_spanSqr (dLo 37 d0 d1) (dHs d0 d1 d2) w
    · rw [hρ]; exact fun s w => c_spanMul (dLo 37 d0 d1) (dHs d0 d1 d2) (dLo 37 d0 d1) (dHs d0 d1 d2) w
    · rw [hρ]; exact fun s w => c_inside _ _ _ _ _ _ (rSqr_mul (dsmall_valid d0 d1 d2 hd2).ok) w
    · rw [hρ]; exact fun s w => c_spanAdd (dLo 52 d0 d1) (dHi d0 d1 d2) (dLo 37 e0 e1) (dHs e0 e1 e2) w
    · rw [hρ]; exact fun s w => tri_eq (c_spanAdd (dLo 37 e0 e1) (dHs e0 e1 e2) (dLo 52 d0 d1) (dHi d0 d1 d2) w) (rAdd_comm _ _)
    · rw [hρ]; exact fun s w => c_spanMul (dLo 52 d0 d1) (dHi d0 d1 d2) (dLo 37 e0 e1) (dHs e0 e1 e2) w
    · rw [hρ]; exact fun s w => tri_eq (c_spanMul (dLo 37 e0 e1) (dHs e0 e1 e2) (dLo 52 d0 d1) (dHi d0 d1 d2) w) (rMul_comm _ _)
    · rw [hρ]; exact fun s w => c_spanMin (dLo 52 d0 d1) (dHi d0 d1 d2) (dLo 37 e0 e1) (dHs e0 e1 e2) w
    · rw [hρ]; exact fun s w => tri_eq (c_spanMin (dLo 37 e0 e1) (dHs e0 e1 e2) (dLo 52 d0 d1) (dHi d0 d1 d2) w) (rMin_comm _ _)
    · rw [hρ]; exact fun s w => c_spanMax (dLo 52 d0 d1) (dHi d0 d1 d2) (dLo 37 e0 e1) (dHs e0 e1 e2) w
    · rw [hρ]; exact fun s w => tri_eq (c_spanMax (dLo 37 e0 e1) (dHs e0 e1 e2) (dLo 52 d0 d1) (dHi d0 d1 d2) w) (rMax_comm _ _)
    · rw [hρ]; exact fun s w => c_spanHull (dLo 52 d0 d1) (dHi d0 d1 d2) (dLo 37 e0 e1) (dHs e0 e1 e2) w
    · rw [hρ]; exact fun s w => tri_eq (c_spanHull (dLo 37 e0 e1) (dHs e0 e1 e2) (dLo 52 d0 d1) (dHi d0 d1 d2) w) (rHull_comm _ _)
    · rw [hρ]; exact fun s w => c_spanMeet (dLo 52 d0 d1) (dHi d0 d1 d2) (dLo 37 e0 e1) (dHs e0 e1 e2) w
    · rw [hρ]; exact fun s w => tri_eq (c_spanMeet (dLo 37 e0 e1) (dHs e0 e1 e2) (dLo 52 d0 d1) (dHi d0 d1 d2) w) (rMeet_comm _ _)
    · rw [hρ]; exact fun s w => c_spanSub (dLo 52 d0 d1) (dHi d0 d1 d2) (dLo 37 e0 e1) (dHs e0 e1 e2) w
    · rw [hρ]; exact fun s w => tri_eq (c_spanAdd (dLo 52 d0 d1) (dHi d0 d1 d2) (-(dHs e0 e1 e2)) (-(dLo 37 e0 e1)) w) (rAdd_neg (dspan_valid d0 d1 d2 hd2) (dsmall_valid e0 e1 e2 he2).ok)
    · rw [hρ]; exact fun s w => tri_eq (c_spanMul a0 a1 (dLo 52 e0 e1) (dHi e0 e1 e2) w) (rInv (.inl hA))
  have hF : FactsOk ρ yYgFFF := by
    refine ⟨?_, ?_, ?_, ?_⟩
    · simp [yYgFFF]
    · simp [yYgFFF]
    · simp [yYgFFF]
    · simp [yYgFFF]
  have h := calls_runM yYgFF_run hF (by intro e he; simp only [List.mem_cons, List.not_mem_nil, or_false] at he; subst he; exact eqOk_span) (by intro e he; rcases List.mem_cons.1 he with rfl | he; exact wkE_ok _ hp; exact fun s w _ => hL e he s w) (by simp) rfl (pw_rel ρ hp)
  rw [hρ] at h
  refine (show Calls Tryd.prog 8 #[.agg #[.int .i64 a0, .int .i64 a1, .int .i64 b0, .int .i64 b1, .int .i64 d0, .int .u8 d1, .int .u32 d2, .int .i64 e0, .int .u8 e1, .int .u32 e2]] w _ from h).mono ?_
  rintro e w' ⟨⟨s, he⟩, hb⟩
  exact ⟨he, hb⟩

end Go.Proofs.YtpdaigenffecmaaDoor
