/-
  The statement SpanProducts: its code answers true.
-/
import Derived.Test.YtpdaigenffecmaaDoorM21
import Derived.Test.YtpdaigenffecmaaDoorM23
import Derived.Test.YtpdaigenffecmaaDoorM26
import Derived.Test.YtpdaigenffecmaaDoorM28
set_option linter.all false
namespace Go.Proofs.YtpdaigenffecmaaDoor
open Go.RowKit

def yYpL : List Ent := [
  ⟨13, [.v (.agg (dr 4))], .v (SR [11, 12])⟩,
  ⟨13, [.v (.agg (dr 7))], .v (SR [13, 14])⟩,
  ⟨64, [.v (.agg (dr 4))], .v (SR [15, 16])⟩,
  ⟨64, [.v (.agg (dr 7))], .v (SR [17, 18])⟩,
  ⟨30, [SV [0, 1], SV [2, 3]], SE [22, 23] 24⟩,
  ⟨31, [SV [0, 1], SV [2, 3]], SE [22, 23] 24⟩,
  ⟨32, [SV [0, 1]], SE [25, 26] 27⟩,
  ⟨33, [SV [0, 1]], SE [25, 26] 27⟩,
  ⟨34, [SV [0, 1], .v (.one (S1 10))], SE [28, 29] 30⟩,
  ⟨35, [SV [0, 1], .v (.one (S1 10))], SE [28, 29] 30⟩,
  ⟨34, [SV [0, 1], .v (.one (S1 21))], SE [31, 32] 33⟩,
  ⟨35, [SV [0, 1], .v (.one (S1 21))], SE [31, 32] 33⟩,
  ⟨30, [SV [11, 12], SV [13, 14]], SE [34, 35] 36⟩,
  ⟨31, [SV [11, 12], SV [13, 14]], SE [34, 35] 36⟩,
  ⟨32, [SV [11, 12]], SE [37, 38] 39⟩,
  ⟨33, [SV [11, 12]], SE [37, 38] 39⟩,
  ⟨34, [SV [11, 12], .v (.one (S1 10))], SE [40, 41] 42⟩,
  ⟨35, [SV [11, 12], .v (.one (S1 10))], SE [40, 41] 42⟩,
  ⟨34, [SV [11, 12], .v (.one (S1 21))], SE [43, 44] 45⟩,
  ⟨35, [SV [11, 12], .v (.one (S1 21))], SE [43, 44] 45⟩,
  ⟨30, [SV [15, 16], SV [17, 18]], SE [46, 47] 48⟩,
  ⟨31, [SV [15, 16], SV [17, 18]], SE [46, 47] 48⟩,
  ⟨32, [SV [15, 16]], SE [49, 50] 51⟩,
  ⟨33, [SV [15, 16]], SE [49, 50] 51⟩,
  ⟨34, [SV [15, 16], .v (.one (S1 10))], SE [52, 53] 54⟩,
  ⟨35, [SV [15, 16], .v (.one (S1 10))], SE [52, 53] 54⟩,
  ⟨34, [SV [15, 16], .v (.one (S1 21))], SE [55, 56] 57⟩,
  ⟨35, [SV [15, 16], .v (.one (S1 21))], SE [55, 56] 57⟩,
  ⟨30, [SV [11, 12], SV [17, 18]], SE [58, 59] 60⟩,
  ⟨31, [SV [11, 12], SV [17, 18]], SE [58, 59] 60⟩,
  ⟨30, [SV [0, 1], SV [13, 14]], SE [61, 62] 63⟩,
  ⟨31, [SV [0, 1], SV [13, 14]], SE [61, 62] 63⟩]
def yYpF : Facts := { cmp := [], ar := [(.rem, .u64, .sym 19, .u64, .lit 18, .sym 20)], cv := [(.u64, .sym 10, .sym 19), (.i64, .sym 20, .sym 21)], mm := [] }
def yYpA : List AV := [.v (.agg ((rg 0 4).map S1 ++ dr 4 ++ dr 7)), .v (.one (S1 10))]

set_option maxRecDepth 100000 in
theorem yYp_run : runM Tryd.prog (tab Tryd.prog yYpF [(23, 2)] (wkE :: yYpL) []) 6 pwM 5 yYpA = some (.v (.one (.bool true))) := by kernel_rfl

set_option maxRecDepth 100000 in
set_option maxHeartbeats 4000000 in
theorem c_lawSpanProducts (a0 a1 b0 b1 d0 d1 d2 e0 e1 e2 n : Int) (hd1 : 0 ≤ d1 ∧ d1 ≤ 255) (hd2 : 0 ≤ d2 ∧ d2 ≤ 4294967295) (he1 : 0 ≤ e1 ∧ e1 ≤ 255) (he2 : 0 ≤ e2 ∧ e2 ≤ 4294967295) (w : World) (hp : Pow10 w) :
    Calls Tryd.prog 5 #[.agg #[.int .i64 a0, .int .i64 a1, .int .i64 b0, .int .i64 b1, .int .i64 d0, .int .u8 d1, .int .u32 d2, .int .i64 e0, .int .u8 e1, .int .u32 e2], .int .i64 n] w fun e w' => e = .returned (.bool true) ∧ Below w.heap.size w w' := by
  obtain ⟨ρ, hρ⟩ : ∃ ρ, ρ = ρL [a0, a1, b0, b1, d0, d1, d2, e0, e1, e2, n, (dLo 52 d0 d1), (dHi d0 d1 d2), (dLo 52 e0 e1), (dHi e0 e1 e2), (dLo 37 d0 d1), (dHs d0 d1 d2), (dLo 37 e0 e1), (dHs e0 e1 e2), (IntKind.u64.wrap n), ((IntKind.u64.wrap n).tmod 18), (IntKind.i64.wrap ((IntKind.u64.wrap n).tmod 18)), (spMul (a0, a1) (b0, b1)).1, (spMul (a0, a1) (b0, b1)).2.1, (spMul (a0, a1) (b0, b1)).2.2, (spPow (a0, a1) 2).1, (spPow (a0, a1) 2).2.1, (spPow (a0, a1) 2).2.2, (spPow (a0, a1) n).1, (spPow (a0, a1) n).2.1, (spPow (a0, a1) n).2.2, (spPow (a0, a1) (IntKind.i64.wrap ((IntKind.u64.wrap n).tmod 18))).1, (spPow (a0, a1) (IntKind.i64.wrap ((IntKind.u64.wrap n).tmod 18))).2.1, (spPow (a0, a1) (IntKind.i64.wrap ((IntKind.u64.wrap n).tmod 18))).2.2, (spMul ((dLo 52 d0 d1), (dHi d0 d1 d2)) ((dLo 52 e0 e1), (dHi e0 e1 e2))).1, (spMul ((dLo 52 d0 d1), (dHi d0 d1 d2)) ((dLo 52 e0 e1), (dHi e0 e1 e2))).2.1, (spMul ((dLo 52 d0 d1), (dHi d0 d1 d2)) ((dLo 52 e0 e1), (dHi e0 e1 e2))).2.2, (spPow ((dLo 52 d0 d1), (dHi d0 d1 d2)) 2).1, (spPow ((dLo 52 d0 d1), (dHi d0 d1 d2)) 2).2.1, (spPow ((dLo 52 d0 d1), (dHi d0 d1 d2)) 2).2.2, (spPow ((dLo 52 d0 d1), (dHi d0 d1 d2)) n).1, (spPow ((dLo 52 d0 d1), (dHi d0 d1 d2)) n).2.1, (spPow ((dLo 52 d0 d1), (dHi d0 d1 d2)) n).2.2, (spPow ((dLo 52 d0 d1), (dHi d0 d1 d2)) (IntKind.i64.wrap ((IntKind.u64.wrap n).tmod 18))).1, (spPow ((dLo 52 d0 d1), (dHi d0 d1 d2)) (IntKind.i64.wrap ((IntKind.u64.wrap n).tmod 18))).2.1, (spPow ((dLo 52 d0 d1), (dHi d0 d1 d2)) (IntKind.i64.wrap ((IntKind.u64.wrap n).tmod 18))).2.2, (spMul ((dLo 37 d0 d1), (dHs d0 d1 d2)) ((dLo 37 e0 e1), (dHs e0 e1 e2))).1, (spMul ((dLo 37 d0 d1), (dHs d0 d1 d2)) ((dLo 37 e0 e1), (dHs e0 e1 e2))).2.1, (spMul ((dLo 37 d0 d1), (dHs d0 d1 d2)) ((dLo 37 e0 e1), (dHs e0 e1 e2))).2.2, (spPow ((dLo 37 d0 d1), (dHs d0 d1 d2)) 2).1, (spPow ((dLo 37 d0 d1), (dHs d0 d1 d2)) 2).2.1, (spPow ((dLo 37 d0 d1), (dHs d0 d1 d2)) 2).2.2, (spPow ((dLo 37 d0 d1), (dHs d0 d1 d2)) n).1, (spPow ((dLo 37 d0 d1), (dHs d0 d1 d2)) n).2.1, (spPow ((dLo 37 d0 d1), (dHs d0 d1 d2)) n).2.2, (spPow ((dLo 37 d0 d1), (dHs d0 d1 d2)) (IntKind.i64.wrap ((IntKind.u64.wrap n).tmod 18))).1, (spPow ((dLo 37 d0 d1), (dHs d0 d1 d2)) (IntKind.i64.wrap ((IntKind.u64.wrap n).tmod 18))).2.1, (spPow ((dLo 37 d0 d1), (dHs d0 d1 d2)) (IntKind.i64.wrap ((IntKind.u64.wrap n).tmod 18))).2.2, (spMul ((dLo 52 d0 d1), (dHi d0 d1 d2)) ((dLo 37 e0 e1), (dHs e0 e1 e2))).1, (spMul ((dLo 52 d0 d1), (dHi d0 d1 d2)) ((dLo 37 e0 e1), (dHs e0 e1 e2))).2.1, (spMul ((dLo 52 d0 d1), (dHi d0 d1 d2)) ((dLo 37 e0 e1), (dHs e0 e1 e2))).2.2, (spMul (a0, a1) ((dLo 52 e0 e1), (dHi e0 e1 e2))).1, (spMul (a0, a1) ((dLo 52 e0 e1), (dHi e0 e1 e2))).2.1, (spMul (a0, a1) ((dLo 52 e0 e1), (dHi e0 e1 e2))).2.2] := ⟨_, rfl⟩
  have hL : ∀ e ∈ yYpL, EntOk Tryd.prog ρ e := by
    intro e he
    simp only [yYpL, List.mem_cons, List.not_mem_nil, or_false] at he
    rcases he with rfl | rfl | rfl | rfl | rfl | rfl | rfl | rfl | rfl | rfl | rfl | rfl | rfl | rfl | rfl | rfl | rfl | rfl | rfl | rfl | rfl | rfl | rfl | rfl | rfl | rfl | rfl | rfl | rfl | rfl | rfl | rfl
    · rw [hρ]; exact fun s w => c_dspanD d0 d1 d2 hd1 hd2 w
    · rw [hρ]; exact fun s w => c_dspanD e0 e1 e2 he1 he2 w
    · rw [hρ]; exact fun s w => c_dsmallD d0 d1 d2 hd1 hd2 w
    · rw [hρ]; exact fun s w => c_dsmallD e0 e1 e2 he1 he2 w
    · rw [hρ]; exact fun s w => c_spanMul a0 a1 b0 b1 w
    · rw [hρ]; exact fun s w => c_sMul a0 a1 b0 b1 w
    · rw [hρ]; exact fun s w => c_spanSqr a0 a1 w
    · rw [hρ]; exact fun s w => c_sSqr a0 a1 w
    · rw [hρ]; exact fun s w => c_spanPow a0 a1 n w
    · rw [hρ]; exact fun s w => c_sPow a0 a1 n w
    · rw [hρ]; exact fun s w => c_spanPow a0 a1 (IntKind.i64.wrap ((IntKind.u64.wrap n).tmod 18)) w
    · rw [hρ]; exact fun s w => c_sPow a0 a1 (IntKind.i64.wrap ((IntKind.u64.wrap n).tmod 18)) w
    · rw [hρ]; exact fun s w => c_spanMul (dLo 52 d0 d1) (dHi d0 d1 d2) (dLo 52 e0 e1) (dHi e0 e1 e2) w
    · rw [hρ]; exact fun s w => c_sMul (dLo 52 d0 d1) (dHi d0 d1 d2) (dLo 52 e0 e1) (dHi e0 e1 e2) w
    · rw [hρ]; exact fun s w => c_spanSqr (dLo 52 d0 d1) (dHi d0 d1 d2) w
    · rw [hρ]; exact fun s w => c_sSqr (dLo 52 d0 d1) (dHi d0 d1 d2) w
    · rw [hρ]; exact fun s w => c_spanPow (dLo 52 d0 d1) (dHi d0 d1 d2) n w
    · rw [hρ]; exact fun s w => c_sPow (dLo 52 d0 d1) (dHi d0 d1 d2) n w
    · rw [hρ]; exact fun s w => c_spanPow (dLo 52 d0 d1) (dHi d0 d1 d2) (IntKind.i64.wrap ((IntKind.u64.wrap n).tmod 18)) w
    · rw [hρ]; exact fun s w => c_sPow (dLo 52 d0 d1) (dHi d0 d1 d2) (IntKind.i64.wrap ((IntKind.u64.wrap n).tmod 18)) w
    · rw [hρ]; exact fun s w => c_spanMul (dLo 37 d0 d1) (dHs d0 d1 d2) (dLo 37 e0 e1) (dHs e0 e1 e2) w
    · rw [hρ]; exact fun s w => c_sMul (dLo 37 d0 d1) (dHs d0 d1 d2) (dLo 37 e0 e1) (dHs e0 e1 e2) w
    · rw [hρ]; exact fun s w => c_spanSqr (dLo 37 d0 d1) (dHs d0 d1 d2) w
    · rw [hρ]; exact fun s w => c_sSqr (dLo 37 d0 d1) (dHs d0 d1 d2) w
    · rw [hρ]; exact fun s w => c_spanPow (dLo 37 d0 d1) (dHs d0 d1 d2) n w
    · rw [hρ]; exact fun s w => c_sPow (dLo 37 d0 d1) (dHs d0 d1 d2) n w
    · rw [hρ]; exact fun s w => c_spanPow (dLo 37 d0 d1) (dHs d0 d1 d2) (IntKind.i64.wrap ((IntKind.u64.wrap n).tmod 18)) w
    · rw [hρ]; exact fun s w => c_sPow (dLo 37 d0 d1) (dHs d0 d1 d2) (IntKind.i64.wrap ((IntKind.u64.wrap n).tmod 18)) w
    · rw [hρ]; exact fun s w => c_spanMul (dLo 52 d0 d1) (dHi d0 d1 d2) (dLo 37 e0 e1) (dHs e0 e1 e2) w
    · rw [hρ]; exact fun s w => c_sMul (dLo 52 d0 d1) (dHi d0 d1 d2) (dLo 37 e0 e1) (dHs e0 e1 e2) w
    · rw [hρ]; exact fun s w => c_spanMul a0 a1 (dLo 52 e0 e1) (dHi e0 e1 e2) w
    · rw [hρ]; exact fun s w => c_sMul a0 a1 (dLo 52 e0 e1) (dHi e0 e1 e2) w
  have hF : FactsOk ρ yYpF := by
    refine ⟨?_, ?_, ?_, ?_⟩
    · simp [yYpF]
    · intro e he
      simp only [yYpF, List.mem_cons, List.not_mem_nil, or_false] at he
      rcases he with rfl
      · rw [hρ]; exact (ar_rem (IntKind.u64.wrap n) (by decide) : ArOk .rem .u64 (IntKind.u64.wrap n) .u64 18 _)
    · intro e he
      simp only [yYpF, List.mem_cons, List.not_mem_nil, or_false] at he
      rcases he with rfl | rfl
      · rw [hρ]; rfl
      · rw [hρ]; rfl
    · simp [yYpF]
  have h := calls_runM yYp_run hF (by intro e he; simp only [List.mem_cons, List.not_mem_nil, or_false] at he; subst he; exact eqOk_span) (by intro e he; rcases List.mem_cons.1 he with rfl | he; exact wkE_ok _ hp; exact fun s w _ => hL e he s w) (by simp) rfl (pw_rel ρ hp)
  rw [hρ] at h
  refine (show Calls Tryd.prog 5 #[.agg #[.int .i64 a0, .int .i64 a1, .int .i64 b0, .int .i64 b1, .int .i64 d0, .int .u8 d1, .int .u32 d2, .int .i64 e0, .int .u8 e1, .int .u32 e2], .int .i64 n] w _ from h).mono ?_
  rintro e w' ⟨⟨s, he⟩, hb⟩
  exact ⟨he, hb⟩

end Go.Proofs.YtpdaigenffecmaaDoor
