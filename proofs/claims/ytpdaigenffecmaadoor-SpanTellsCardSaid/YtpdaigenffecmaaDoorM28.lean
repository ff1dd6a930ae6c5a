/-
  The statement SpanTells: its code answers true. Layer 2's arguments: read, opened and shut.
-/
import Derived.Test.YtpdaigenffecmaaDoorM22
import Derived.Test.YtpdaigenffecmaaDoorM27
set_option linter.all false
namespace Go.Proofs.YtpdaigenffecmaaDoor
open Go.RowKit

def bI (b : Bool) : Int := if b then 1 else 0
theorem has_bI {f : FuncId} {args : Array Value} {w : World} {b : Bool} {e : Int} (h : Calls Tryd.prog f args w fun x w' => x = .returned (.tuple #[.bool b, .int .i64 e]) ∧ Below w.heap.size w w') :
    Calls Tryd.prog f args w fun x w' => x = .returned (.tuple #[.bool (decide (bI b ≠ 0)), .int .i64 e]) ∧ Below w.heap.size w w' := by
  rw [show decide (bI b ≠ 0) = b by cases b <;> rfl]; exact h

def yYlL : List Ent := [
  ⟨13, [.v (.agg (dr 4))], .v (SR [11, 12])⟩,
  ⟨13, [.v (.agg (dr 7))], .v (SR [13, 14])⟩,
  ⟨64, [.v (.agg (dr 4))], .v (SR [15, 16])⟩,
  ⟨64, [.v (.agg (dr 7))], .v (SR [17, 18])⟩,
  ⟨49, [SV [0, 1], .v (.one (S1 10))], .tup [.one (.bsym 20), .one (S1 21)]⟩,
  ⟨50, [SV [0, 1], .v (.one (S1 10))], .tup [.one (.bsym 20), .one (S1 21)]⟩,
  ⟨49, [SV [0, 1], .v (.one (S1 0))], .tup [.one (.bsym 22), .one (S1 23)]⟩,
  ⟨50, [SV [0, 1], .v (.one (S1 0))], .tup [.one (.bsym 22), .one (S1 23)]⟩,
  ⟨49, [SV [0, 1], .v (.one (S1 1))], .tup [.one (.bsym 24), .one (S1 25)]⟩,
  ⟨50, [SV [0, 1], .v (.one (S1 1))], .tup [.one (.bsym 24), .one (S1 25)]⟩,
  ⟨49, [SV [0, 1], .v (.one (S1 19))], .tup [.one (.bsym 26), .one (S1 27)]⟩,
  ⟨50, [SV [0, 1], .v (.one (S1 19))], .tup [.one (.bsym 26), .one (S1 27)]⟩,
  ⟨51, [SV [0, 1]], .tup [.one (S1 28), .one (S1 29)]⟩,
  ⟨52, [SV [0, 1]], .tup [.one (S1 28), .one (S1 29)]⟩,
  ⟨53, [SV [0, 1]], .tup [.one (S1 30), .one (S1 31)]⟩,
  ⟨54, [SV [0, 1]], .tup [.one (S1 30), .one (S1 31)]⟩,
  ⟨55, [SV [0, 1]], .tup [.one (S1 32), .one (S1 33)]⟩,
  ⟨56, [SV [0, 1]], .tup [.one (S1 32), .one (S1 33)]⟩,
  ⟨49, [SV [11, 12], .v (.one (S1 10))], .tup [.one (.bsym 35), .one (S1 36)]⟩,
  ⟨50, [SV [11, 12], .v (.one (S1 10))], .tup [.one (.bsym 35), .one (S1 36)]⟩,
  ⟨49, [SV [11, 12], .v (.one (S1 11))], .tup [.one (.bsym 37), .one (S1 38)]⟩,
  ⟨50, [SV [11, 12], .v (.one (S1 11))], .tup [.one (.bsym 37), .one (S1 38)]⟩,
  ⟨49, [SV [11, 12], .v (.one (S1 12))], .tup [.one (.bsym 39), .one (S1 40)]⟩,
  ⟨50, [SV [11, 12], .v (.one (S1 12))], .tup [.one (.bsym 39), .one (S1 40)]⟩,
  ⟨49, [SV [11, 12], .v (.one (S1 34))], .tup [.one (.bsym 41), .one (S1 42)]⟩,
  ⟨50, [SV [11, 12], .v (.one (S1 34))], .tup [.one (.bsym 41), .one (S1 42)]⟩,
  ⟨51, [SV [11, 12]], .tup [.one (S1 43), .one (S1 44)]⟩,
  ⟨52, [SV [11, 12]], .tup [.one (S1 43), .one (S1 44)]⟩,
  ⟨53, [SV [11, 12]], .tup [.one (S1 45), .one (S1 46)]⟩,
  ⟨54, [SV [11, 12]], .tup [.one (S1 45), .one (S1 46)]⟩,
  ⟨55, [SV [11, 12]], .tup [.one (S1 47), .one (S1 48)]⟩,
  ⟨56, [SV [11, 12]], .tup [.one (S1 47), .one (S1 48)]⟩,
  ⟨49, [SV [15, 16], .v (.one (S1 10))], .tup [.one (.bsym 50), .one (S1 51)]⟩,
  ⟨50, [SV [15, 16], .v (.one (S1 10))], .tup [.one (.bsym 50), .one (S1 51)]⟩,
  ⟨49, [SV [15, 16], .v (.one (S1 15))], .tup [.one (.bsym 52), .one (S1 53)]⟩,
  ⟨50, [SV [15, 16], .v (.one (S1 15))], .tup [.one (.bsym 52), .one (S1 53)]⟩,
  ⟨49, [SV [15, 16], .v (.one (S1 16))], .tup [.one (.bsym 54), .one (S1 55)]⟩,
  ⟨50, [SV [15, 16], .v (.one (S1 16))], .tup [.one (.bsym 54), .one (S1 55)]⟩,
  ⟨49, [SV [15, 16], .v (.one (S1 49))], .tup [.one (.bsym 56), .one (S1 57)]⟩,
  ⟨50, [SV [15, 16], .v (.one (S1 49))], .tup [.one (.bsym 56), .one (S1 57)]⟩,
  ⟨51, [SV [15, 16]], .tup [.one (S1 58), .one (S1 59)]⟩,
  ⟨52, [SV [15, 16]], .tup [.one (S1 58), .one (S1 59)]⟩,
  ⟨53, [SV [15, 16]], .tup [.one (S1 60), .one (S1 61)]⟩,
  ⟨54, [SV [15, 16]], .tup [.one (S1 60), .one (S1 61)]⟩,
  ⟨55, [SV [15, 16]], .tup [.one (S1 62), .one (S1 63)]⟩,
  ⟨56, [SV [15, 16]], .tup [.one (S1 62), .one (S1 63)]⟩]
def yYlF : Facts := { cmp := [], ar := [(.add, .i64, .sym 1, .i64, .lit 1, .sym 19), (.add, .i64, .sym 12, .i64, .lit 1, .sym 34), (.add, .i64, .sym 16, .i64, .lit 1, .sym 49)], cv := [], mm := [] }
def yYlA : List AV := [.v (.agg ((rg 0 4).map S1 ++ dr 4 ++ dr 7)), .v (.one (S1 10))]

set_option maxRecDepth 100000 in
theorem yYl_run : runM Tryd.prog (tab Tryd.prog yYlF [(23, 2)] (wkE :: yYlL) []) 6 pwM 9 yYlA = some (.v (.one (.bool true))) := by kernel_rfl

set_option maxRecDepth 100000 in
set_option maxHeartbeats 4000000 in
theorem c_lawSpanTells (a0 a1 b0 b1 d0 d1 d2 e0 e1 e2 n : Int) (hd1 : 0 ≤ d1 ∧ d1 ≤ 255) (hd2 : 0 ≤ d2 ∧ d2 ≤ 4294967295) (he1 : 0 ≤ e1 ∧ e1 ≤ 255) (he2 : 0 ≤ e2 ∧ e2 ≤ 4294967295) (w : World) (hp : Pow10 w) :
    Calls Tryd.prog 9 #[.agg #[.int .i64 a0, .int .i64 a1, .int .i64 b0, .int .i64 b1, .int .i64 d0, .int .u8 d1, .int .u32 d2, .int .i64 e0, .int .u8 e1, .int .u32 e2], .int .i64 n] w fun e w' => e = .returned (.bool true) ∧ Below w.heap.size w w' := by
  obtain ⟨ρ, hρ⟩ : ∃ ρ, ρ = ρL [a0, a1, b0, b1, d0, d1, d2, e0, e1, e2, n, (dLo 52 d0 d1), (dHi d0 d1 d2), (dLo 52 e0 e1), (dHi e0 e1 e2), (dLo 37 d0 d1), (dHs d0 d1 d2), (dLo 37 e0 e1), (dHs e0 e1 e2), (IntKind.i64.wrap (a1 + 1)), (bI (spHas (a0, a1) n).1), (spHas (a0, a1) n).2, (bI (spHas (a0, a1) a0).1), (spHas (a0, a1) a0).2, (bI (spHas (a0, a1) a1).1), (spHas (a0, a1) a1).2, (bI (spHas (a0, a1) (IntKind.i64.wrap (a1 + 1))).1), (spHas (a0, a1) (IntKind.i64.wrap (a1 + 1))).2, (spMid (a0, a1)).1, (spMid (a0, a1)).2, (spWidth (a0, a1)).1, (spWidth (a0, a1)).2, (spSign (a0, a1)).1, (spSign (a0, a1)).2, (IntKind.i64.wrap ((dHi d0 d1 d2) + 1)), (bI (spHas ((dLo 52 d0 d1), (dHi d0 d1 d2)) n).1), (spHas ((dLo 52 d0 d1), (dHi d0 d1 d2)) n).2, (bI (spHas ((dLo 52 d0 d1), (dHi d0 d1 d2)) (dLo 52 d0 d1)).1), (spHas ((dLo 52 d0 d1), (dHi d0 d1 d2)) (dLo 52 d0 d1)).2, (bI (spHas ((dLo 52 d0 d1), (dHi d0 d1 d2)) (dHi d0 d1 d2)).1), (spHas ((dLo 52 d0 d1), (dHi d0 d1 d2)) (dHi d0 d1 d2)).2, (bI (spHas ((dLo 52 d0 d1), (dHi d0 d1 d2)) (IntKind.i64.wrap ((dHi d0 d1 d2) + 1))).1), (spHas ((dLo 52 d0 d1), (dHi d0 d1 d2)) (IntKind.i64.wrap ((dHi d0 d1 d2) + 1))).2, (spMid ((dLo 52 d0 d1), (dHi d0 d1 d2))).1, (spMid ((dLo 52 d0 d1), (dHi d0 d1 d2))).2, (spWidth ((dLo 52 d0 d1), (dHi d0 d1 d2))).1, (spWidth ((dLo 52 d0 d1), (dHi d0 d1 d2))).2, (spSign ((dLo 52 d0 d1), (dHi d0 d1 d2))).1, (spSign ((dLo 52 d0 d1), (dHi d0 d1 d2))).2, (IntKind.i64.wrap ((dHs d0 d1 d2) + 1)), (bI (spHas ((dLo 37 d0 d1), (dHs d0 d1 d2)) n).1), (spHas ((dLo 37 d0 d1), (dHs d0 d1 d2)) n).2, (bI (spHas ((dLo 37 d0 d1), (dHs d0 d1 d2)) (dLo 37 d0 d1)).1), (spHas ((dLo 37 d0 d1), (dHs d0 d1 d2)) (dLo 37 d0 d1)).2, (bI (spHas ((dLo 37 d0 d1), (dHs d0 d1 d2)) (dHs d0 d1 d2)).1), (spHas ((dLo 37 d0 d1), (dHs d0 d1 d2)) (dHs d0 d1 d2)).2, (bI (spHas ((dLo 37 d0 d1), (dHs d0 d1 d2)) (IntKind.i64.wrap ((dHs d0 d1 d2) + 1))).1), (spHas ((dLo 37 d0 d1), (dHs d0 d1 d2)) (IntKind.i64.wrap ((dHs d0 d1 d2) + 1))).2, (spMid ((dLo 37 d0 d1), (dHs d0 d1 d2))).1, (spMid ((dLo 37 d0 d1), (dHs d0 d1 d2))).2, (spWidth ((dLo 37 d0 d1), (dHs d0 d1 d2))).1, (spWidth ((dLo 37 d0 d1), (dHs d0 d1 d2))).2, (spSign ((dLo 37 d0 d1), (dHs d0 d1 d2))).1, (spSign ((dLo 37 d0 d1), (dHs d0 d1 d2))).2] := ⟨_, rfl⟩
  have hL : ∀ e ∈ yYlL, EntOk Tryd.prog ρ e := by
    intro e he
    simp only [yYlL, List.mem_cons, List.not_mem_nil, or_false] at he
    rcases he with rfl | rfl | rfl | rfl | rfl | rfl | rfl | rfl | rfl | rfl | rfl | rfl | rfl | rfl | rfl | rfl | rfl | rfl | rfl | rfl | rfl | rfl | rfl | rfl | rfl | rfl | rfl | rfl | rfl | rfl | rfl | rfl | rfl | rfl | rfl | rfl | rfl | rfl | rfl | rfl | rfl | rfl | rfl | rfl | rfl | rfl
    · rw [hρ]; exact fun s w => c_dspanD d0 d1 d2 hd1 hd2 w
    · rw [hρ]; exact fun s w => c_dspanD e0 e1 e2 he1 he2 w
    · rw [hρ]; exact fun s w => c_dsmallD d0 d1 d2 hd1 hd2 w
    · rw [hρ]; exact fun s w => c_dsmallD e0 e1 e2 he1 he2 w
    · rw [hρ]; exact fun s w => has_bI (c_spanHas a0 a1 n w)
    · rw [hρ]; exact fun s w => has_bI (c_sHas a0 a1 n w)
    · rw [hρ]; exact fun s w => has_bI (c_spanHas a0 a1 a0 w)
    · rw [hρ]; exact fun s w => has_bI (c_sHas a0 a1 a0 w)
    · rw [hρ]; exact fun s w => has_bI (c_spanHas a0 a1 a1 w)
    · rw [hρ]; exact fun s w => has_bI (c_sHas a0 a1 a1 w)
    · rw [hρ]; exact fun s w => has_bI (c_spanHas a0 a1 (IntKind.i64.wrap (a1 + 1)) w)
    · rw [hρ]; exact fun s w => has_bI (c_sHas a0 a1 (IntKind.i64.wrap (a1 + 1)) w)
    · rw [hρ]; exact fun s w => c_spanMid a0 a1 w
    · rw [hρ]; exact fun s w => c_sMid a0 a1 w
    · rw [hρ]; exact fun s w => c_spanWidth a0 a1 w
    · rw [hρ]; exact fun s w => c_sWidth a0 a1 w
    · rw [hρ]; exact fun s w => c_spanSign a0 a1 w
    · rw [hρ]; exact fun s w => c_sSign a0 a1 w
    · rw [hρ]; exact fun s w => has_bI (c_spanHas (dLo 52 d0 d1) (dHi d0 d1 d2) n w)
    · rw [hρ]; exact fun s w => has_bI (c_sHas (dLo 52 d0 d1) (dHi d0 d1 d2) n w)
    · rw [hρ]; exact fun s w => has_bI (c_spanHas (dLo 52 d0 d1) (dHi d0 d1 d2) (dLo 52 d0 d1) w)
    · rw [hρ]; exact fun s w => has_bI (c_sHas (dLo 52 d0 d1) (dHi d0 d1 d2) (dLo 52 d0 d1) w)
    · rw [hρ]; exact fun s w => has_bI (c_spanHas (dLo 52 d0 d1) (dHi d0 d1 d2) (dHi d0 d1 d2) w)
    · rw [hρ]; exact fun s w => has_bI (c_sHas (dLo 52 d0 d1) (dHi d0 d1 d2) (dHi d0 d1 d2) w)
    · rw [hρ]; exact fun s w => has_bI (c_spanHas (dLo 52 d0 d1) (dHi d0 d1 d2) (IntKind.i64.wrap ((dHi d0 d1 d2) + 1)) w)
    · rw [hρ]; exact fun s w => has_bI (c_sHas (dLo 52 d0 d1) (dHi d0 d1 d2) (IntKind.i64.wrap ((dHi d0 d1 d2) + 1)) w)
    · rw [hρ]; exact fun s w => c_spanMid (dLo 52 d0 d1) (dHi d0 d1 d2) w
    · rw [hρ]; exact fun s w => c_sMid (dLo 52 d0 d1) (dHi d0 d1 d2) w
    · rw [hρ]; exact fun s w => c_spanWidth (dLo 52 d0 d1) (dHi d0 d1 d2) w
    · rw [hρ]; exact fun s w => c_sWidth (dLo 52 d0 d1) (dHi d0 d1 d2) w
    · rw [hρ]; exact fun s w => c_spanSign (dLo 52 d0 d1) (dHi d0 d1 d2) w
    · rw [hρ]; exact fun s w => c_sSign (dLo 52 d0 d1) (dHi d0 d1 d2) w
    · rw [hρ]; exact fun s w => has_bI (c_spanHas (dLo 37 d0 d1) (dHs d0 d1 d2) n w)
    · rw [hρ]; exact fun s w => has_bI (c_sHas (dLo 37 d0 d1) (dHs d0 d1 d2) n w)
    · rw [hρ]; exact fun s w => has_bI (c_spanHas (dLo 37 d0 d1) (dHs d0 d1 d2) (dLo 37 d0 d1) w)
    · rw [hρ]; exact fun s w => has_bI (c_sHas (dLo 37 d0 d1) (dHs d0 d1 d2) (dLo 37 d0 d1) w)
    · rw [hρ]; exact fun s w => has_bI (c_spanHas (dLo 37 d0 d1) (dHs d0 d1 d2) (dHs d0 d1 d2) w)
    · rw [hρ]; exact fun s w => has_bI (c_sHas (dLo 37 d0 d1) (dHs d0 d1 d2) (dHs d0 d1 d2) w)
    · rw [hρ]; exact fun s w => has_bI (c_spanHas (dLo 37 d0 d1) (dHs d0 d1 d2) (IntKind.i64.wrap ((dHs d0 d1 d2) + 1)) w)
    · rw [hρ]; exact fun s w => has_bI (c_sHas (dLo 37 d0 d1) (dHs d0 d1 d2) (IntKind.i64.wrap ((dHs d0 d1 d2) + 1)) w)
    · rw [hρ]; exact fun s w => c_spanMid (dLo 37 d0 d1) (dHs d0 d1 d2) w
    · rw [hρ]; exact fun s w => c_sMid (dLo 37 d0 d1) (dHs d0 d1 d2) w
    · rw [hρ]; exact fun s w => c_spanWidth (dLo 37 d0 d1) (dHs d0 d1 d2) w
    · rw [hρ]; exact fun s w => c_sWidth (dLo 37 d0 d1) (dHs d0 d1 d2) w
    · rw [hρ]; exact fun s w => c_spanSign (dLo 37 d0 d1) (dHs d0 d1 d2) w
    · rw [hρ]; exact fun s w => c_sSign (dLo 37 d0 d1) (dHs d0 d1 d2) w
  have hF : FactsOk ρ yYlF := by
    refine ⟨?_, ?_, ?_, ?_⟩
    · simp [yYlF]
    · intro e he
      simp only [yYlF, List.mem_cons, List.not_mem_nil, or_false] at he
      rcases he with rfl | rfl | rfl
      · rw [hρ]; exact (ar_add rfl : ArOk .add .i64 (a1) .i64 1 _)
      · rw [hρ]; exact (ar_add rfl : ArOk .add .i64 ((dHi d0 d1 d2)) .i64 1 _)
      · rw [hρ]; exact (ar_add rfl : ArOk .add .i64 ((dHs d0 d1 d2)) .i64 1 _)
    · simp [yYlF]
    · simp [yYlF]
  have h := calls_runM yYl_run hF (by intro e he; simp only [List.mem_cons, List.not_mem_nil, or_false] at he; subst he; exact eqOk_span) (by intro e he; rcases List.mem_cons.1 he with rfl | he; exact wkE_ok _ hp; exact fun s w _ => hL e he s w) (by simp) rfl (pw_rel ρ hp)
  rw [hρ] at h
  refine (show Calls Tryd.prog 9 #[.agg #[.int .i64 a0, .int .i64 a1, .int .i64 b0, .int .i64 b1, .int .i64 d0, .int .u8 d1, .int .u32 d2, .int .i64 e0, .int .u8 e1, .int .u32 e2], .int .i64 n] w _ from h).mono ?_
  rintro e w' ⟨⟨s, he⟩, hb⟩
  exact ⟨he, hb⟩

end Go.Proofs.YtpdaigenffecmaaDoor

namespace Go.Proofs.YtpdaigenffecmaaDoor
open Go Go.RowKit Go.ChangeShapes Go.WideShapes Go.Joins Go.Deep

theorem Tryd.cellsTwo : Tryd.prog.cellsOf 40 = 10 := by kernel_rfl
theorem Tryd.cellsSpan : Tryd.prog.cellsOf 23 = 2 := by kernel_rfl
theorem Tryd.cellsDraft : Tryd.prog.cellsOf 26 = 3 := by kernel_rfl
theorem Tryd.cellsInt : Tryd.prog.cellsOf 3 = 1 := by kernel_rfl
theorem Tryd.cellsU8 : Tryd.prog.cellsOf 5 = 1 := by kernel_rfl
theorem Tryd.cellsU32 : Tryd.prog.cellsOf 24 = 1 := by kernel_rfl
theorem Tryd.cellsU64 : Tryd.prog.cellsOf 48 = 1 := by kernel_rfl
theorem Tryd.cellsPlaces : Tryd.prog.cellsOf 50 = 2 := by kernel_rfl
def dSpan {H : Type} (a b : Int) : DataW H := .agg [.lit (.int .i64 a), .lit (.int .i64 b)]
def dDraft {H : Type} (a b c : Int) : DataW H := .agg [.lit (.int .i64 a), .lit (.int .u8 b), .lit (.int .u32 c)]
def I64 (a : Int) : Prop := (Lit.int .i64 a).wf = true
def U8 (a : Int) : Prop := (Lit.int .u8 a).wf = true
def U32 (a : Int) : Prop := (Lit.int .u32 a).wf = true
def U64 (a : Int) : Prop := (Lit.int .u64 a).wf = true
theorem U8.bounds {a : Int} (h : U8 a) : 0 ≤ a ∧ a ≤ 255 := bounds_u8 h
theorem U32.bounds {a : Int} (h : U32 a) : 0 ≤ a ∧ a ≤ 4294967295 := bounds_u32 h
theorem I64.bounds {a : Int} (h : I64 a) : -9223372036854775808 ≤ a ∧ a ≤ 9223372036854775807 := bounds_i64 h
theorem U64.bounds {a : Int} (h : U64 a) : 0 ≤ a ∧ a ≤ 18446744073709551615 := bounds_u64 h
def dPlaces {H : Type} (a b : Int) : DataW H := .agg [.lit (.int .u64 a), .lit (.int .u64 b)]

section
variable {H : Type} {enc : TypeId × Value → H} {w : World} {base : Nat} {spare : Nat → Bool} {held : Bool}
theorem m_span (n : Nat) {a b : Int} (ha : I64 a) (hb : I64 b) : DataW.trod enc Tryd.prog w base spare held (n + 2) 23 [.int .i64 a, .int .i64 b] = some (dSpan a b, []) := by
  have h0 : (Lit.int .i64 a).wf = true := ha
  have h1 : (Lit.int .i64 b).wf = true := hb
  exact trod_struct2_mk (y0 := (.lit (.int .i64 a), [])) (y1 := (.lit (.int .i64 b), [])) Tryd.underlying23 (by rw [Tryd.cellsSpan]; rfl) (by simp only [Tryd.cellsInt, Tryd.cellsU8, Tryd.cellsU32, Tryd.cellsDraft]; exact trod_int_mk n Tryd.underlying3 h0) (by simp only [Tryd.cellsInt, Tryd.cellsU8, Tryd.cellsU32, Tryd.cellsDraft]; exact trod_int_mk n Tryd.underlying3 h1)
theorem m_draft (n : Nat) {a b c : Int} (ha : I64 a) (hb : U8 b) (hc : U32 c) : DataW.trod enc Tryd.prog w base spare held (n + 2) 26 [.int .i64 a, .int .u8 b, .int .u32 c] = some (dDraft a b c, []) := by
  have h0 : (Lit.int .i64 a).wf = true := ha
  have h1 : (Lit.int .u8 b).wf = true := hb
  have h2 : (Lit.int .u32 c).wf = true := hc
  exact trod_struct3_mk (y0 := (.lit (.int .i64 a), [])) (y1 := (.lit (.int .u8 b), [])) (y2 := (.lit (.int .u32 c), [])) Tryd.underlying26 (by rw [Tryd.cellsDraft]; rfl) (by simp only [Tryd.cellsInt, Tryd.cellsU8, Tryd.cellsU32, Tryd.cellsDraft]; exact trod_int_mk n Tryd.underlying3 h0) (by simp only [Tryd.cellsInt, Tryd.cellsU8, Tryd.cellsU32, Tryd.cellsDraft]; exact trod_int_mk n Tryd.underlying5 h1) (by simp only [Tryd.cellsInt, Tryd.cellsU8, Tryd.cellsU32, Tryd.cellsDraft]; exact trod_int_mk n Tryd.underlying24 h2)
theorem o_span {fuel : Nat} {u v : Value} {x : DataW H × List MemPlace} (h : DataW.trod enc Tryd.prog w base spare held fuel 23 [u, v] = some x) : ∃ a b, u = .int .i64 a ∧ v = .int .i64 b ∧ x = (dSpan a b, []) ∧ I64 a ∧ I64 b := by
  obtain ⟨y0, y1, n, hx, _, h0, h1⟩ := trod_struct2 Tryd.underlying23 h
  obtain ⟨a, e0, rfl, wa⟩ := DataW.trod_int Tryd.underlying3 h0
  obtain ⟨b, e1, rfl, wb⟩ := DataW.trod_int Tryd.underlying3 h1
  simp [Tryd.cellsInt] at e0 e1
  exact ⟨a, b, e0, e1, hx, wa, wb⟩
theorem o_draft {fuel : Nat} {u v z : Value} {x : DataW H × List MemPlace} (h : DataW.trod enc Tryd.prog w base spare held fuel 26 [u, v, z] = some x) : ∃ a b c, u = .int .i64 a ∧ v = .int .u8 b ∧ z = .int .u32 c ∧ x = (dDraft a b c, []) ∧ I64 a ∧ U8 b ∧ U32 c := by
  obtain ⟨y0, y1, y2, n, hx, _, h0, h1, h2⟩ := trod_struct3 Tryd.underlying26 h
  obtain ⟨a, e0, rfl, wa⟩ := DataW.trod_int Tryd.underlying3 h0
  obtain ⟨b, e1, rfl, wb⟩ := DataW.trod_int Tryd.underlying5 h1
  obtain ⟨c, e2, rfl, wc⟩ := DataW.trod_int Tryd.underlying24 h2
  simp [Tryd.cellsInt, Tryd.cellsU8, Tryd.cellsU32] at e0 e1 e2
  exact ⟨a, b, c, e0, e1, e2, hx, wa, wb, wc⟩

set_option maxRecDepth 100000 in
theorem m_two {a0 a1 b0 b1 d0 d1 d2 e0 e1 e2 : Int} (w_a0 : I64 a0) (w_a1 : I64 a1) (w_b0 : I64 b0) (w_b1 : I64 b1) (w_d0 : I64 d0) (w_d1 : U8 d1) (w_d2 : U32 d2) (w_e0 : I64 e0) (w_e1 : U8 e1) (w_e2 : U32 e2) : DataW.Trod enc Tryd.prog w base spare held 40 (.agg #[.int .i64 a0, .int .i64 a1, .int .i64 b0, .int .i64 b1, .int .i64 d0, .int .u8 d1, .int .u32 d2, .int .i64 e0, .int .u8 e1, .int .u32 e2]) (.agg [dSpan a0 a1, dSpan b0 b1, dDraft d0 d1 d2, dDraft e0 e1 e2]) [] :=
  ⟨4, trod_struct4_mk (y0 := (dSpan a0 a1, [])) (y1 := (dSpan b0 b1, [])) (y2 := (dDraft d0 d1 d2, [])) (y3 := (dDraft e0 e1 e2, [])) Tryd.underlying40 (by rw [Tryd.cellsTwo]; rfl)
    (by simp only [Tryd.cellsSpan]; exact m_span 1 w_a0 w_a1) (by simp only [Tryd.cellsSpan]; exact m_span 1 w_b0 w_b1) (by simp only [Tryd.cellsSpan, Tryd.cellsDraft]; exact m_draft 1 w_d0 w_d1 w_d2) (by simp only [Tryd.cellsSpan, Tryd.cellsDraft]; exact m_draft 1 w_e0 w_e1 w_e2)⟩
theorem list10 {l : List Value} (h : l.length = 10) : ∃ c0 c1 c2 c3 c4 c5 c6 c7 c8 c9, l = [c0, c1, c2, c3, c4, c5, c6, c7, c8, c9] := by
  match l, h with
  | [c0, c1, c2, c3, c4, c5, c6, c7, c8, c9], _ => exact ⟨c0, c1, c2, c3, c4, c5, c6, c7, c8, c9, rfl⟩
set_option maxRecDepth 100000 in
theorem o_two {r : Reach} {b0 : Nat} {v : Value} {d : DataW H} {p : List MemPlace} (hv : Value.okWide Tryd.prog w r b0 40 v) (h : DataW.Trod enc Tryd.prog w base spare held 40 v d p) :
    ∃ a0 a1 b0 b1 d0 d1 d2 e0 e1 e2, v = .agg #[.int .i64 a0, .int .i64 a1, .int .i64 b0, .int .i64 b1, .int .i64 d0, .int .u8 d1, .int .u32 d2, .int .i64 e0, .int .u8 e1, .int .u32 e2] ∧ d = .agg [dSpan a0 a1, dSpan b0 b1, dDraft d0 d1 d2, dDraft e0 e1 e2] ∧ p = [] ∧ I64 a0 ∧ I64 a1 ∧ I64 b0 ∧ I64 b1 ∧ I64 d0 ∧ U8 d1 ∧ U32 d2 ∧ I64 e0 ∧ U8 e1 ∧ U32 e2 := by
  obtain ⟨cs, rfl, hsz⟩ := okWide_struct Tryd.underlying40 hv
  obtain ⟨l⟩ := cs
  obtain ⟨c0, c1, c2, c3, c4, c5, c6, c7, c8, c9, rfl⟩ := list10 (show l.length = 10 by rw [Tryd.cellsTwo] at hsz; simpa using hsz)
  obtain ⟨fuel, hf⟩ := h
  obtain ⟨y0, y1, y2, y3, n, hx, _, h0, h1, h2, h3⟩ := trod_struct4 Tryd.underlying40 hf
  simp only [Tryd.cellsSpan, Tryd.cellsDraft] at h0 h1 h2 h3
  obtain ⟨a0, a1, rfl, rfl, rfl, wa0, wa1⟩ := o_span (by simpa [Value.cells] using h0)
  obtain ⟨b0, b1, rfl, rfl, rfl, wb0, wb1⟩ := o_span (by simpa [Value.cells] using h1)
  obtain ⟨d0, d1, d2, rfl, rfl, rfl, rfl, wd0, wd1, wd2⟩ := o_draft (by simpa [Value.cells] using h2)
  obtain ⟨e0, e1, e2, rfl, rfl, rfl, rfl, we0, we1, we2⟩ := o_draft (by simpa [Value.cells] using h3)
  simp only [Prod.mk.injEq] at hx
  exact ⟨a0, a1, b0, b1, d0, d1, d2, e0, e1, e2, rfl, hx.1, by simpa using hx.2, wa0, wa1, wb0, wb1, wd0, wd1, wd2, we0, we1, we2⟩
set_option maxRecDepth 100000 in
theorem os_span {r : Reach} {b0 : Nat} {v : Value} {d : DataW H} {p : List MemPlace} (hv : Value.okWide Tryd.prog w r b0 23 v) (h : DataW.Trod enc Tryd.prog w base spare held 23 v d p) :
    ∃ a b, v = .agg #[.int .i64 a, .int .i64 b] ∧ d = dSpan a b ∧ p = [] ∧ I64 a ∧ I64 b := by
  obtain ⟨cs, rfl, hsz⟩ := okWide_struct Tryd.underlying23 hv
  obtain ⟨u0, u1, rfl⟩ := array2 (hsz.trans Tryd.cellsSpan)
  obtain ⟨fuel, hf⟩ := h
  obtain ⟨a, b, rfl, rfl, hx, wa, wb⟩ := o_span (by simpa [Value.cells] using hf)
  simp only [Prod.mk.injEq] at hx
  exact ⟨a, b, rfl, hx.1, hx.2, wa, wb⟩
theorem ms_span {a b : Int} (ha : I64 a) (hb : I64 b) : DataW.Trod enc Tryd.prog w base spare held 23 (.agg #[.int .i64 a, .int .i64 b]) (dSpan a b) [] := ⟨2, m_span 0 ha hb⟩
set_option maxRecDepth 100000 in
theorem os_draft {r : Reach} {b0 : Nat} {v : Value} {d : DataW H} {p : List MemPlace} (hv : Value.okWide Tryd.prog w r b0 26 v) (h : DataW.Trod enc Tryd.prog w base spare held 26 v d p) :
    ∃ a b c, v = .agg #[.int .i64 a, .int .u8 b, .int .u32 c] ∧ d = dDraft a b c ∧ p = [] ∧ I64 a ∧ U8 b ∧ U32 c := by
  obtain ⟨cs, rfl, hsz⟩ := okWide_struct Tryd.underlying26 hv
  obtain ⟨u0, u1, u2, rfl⟩ := array3 (hsz.trans Tryd.cellsDraft)
  obtain ⟨fuel, hf⟩ := h
  obtain ⟨a, b, c, rfl, rfl, rfl, hx, wa, wb, wc⟩ := o_draft (by simpa [Value.cells] using hf)
  simp only [Prod.mk.injEq] at hx
  exact ⟨a, b, c, rfl, hx.1, hx.2, wa, wb, wc⟩
theorem ms_draft {a b c : Int} (ha : I64 a) (hb : U8 b) (hc : U32 c) : DataW.Trod enc Tryd.prog w base spare held 26 (.agg #[.int .i64 a, .int .u8 b, .int .u32 c]) (dDraft a b c) [] := ⟨2, m_draft 0 ha hb hc⟩
end

end Go.Proofs.YtpdaigenffecmaaDoor
