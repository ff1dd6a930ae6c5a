/-
  VecSums: the code answers true for every input, and the input reads afterwards as it read before. No condition.
-/
import Derived.Test.YtpdaigenffecmaaGreatRows
import Derived.Test.YtpdaigenffecmaaGreatS06
import Derived.Test.YtpdaigenffecmaaGreatS07
set_option linter.all false
namespace Go.Proofs.YtpdaigenffecmaaGreat.lawVecSums
open Go.ChangeShapes Go.WideShapes Go.ChangeAt Go.RowKit Go.Proofs.YtpdaigenffecmaaGreat

theorem own : ownKnob Tryz.prog.godebug = Option.none := by kernel_rfl

set_option maxRecDepth 100000 in
theorem lifted (os : Os) (started : os.Started) (H : Type) (enc : TypeId × Value → H) :
    ReturnsInHanded {} Tryz.checked os 3 .any (Rows.vecSumsSpec.pre6 enc Tryz.prog Tryz.f3 Rows.vecSumsRow.domain false) (Rows.vecSumsSpec.post enc Tryz.prog Tryz.f3 false true false false) := by
  refine returnsInHanded_of_change (C := Tryz.checked) own started (by kernel_rfl) Tryz.func3
    (ChangeSpec.witness6 (enc := enc) (C := Tryz.checked) false ⟨#[], #[.agg #[.int .i64 0, .int .i64 0, .int .i64 0, .int .i64 0, .int .i64 0, .int .i64 0, .int .i64 0, .int .i64 0, .int .i64 0, .int .i64 0, .int .i64 0, .int .i64 0, .int .i64 0, .int .u8 0, .int .u32 0, .int .i64 0, .int .u8 0, .int .u32 0, .int .i64 0, .int .u8 0, .int .u32 0, .int .i64 0, .int .u8 0, .int .u32 0, .int .i64 0, .int .u8 0, .int .u32 0, .int .i64 0, .int .u8 0, .int .u32 0], .agg #[.int .i64 0, .int .i64 0], .agg #[.int .i64 0, .int .u8 0, .int .u32 0]], []⟩ 8 (by kernel_rfl) (by kernel_rfl) (by kernel_rfl) (by kernel_rfl)) ?_
  intro W base args ds gs before hval0 hW hcnd _
  have hval : ∀ (j : Nat) t v, Tryz.f3.params[j]? = some t → args[j]? = some v → Value.okWide Tryz.prog W .any base t v := hval0
  have hW' := hW
  obtain ⟨p, q, hA0, hV, rfl, hfz, hnd⟩ := hW
  have hA : DataW.TrodAll enc Tryz.prog W 0 (fun _ => true) true Tryz.f3.params.toList args.toList ds p := hA0
  rw [Tryz.params3] at hA hval
  obtain ⟨v0, vs0, u0, us0, p0, q0, hargs, rfl, rfl, h0, r0⟩ := trodAll_cons hA
  obtain ⟨v1, vs1, u1, us1, p1, q1, rfl, rfl, rfl, h1, r1⟩ := trodAll_cons r0
  obtain ⟨v2, vs2, u2, us2, p2, q2, rfl, rfl, rfl, h2, r2⟩ := trodAll_cons r1
  obtain ⟨rfl, rfl, rfl⟩ := trodAll_nil r2
  obtain rfl : args = #[v0, v1, v2] := by cases args; simp_all
  obtain ⟨rfl, rfl⟩ := trodVars_none hV
  obtain ⟨x0, x1, x2, x3, x4, x5, y0, y1, y2, y3, y4, y5, d0, d1, d2, d3, d4, d5, d6, d7, d8, e0, e1, e2, e3, e4, e5, e6, e7, e8, rfl, rfl, rfl, w_x0, w_x1, w_x2, w_x3, w_x4, w_x5, w_y0, w_y1, w_y2, w_y3, w_y4, w_y5, w_d0, w_d1, w_d2, w_d3, w_d4, w_d5, w_d6, w_d7, w_d8, w_e0, w_e1, w_e2, w_e3, w_e4, w_e5, w_e6, w_e7, w_e8⟩ := o_two (hval 0 32 v0 rfl rfl) h0
  obtain ⟨s0, s1, rfl, rfl, rfl, w_s0, w_s1⟩ := os_span (hval 1 23 v1 rfl rfl) h1
  obtain ⟨g0, g1, g2, rfl, rfl, rfl, w_g0, w_g1, w_g2⟩ := os_draft (hval 2 28 v2 rfl rfl) h2
  clear hA0 hval0
  simp only [List.append_nil] at hW'
  refine (c_lawVecSums x0 x1 x2 x3 x4 x5 y0 y1 y2 y3 y4 y5 d0 d1 d2 d3 d4 d5 d6 d7 d8 e0 e1 e2 e3 e4 e5 e6 e7 e8 s0 s1 g0 g1 g2 w_d1.bounds w_d2.bounds w_d4.bounds w_d5.bounds w_d7.bounds w_d8.bounds w_e1.bounds w_e2.bounds w_e4.bounds w_e5.bounds w_e7.bounds w_e8.bounds w_g1.bounds w_g2.bounds W).mono fun e W' ⟨he, hb⟩ => ?_
  subst he
  exact ⟨_, rfl, _, _, _, [], [], [], hW', trodAll_cons_mk (shut_bool Tryz.underlying4 _) trodAll_mk0, trodAll_cons_mk (m_two w_x0 w_x1 w_x2 w_x3 w_x4 w_x5 w_y0 w_y1 w_y2 w_y3 w_y4 w_y5 w_d0 w_d1 w_d2 w_d3 w_d4 w_d5 w_d6 w_d7 w_d8 w_e0 w_e1 w_e2 w_e3 w_e4 w_e5 w_e6 w_e7 w_e8) (trodAll_cons_mk (ms_span w_s0 w_s1) (trodAll_cons_mk (ms_draft w_g0 w_g1 w_g2) trodAll_mk0)), rfl, hb.frame _, fun h => by cases h⟩

theorem over : Rows.vecSumsRow.holds Tryz.pinned (OpenSpec.ofChange Rows.vecSumsSpec) :=
  OpenClaim.holds_of_wide 3 Tryz.f3 rfl rfl rfl rfl rfl rfl rfl ⟨rfl, rfl, rfl, rfl, rfl⟩ rfl rfl rfl rfl rfl (by kernel_rfl) Tryz.func3 (by kernel_rfl)
    (of_decide_eq_true (by kernel_rfl)) (by unfold Func.isWrapper; rw [if_neg (of_decide_eq_false (by kernel_rfl))]; exact ⟨rfl, rfl⟩)
    (fun os started H enc _ => lifted os started H enc)

/-- The statement. -/
theorem proved : Rows.VecSumsSaid := over
#print axioms proved
end Go.Proofs.YtpdaigenffecmaaGreat.lawVecSums
