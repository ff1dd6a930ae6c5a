/-
  VecNarrows: the code answers true for every input, and the input reads afterwards as it read before. No condition.
-/
import Derived.Test.YtpdaigenffecmaaRows
import Derived.Test.YtpdaigenffecmaaM43
import Derived.Test.YtpdaigenffecmaaM48
set_option linter.all false
namespace Go.Proofs.Ytpdaigenffecmaa.lawVecNarrows
open Go.ChangeShapes Go.WideShapes Go.ChangeAt Go.RowKit Go.Proofs.Ytpdaigenffecmaa

theorem own : ownKnob Try.prog.godebug = Option.none := by kernel_rfl

set_option maxRecDepth 100000 in
theorem lifted (os : Os) (started : os.Started) (H : Type) (enc : TypeId × Value → H) :
    ReturnsInHanded {} Try.checked os 3 .any (Rows.vecNarrowsSpec.pre6 enc Try.prog Try.f3 Rows.vecNarrowsRow.domain false) (Rows.vecNarrowsSpec.post enc Try.prog Try.f3 false true false false) := by
  refine returnsInHanded_of_change (C := Try.checked) own started (by kernel_rfl) Try.func3
    (ChangeSpec.witness6 (enc := enc) (C := Try.checked) false ⟨#[], #[.agg #[.int .i64 0, .int .i64 0, .int .i64 0, .int .i64 0, .int .i64 0, .int .i64 0, .int .i64 0, .int .i64 0, .int .i64 0, .int .i64 0, .int .i64 0, .int .i64 0, .int .i64 0, .int .u8 0, .int .u32 0, .int .i64 0, .int .u8 0, .int .u32 0, .int .i64 0, .int .u8 0, .int .u32 0, .int .i64 0, .int .u8 0, .int .u32 0, .int .i64 0, .int .u8 0, .int .u32 0, .int .i64 0, .int .u8 0, .int .u32 0], .agg #[.int .u64 0, .int .u64 0, .int .u64 0, .int .u64 0, .int .u64 0, .int .u64 0], .agg #[.int .u64 0, .int .u64 0, .int .u64 0, .int .u64 0, .int .u64 0, .int .u64 0]], []⟩ 8 (by kernel_rfl) (by kernel_rfl) (by kernel_rfl) (by kernel_rfl)) ?_
  intro W base args ds gs before hval0 hW hcnd _
  have hval : ∀ (j : Nat) t v, Try.f3.params[j]? = some t → args[j]? = some v → Value.okWide Try.prog W .any base t v := hval0
  have hW' := hW
  obtain ⟨p, q, hA0, hV, rfl, hfz, hnd⟩ := hW
  have hA : DataW.TrodAll enc Try.prog W 0 (fun _ => true) true Try.f3.params.toList args.toList ds p := hA0
  rw [Try.params3] at hA hval
  obtain ⟨v0, v1, v2, d0, d1, d2, p0, p1, p2, rfl, rfl, rfl, h0, h1, h2⟩ := trodAll_three hA
  obtain ⟨rfl, rfl⟩ := trodVars_none hV
  obtain ⟨r0, r1, r2, r3, r4, r5, rfl, rfl, rfl, w_r0, w_r1, w_r2, w_r3, w_r4, w_r5⟩ := os_parts (hval 1 36 v1 rfl rfl) h1
  obtain ⟨s0, s1, s2, s3, s4, s5, rfl, rfl, rfl, w_s0, w_s1, w_s2, w_s3, w_s4, w_s5⟩ := os_parts (hval 2 36 v2 rfl rfl) h2
  obtain ⟨x0, x1, x2, x3, x4, x5, y0, y1, y2, y3, y4, y5, d0, d1, d2, d3, d4, d5, d6, d7, d8, e0, e1, e2, e3, e4, e5, e6, e7, e8, rfl, rfl, rfl, w_x0, w_x1, w_x2, w_x3, w_x4, w_x5, w_y0, w_y1, w_y2, w_y3, w_y4, w_y5, w_d0, w_d1, w_d2, w_d3, w_d4, w_d5, w_d6, w_d7, w_d8, w_e0, w_e1, w_e2, w_e3, w_e4, w_e5, w_e6, w_e7, w_e8⟩ := o_two (hval 0 32 v0 rfl rfl) h0
  clear hA0 hval0
  simp only [List.append_nil] at hW'
  refine (c_lawVecNarrows x0 x1 x2 x3 x4 x5 y0 y1 y2 y3 y4 y5 d0 d1 d2 d3 d4 d5 d6 d7 d8 e0 e1 e2 e3 e4 e5 e6 e7 e8 r0 r1 r2 r3 r4 r5 s0 s1 s2 s3 s4 s5 w_d1.bounds w_d2.bounds w_d4.bounds w_d5.bounds w_d7.bounds w_d8.bounds w_e1.bounds w_e2.bounds w_e4.bounds w_e5.bounds w_e7.bounds w_e8.bounds w_r0.bounds.1 w_r1.bounds.1 w_r2.bounds.1 w_r3.bounds.1 w_r4.bounds.1 w_r5.bounds.1 w_s0.bounds.1 w_s1.bounds.1 w_s2.bounds.1 w_s3.bounds.1 w_s4.bounds.1 w_s5.bounds.1 W).mono fun e W' ⟨he, hb⟩ => ?_
  subst he
  exact ⟨_, rfl, _, _, _, [], [], [], hW', trodAll_mk1 (shut_bool Try.underlying4 _), trodAll_mk3 (m_two w_x0 w_x1 w_x2 w_x3 w_x4 w_x5 w_y0 w_y1 w_y2 w_y3 w_y4 w_y5 w_d0 w_d1 w_d2 w_d3 w_d4 w_d5 w_d6 w_d7 w_d8 w_e0 w_e1 w_e2 w_e3 w_e4 w_e5 w_e6 w_e7 w_e8) (ms_parts w_r0 w_r1 w_r2 w_r3 w_r4 w_r5) (ms_parts w_s0 w_s1 w_s2 w_s3 w_s4 w_s5), rfl, hb.frame _, fun h => by cases h⟩

theorem over : Rows.vecNarrowsRow.holds Try.pinned (OpenSpec.ofChange Rows.vecNarrowsSpec) :=
  OpenClaim.holds_of_wide 3 Try.f3 rfl rfl rfl rfl rfl rfl rfl ⟨rfl, rfl, rfl, rfl, rfl⟩ rfl rfl rfl rfl rfl (by kernel_rfl) Try.func3 (by kernel_rfl)
    (of_decide_eq_true (by kernel_rfl)) (by unfold Func.isWrapper; rw [if_neg (of_decide_eq_false (by kernel_rfl))]; exact ⟨rfl, rfl⟩)
    (fun os started H enc _ => lifted os started H enc)

/-- The statement. -/
theorem proved : Rows.VecNarrowsSaid := over
#print axioms proved
end Go.Proofs.Ytpdaigenffecmaa.lawVecNarrows
