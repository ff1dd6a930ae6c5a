/-
  VecOrders: the code answers true for every input, and the input reads afterwards as it read before. No condition.
-/
import Derived.Test.YtpdaigenffecmaaRows
import Derived.Test.YtpdaigenffecmaaM39
set_option linter.all false
namespace Go.Proofs.Ytpdaigenffecmaa.lawVecOrders
open Go.ChangeShapes Go.WideShapes Go.ChangeAt Go.RowKit Go.Proofs.Ytpdaigenffecmaa

theorem own : ownKnob Try.prog.godebug = Option.none := by kernel_rfl

set_option maxRecDepth 100000 in
theorem lifted (os : Os) (started : os.Started) (H : Type) (enc : TypeId × Value → H) :
    ReturnsInHanded {} Try.checked os 4 .any (Rows.vecOrdersSpec.pre6 enc Try.prog Try.f4 Rows.vecOrdersRow.domain false) (Rows.vecOrdersSpec.post enc Try.prog Try.f4 false true false false) := by
  refine returnsInHanded_of_change (C := Try.checked) own started (by kernel_rfl) Try.func4
    (ChangeSpec.witness6 (enc := enc) (C := Try.checked) false ⟨#[], #[.agg #[.int .i64 0, .int .i64 0, .int .i64 0, .int .i64 0, .int .i64 0, .int .i64 0, .int .i64 0, .int .i64 0, .int .i64 0, .int .i64 0, .int .i64 0, .int .i64 0, .int .i64 0, .int .u8 0, .int .u32 0, .int .i64 0, .int .u8 0, .int .u32 0, .int .i64 0, .int .u8 0, .int .u32 0, .int .i64 0, .int .u8 0, .int .u32 0, .int .i64 0, .int .u8 0, .int .u32 0, .int .i64 0, .int .u8 0, .int .u32 0]], []⟩ 8 (by kernel_rfl) (by kernel_rfl) (by kernel_rfl) (by kernel_rfl)) ?_
  intro W base args ds gs before hval0 hW hcnd _
  have hval : ∀ (j : Nat) t v, Try.f4.params[j]? = some t → args[j]? = some v → Value.okWide Try.prog W .any base t v := hval0
  have hW' := hW
  obtain ⟨p, q, hA0, hV, rfl, hfz, hnd⟩ := hW
  have hA : DataW.TrodAll enc Try.prog W 0 (fun _ => true) true Try.f4.params.toList args.toList ds p := hA0
  rw [Try.params4] at hA hval
  obtain ⟨v0, d0, rfl, rfl, h0⟩ := trodAll_one hA
  obtain ⟨rfl, rfl⟩ := trodVars_none hV
  obtain ⟨x0, x1, x2, x3, x4, x5, y0, y1, y2, y3, y4, y5, d0, d1, d2, d3, d4, d5, d6, d7, d8, e0, e1, e2, e3, e4, e5, e6, e7, e8, rfl, rfl, rfl, w_x0, w_x1, w_x2, w_x3, w_x4, w_x5, w_y0, w_y1, w_y2, w_y3, w_y4, w_y5, w_d0, w_d1, w_d2, w_d3, w_d4, w_d5, w_d6, w_d7, w_d8, w_e0, w_e1, w_e2, w_e3, w_e4, w_e5, w_e6, w_e7, w_e8⟩ := o_two (hval 0 32 v0 rfl rfl) h0
  clear hA0 hval0
  simp only [List.append_nil] at hW'
  refine (c_lawVecOrders x0 x1 x2 x3 x4 x5 y0 y1 y2 y3 y4 y5 d0 d1 d2 d3 d4 d5 d6 d7 d8 e0 e1 e2 e3 e4 e5 e6 e7 e8 w_d1.bounds w_d2.bounds w_d4.bounds w_d5.bounds w_d7.bounds w_d8.bounds w_e1.bounds w_e2.bounds w_e4.bounds w_e5.bounds w_e7.bounds w_e8.bounds W).mono fun e W' ⟨he, hb⟩ => ?_
  subst he
  exact ⟨_, rfl, _, _, _, [], [], [], hW', trodAll_mk1 (shut_bool Try.underlying4 _), trodAll_mk1 (m_two w_x0 w_x1 w_x2 w_x3 w_x4 w_x5 w_y0 w_y1 w_y2 w_y3 w_y4 w_y5 w_d0 w_d1 w_d2 w_d3 w_d4 w_d5 w_d6 w_d7 w_d8 w_e0 w_e1 w_e2 w_e3 w_e4 w_e5 w_e6 w_e7 w_e8), rfl, hb.frame _, fun h => by cases h⟩

theorem over : Rows.vecOrdersRow.holds Try.pinned (OpenSpec.ofChange Rows.vecOrdersSpec) :=
  OpenClaim.holds_of_wide 4 Try.f4 rfl rfl rfl rfl rfl rfl rfl ⟨rfl, rfl, rfl, rfl, rfl⟩ rfl rfl rfl rfl rfl (by kernel_rfl) Try.func4 (by kernel_rfl)
    (of_decide_eq_true (by kernel_rfl)) (by unfold Func.isWrapper; rw [if_neg (of_decide_eq_false (by kernel_rfl))]; exact ⟨rfl, rfl⟩)
    (fun os started H enc _ => lifted os started H enc)

/-- The statement. -/
theorem proved : Rows.VecOrdersSaid := over
#print axioms proved
end Go.Proofs.Ytpdaigenffecmaa.lawVecOrders
