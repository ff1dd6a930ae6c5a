/-
  SpanRings: the code answers true for every input, and the input reads afterwards as it read before; fix.powers as the program's text lays it (the card ties it). No other condition.
-/
import Derived.Test.YtpdaigenffecmaaDoorRows
import Derived.Test.YtpdaigenffecmaaDoorTie
import Derived.Test.YtpdaigenffecmaaDoorCards
import Derived.SevenTiedAt
import Derived.Stop.Joined
import Derived.Test.YtpdaigenffecmaaDoorM08
import Derived.Test.YtpdaigenffecmaaDoorM34
set_option linter.all false
namespace Go.Proofs.YtpdaigenffecmaaDoor.lawSpanRings
open Go.ChangeShapes Go.WideShapes Go.ChangeAt Go.RowKit Go.Proofs.YtpdaigenffecmaaDoor

set_option maxRecDepth 100000 in
theorem lifted (os : Os) (started : os.Started) (H : Type) (enc : TypeId × Value → H) :
    ReturnsInHanded {} Tryd.checked os 8 .any (fun w args => (Rows.spanRingsSpec.pre enc Tryd.prog Tryd.f8 [] false w args ∧ laidMetH Tryd.prog laidP w) ∧ sizedMet enc Tryd.prog Tryd.f8 (OpenSpec.ofChange Rows.spanRingsSpec) false w args)
      (Rows.spanRingsSpec.post enc Tryd.prog Tryd.f8 false true false false) := by
  refine returnsInHanded_of_change_and (C := Tryd.checked) (X := fun w _ => laidMetH Tryd.prog laidP w) (fun _ _ _ hh h => h.of_heap hh) own started (by kernel_rfl) Tryd.func8
    (ChangeSpec.witness_shaped (enc := enc) (C := Tryd.checked) (os := os) (X := fun w _ => laidMetH Tryd.prog laidP w) false (World.doorLaid Tryd.prog 400 os) #[.agg #[.int .i64 0, .int .i64 0, .int .i64 0, .int .i64 0, .int .i64 0, .int .u8 0, .int .u32 0, .int .i64 0, .int .u8 0, .int .u32 0]] 8 rfl (World.shaped_of_RefB (by kernel_rfl) (by kernel_rfl)) (by kernel_rfl) (by kernel_rfl) (by kernel_rfl) (door_met os _)) ?_
  intro W base args ds gs before hval0 hW _ _ hL _
  have hval : ∀ (j : Nat) t v, Tryd.f8.params[j]? = some t → args[j]? = some v → Value.okWide Tryd.prog W .any base t v := hval0
  have hW' := hW
  obtain ⟨p, q, hA0, hV, rfl, hfz, hnd⟩ := hW
  have hA : DataW.TrodAll enc Tryd.prog W 0 (fun _ => true) true Tryd.f8.params.toList args.toList ds p := hA0
  rw [Tryd.params8] at hA hval
  obtain ⟨v0, d0, rfl, rfl, h0⟩ := trodAll_one hA
  obtain ⟨rfl, rfl⟩ := trodVars_none hV
  obtain ⟨a0, a1, b0, b1, d0, d1, d2, e0, e1, e2, rfl, rfl, rfl, w_a0, w_a1, w_b0, w_b1, w_d0, w_d1, w_d2, w_e0, w_e1, w_e2⟩ := o_two (hval 0 40 v0 rfl rfl) h0
  have hp := pow_of_laid hL
  clear hA0 hval0
  simp only [List.append_nil] at hW'
  refine (c_lawSpanRings a0 a1 b0 b1 d0 d1 d2 e0 e1 e2 w_d1.bounds w_d2.bounds w_e1.bounds w_e2.bounds W hp).mono fun e W' ⟨he, hb⟩ => ?_
  subst he
  exact ⟨_, rfl, _, _, _, [], [], [], hW', trodAll_mk1 (shut_bool Tryd.underlying4 _), trodAll_mk1 (m_two w_a0 w_a1 w_b0 w_b1 w_d0 w_d1 w_d2 w_e0 w_e1 w_e2), rfl, hb.frame _, fun h => by cases h⟩

theorem over : Rows.SpanRingsSaid :=
  OpenClaim.holds_of_wide 8 Tryd.f8 rfl rfl rfl rfl rfl rfl rfl ⟨rfl, rfl, rfl, rfl, rfl⟩ rfl rfl rfl rfl rfl (by kernel_rfl) Tryd.func8 (by kernel_rfl)
    (of_decide_eq_true (by kernel_rfl)) (by unfold Func.isWrapper; rw [if_neg (of_decide_eq_false (by kernel_rfl))]; exact ⟨rfl, rfl⟩)
    (fun os started H enc _ => lifted os started H enc)

/-- The statement: the tied card. -/
theorem proved : Rows.SpanRingsCardSaid :=
  Claim7.holds_tied_plain_at .later [] [.data] true (true, "976aad9f6f03122610a9785d53a1f55882d169dac09a6b6a73a9aa5ef3933005") false
    over (fun _ h => by cases h) (by kernel_rfl) (fun _ h => by cases h) spanRings_row_tie rfl ⟨rfl, rfl⟩ (by kernel_rfl) rfl
    (fun f fn hf hfn => by
      obtain rfl : f = 8 := Option.some.inj ((show Tryd.prog.funcNamed "monocle/monoclelaw02.SpanRings" = some 8 by kernel_rfl).symm.trans hf) |>.symm
      obtain rfl : fn = Tryd.f8 := (Option.some.inj (Tryd.func8.symm.trans hfn)).symm
      exact ⟨by kernel_rfl, fun j t ht => by
        rw [Tryd.params8] at ht
        have hm : t ∈ [40] := by simpa using Array.mem_of_getElem? ht
        have hall : ([40].all fun u => !Tryd.prog.wantsStandIn u) = true := by kernel_rfl
        exact (show Tryd.prog.wantsStandIn t = false by simpa using List.all_eq_true.1 hall t hm)⟩)
    (by kernel_rfl)
#print axioms proved
end Go.Proofs.YtpdaigenffecmaaDoor.lawSpanRings
