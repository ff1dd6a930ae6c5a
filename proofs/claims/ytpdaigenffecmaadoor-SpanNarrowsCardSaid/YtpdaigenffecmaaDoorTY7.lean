/-
  SpanNarrows: the code answers true for every input, and the input reads afterwards as it read before; fix.powers as the program's text lays it (the card ties it). No other condition.
-/
import Derived.Test.YtpdaigenffecmaaDoorRows
import Derived.Test.YtpdaigenffecmaaDoorTie
import Derived.Test.YtpdaigenffecmaaDoorCards
import Derived.SevenTiedAt
import Derived.Stop.Joined
import Derived.Test.YtpdaigenffecmaaDoorM08
import Derived.Test.YtpdaigenffecmaaDoorM34
import Derived.Test.YtpdaigenffecmaaDoorM35
set_option linter.all false
namespace Go.Proofs.YtpdaigenffecmaaDoor.lawSpanNarrows
open Go.ChangeShapes Go.WideShapes Go.ChangeAt Go.RowKit Go.Proofs.YtpdaigenffecmaaDoor

set_option maxRecDepth 100000 in
theorem lifted (os : Os) (started : os.Started) (H : Type) (enc : TypeId × Value → H) :
    ReturnsInHanded {} Tryd.checked os 7 .any (fun w args => (Rows.spanNarrowsSpec.pre enc Tryd.prog Tryd.f7 [] false w args ∧ laidMetH Tryd.prog laidP w) ∧ sizedMet enc Tryd.prog Tryd.f7 (OpenSpec.ofChange Rows.spanNarrowsSpec) false w args)
      (Rows.spanNarrowsSpec.post enc Tryd.prog Tryd.f7 false true false false) := by
  refine returnsInHanded_of_change_and (C := Tryd.checked) (X := fun w _ => laidMetH Tryd.prog laidP w) (fun _ _ _ hh h => h.of_heap hh) own started (by kernel_rfl) Tryd.func7
    (ChangeSpec.witness_shaped (enc := enc) (C := Tryd.checked) (os := os) (X := fun w _ => laidMetH Tryd.prog laidP w) false (World.doorLaid Tryd.prog 400 os) #[.agg #[.int .i64 0, .int .i64 0, .int .i64 0, .int .i64 0, .int .i64 0, .int .u8 0, .int .u32 0, .int .i64 0, .int .u8 0, .int .u32 0], .agg #[.int .u64 0, .int .u64 0], .agg #[.int .u64 0, .int .u64 0], .int .i64 0] 8 rfl (World.shaped_of_RefB (by kernel_rfl) (by kernel_rfl)) (by kernel_rfl) (by kernel_rfl) (by kernel_rfl) (door_met os _)) ?_
  intro W base args ds gs before hval0 hW _ _ hL _
  have hval : ∀ (j : Nat) t v, Tryd.f7.params[j]? = some t → args[j]? = some v → Value.okWide Tryd.prog W .any base t v := hval0
  have hW' := hW
  obtain ⟨p, q, hA0, hV, rfl, hfz, hnd⟩ := hW
  have hA : DataW.TrodAll enc Tryd.prog W 0 (fun _ => true) true Tryd.f7.params.toList args.toList ds p := hA0
  rw [Tryd.params7] at hA hval
  obtain ⟨v0, v1, v2, v3, d0, d1, d2, d3, p0, p1, p2, p3, rfl, rfl, rfl, h0, h1, h2, h3⟩ := trodAll_four hA
  obtain ⟨rfl, rfl⟩ := trodVars_none hV
  obtain ⟨n, rfl, rfl, rfl, w_n⟩ := open_int Tryd.underlying3 (hval 3 3 v3 rfl rfl) h3
  obtain ⟨r0, r1, rfl, rfl, rfl, w_r0, w_r1⟩ := os_places (hval 1 50 v1 rfl rfl) h1
  obtain ⟨s0, s1, rfl, rfl, rfl, w_s0, w_s1⟩ := os_places (hval 2 50 v2 rfl rfl) h2
  obtain ⟨a0, a1, b0, b1, d0, d1, d2, e0, e1, e2, rfl, rfl, rfl, w_a0, w_a1, w_b0, w_b1, w_d0, w_d1, w_d2, w_e0, w_e1, w_e2⟩ := o_two (hval 0 40 v0 rfl rfl) h0
  have hp := pow_of_laid hL
  clear hA0 hval0
  simp only [List.append_nil] at hW'
  refine (c_lawSpanNarrows a0 a1 b0 b1 d0 d1 d2 e0 e1 e2 r0 r1 s0 s1 n w_d1.bounds w_d2.bounds w_e1.bounds w_e2.bounds w_r0.bounds.1 w_r1.bounds.1 w_s0.bounds.1 w_s1.bounds.1 W hp).mono fun e W' ⟨he, hb⟩ => ?_
  subst he
  exact ⟨_, rfl, _, _, _, [], [], [], hW', trodAll_mk1 (shut_bool Tryd.underlying4 _), trodAll_mk4 (m_two w_a0 w_a1 w_b0 w_b1 w_d0 w_d1 w_d2 w_e0 w_e1 w_e2) (ms_places w_r0 w_r1) (ms_places w_s0 w_s1) (shut_int Tryd.underlying3 w_n), rfl, hb.frame _, fun h => by cases h⟩

theorem over : Rows.SpanNarrowsSaid :=
  OpenClaim.holds_of_wide 7 Tryd.f7 rfl rfl rfl rfl rfl rfl rfl ⟨rfl, rfl, rfl, rfl, rfl⟩ rfl rfl rfl rfl rfl (by kernel_rfl) Tryd.func7 (by kernel_rfl)
    (of_decide_eq_true (by kernel_rfl)) (by unfold Func.isWrapper; rw [if_neg (of_decide_eq_false (by kernel_rfl))]; exact ⟨rfl, rfl⟩)
    (fun os started H enc _ => lifted os started H enc)

/-- The statement: the tied card. -/
theorem proved : Rows.SpanNarrowsCardSaid :=
  Claim7.holds_tied_plain_at .later [] [.data] true (true, "976aad9f6f03122610a9785d53a1f55882d169dac09a6b6a73a9aa5ef3933005") false
    over (fun _ h => by cases h) (by kernel_rfl) (fun _ h => by cases h) spanNarrows_row_tie rfl ⟨rfl, rfl⟩ (by kernel_rfl) rfl
    (fun f fn hf hfn => by
      obtain rfl : f = 7 := Option.some.inj ((show Tryd.prog.funcNamed "monocle/monoclelaw02.SpanNarrows" = some 7 by kernel_rfl).symm.trans hf) |>.symm
      obtain rfl : fn = Tryd.f7 := (Option.some.inj (Tryd.func7.symm.trans hfn)).symm
      exact ⟨by kernel_rfl, fun j t ht => by
        rw [Tryd.params7] at ht
        have hm : t ∈ [40, 50, 50, 3] := by simpa using Array.mem_of_getElem? ht
        have hall : ([40, 50, 50, 3].all fun u => !Tryd.prog.wantsStandIn u) = true := by kernel_rfl
        exact (show Tryd.prog.wantsStandIn t = false by simpa using List.all_eq_true.1 hall t hm)⟩)
    (by kernel_rfl)
#print axioms proved
end Go.Proofs.YtpdaigenffecmaaDoor.lawSpanNarrows
