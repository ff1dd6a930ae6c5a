/-
  Plain: vectors within vectors give results within the former ones.
-/
import Derived.Test.YtpdaigenffecmaaM31
import Derived.Test.YtpdaigenffecmaaM34
set_option linter.all false
namespace Go.Proofs.Ytpdaigenffecmaa
open Go.RowKit Go.Shelf

theorem fst2_z {a b : Int} (h : fst2 a b = 0) : a = 0 ∧ b = 0 := by
  unfold fst2 at h
  by_cases h1 : a = 0
  · rw [if_pos h1] at h; exact ⟨h1, h⟩
  · rw [if_neg h1] at h; exact absurd h h1
theorem errTo_z {e a b c : Int} (h : errTo e a b c 3 = 0) : e = 0 ∧ a = 0 ∧ b = 0 ∧ c = 0 := by
  have h : fst2 (fst2 (fst2 e a) b) c = 0 := h
  obtain ⟨h1, h2⟩ := fst2_z h
  obtain ⟨h3, h4⟩ := fst2_z h1
  obtain ⟨h5, h6⟩ := fst2_z h3
  exact ⟨h5, h6, h4, h2⟩
theorem errTo_0 {e a b c : Int} (he : e = 0) (ha : a = 0) (hb : b = 0) (hc : c = 0) : errTo e a b c 3 = 0 := by
  subst he ha hb hc; rfl
/-- r has no error and lies within s. -/
def In3 (r s : Int × Int × Int) : Prop := r.2.2 = 0 ∧ s.1 ≤ r.1 ∧ r.2.1 ≤ s.2.1
def Nar (r s : Int × Int × Int) : Prop := s.2.2 = 0 → In3 r s
theorem In3.wi {r s : Int × Int × Int} (h : In3 r s) : Wi (ivl r) (ivl s) := ⟨h.2.1, h.2.2⟩

theorem vNar {e f : Int} {a b c a' b' c' : Int × Int × Int} (h : f = 0 → e = 0 ∧ In3 a a' ∧ In3 b b' ∧ In3 c c') :
    ∃ r0 r1 r2 r3 r4 r5 s0 s1 s2 s3 s4 s5, vRes e a b c = .tuple #[.agg #[.int .i64 r0, .int .i64 r1, .int .i64 r2, .int .i64 r3, .int .i64 r4, .int .i64 r5], .int .i64 e] ∧
      vRes f a' b' c' = .tuple #[.agg #[.int .i64 s0, .int .i64 s1, .int .i64 s2, .int .i64 s3, .int .i64 s4, .int .i64 s5], .int .i64 f] ∧
      (f = 0 → e = 0 ∧ (s0 ≤ r0 ∧ r1 ≤ s1) ∧ (s2 ≤ r2 ∧ r3 ≤ s3) ∧ (s4 ≤ r4 ∧ r5 ≤ s5)) := by
  by_cases hf : f = 0
  · obtain ⟨he, ha, hb, hc⟩ := h hf
    refine ⟨a.1, a.2.1, b.1, b.2.1, c.1, c.2.1, a'.1, a'.2.1, b'.1, b'.2.1, c'.1, c'.2.1, ?_, ?_, fun _ => ⟨he, ha.2, hb.2, hc.2⟩⟩
    · unfold vRes; rw [if_pos he, he]
    · unfold vRes; rw [if_pos hf, hf]
  · obtain ⟨r0, r1, r2, r3, r4, r5, hr⟩ := vRes_form e a b c
    obtain ⟨s0, s1, s2, s3, s4, s5, hs⟩ := vRes_form f a' b' c'
    exact ⟨r0, r1, r2, r3, r4, r5, s0, s1, s2, s3, s4, s5, hr, hs, fun h => absurd h hf⟩
theorem iNar {e f : Int} {a a' : Int × Int × Int} (h : f = 0 → e = 0 ∧ In3 a a') :
    ∃ r0 r1 s0 s1, iRes e a = .tuple #[.agg #[.int .i64 r0, .int .i64 r1], .int .i64 e] ∧ iRes f a' = .tuple #[.agg #[.int .i64 s0, .int .i64 s1], .int .i64 f] ∧
      (f = 0 → e = 0 ∧ (s0 ≤ r0 ∧ r1 ≤ s1)) := by
  by_cases hf : f = 0
  · obtain ⟨he, ha⟩ := h hf
    refine ⟨a.1, a.2.1, a'.1, a'.2.1, ?_, ?_, fun _ => ⟨he, ha.2⟩⟩
    · unfold iRes; rw [if_pos he, he]
    · unfold iRes; rw [if_pos hf, hf]
  · obtain ⟨r0, r1, hr⟩ := iRes_form e a
    obtain ⟨s0, s1, hs⟩ := iRes_form f a'
    exact ⟨r0, r1, s0, s1, hr, hs, fun h => absurd h hf⟩

/-- Three results of their own. -/
theorem nar_three {p q r p' q' r' : Int × Int × Int} (hp : Nar p p') (hq : Nar q q') (hr : Nar r r') (h : errTo 0 p'.2.2 q'.2.2 r'.2.2 3 = 0) :
    errTo 0 p.2.2 q.2.2 r.2.2 3 = 0 ∧ In3 p p' ∧ In3 q q' ∧ In3 r r' := by
  obtain ⟨_, h1, h2, h3⟩ := errTo_z h
  have a := hp h1; have b := hq h2; have c := hr h3
  exact ⟨errTo_0 rfl a.1 b.1 c.1, a, b, c⟩
theorem nar_add {p q p' q' : Int × Int × Int} (gp : GoodR p) (gq : GoodR q) (gp' : GoodR p') (gq' : GoodR q') (hp : In3 p p') (hq : In3 q q') : Nar (spAdd (ivl p) (ivl q)) (spAdd (ivl p') (ivl q')) :=
  fun h => spAdd_narrow gp'.val gq'.val gp.val gq.val hp.wi hq.wi h
theorem nar_sub {p q p' q' : Int × Int × Int} (gp : GoodR p) (gq : GoodR q) (gp' : GoodR p') (gq' : GoodR q') (hp : In3 p p') (hq : In3 q q') : Nar (spSub (ivl p) (ivl q)) (spSub (ivl p') (ivl q')) :=
  fun h => spSub_narrow gp'.val gq'.val gp.val gq.val hp.wi hq.wi h
theorem nar_cross {p0 p1 p2 q0 q1 q2 p0' p1' p2' q0' q1' q2' : Int × Int × Int} (a0 : GoodR p0) (a1 : GoodR p1) (a2 : GoodR p2) (b0 : GoodR q0) (b1 : GoodR q1) (b2 : GoodR q2)
    (a0' : GoodR p0') (a1' : GoodR p1') (a2' : GoodR p2') (b0' : GoodR q0') (b1' : GoodR q1') (b2' : GoodR q2')
    (hp0 : Nar p0 p0') (hp1 : Nar p1 p1') (hp2 : Nar p2 p2') (hq0 : Nar q0 q0') (hq1 : Nar q1 q1') (hq2 : Nar q2 q2')
    (h : errTo (errTo (errTo 0 p0'.2.2 p1'.2.2 p2'.2.2 3) q0'.2.2 q1'.2.2 q2'.2.2 3) (spSub (ivl p0') (ivl q0')).2.2 (spSub (ivl p1') (ivl q1')).2.2 (spSub (ivl p2') (ivl q2')).2.2 3 = 0) :
    errTo (errTo (errTo 0 p0.2.2 p1.2.2 p2.2.2 3) q0.2.2 q1.2.2 q2.2.2 3) (spSub (ivl p0) (ivl q0)).2.2 (spSub (ivl p1) (ivl q1)).2.2 (spSub (ivl p2) (ivl q2)).2.2 3 = 0 ∧
      In3 (spSub (ivl p0) (ivl q0)) (spSub (ivl p0') (ivl q0')) ∧ In3 (spSub (ivl p1) (ivl q1)) (spSub (ivl p1') (ivl q1')) ∧ In3 (spSub (ivl p2) (ivl q2)) (spSub (ivl p2') (ivl q2')) := by
  obtain ⟨h1, s0, s1, s2⟩ := errTo_z h
  obtain ⟨h2, z0, z1, z2⟩ := errTo_z h1
  obtain ⟨_, y0, y1, y2⟩ := errTo_z h2
  have c0 := nar_sub a0 b0 a0' b0' (hp0 y0) (hq0 z0) s0
  have c1 := nar_sub a1 b1 a1' b1' (hp1 y1) (hq1 z1) s1
  have c2 := nar_sub a2 b2 a2' b2' (hp2 y2) (hq2 z2) s2
  exact ⟨errTo_0 (errTo_0 (errTo_0 rfl (hp0 y0).1 (hp1 y1).1 (hp2 y2).1) (hq0 z0).1 (hq1 z1).1 (hq2 z2).1) c0.1 c1.1 c2.1, c0, c1, c2⟩
theorem nar_sum {a b c a' b' c' : Int × Int × Int} (ga : GoodR a) (gb : GoodR b) (gc : GoodR c) (ga' : GoodR a') (gb' : GoodR b') (gc' : GoodR c') (ha : Nar a a') (hb : Nar b b') (hc : Nar c c') (h : sumE 0 a' b' c' = 0) :
    sumE 0 a b c = 0 ∧ In3 (sum3 a b c) (sum3 a' b' c') := by
  obtain ⟨h1, h2⟩ := fst2_z h
  obtain ⟨h3, h4⟩ := fst2_z h1
  obtain ⟨_, y0, y1, y2⟩ := errTo_z h3
  have s := nar_add ga gb ga' gb' (ha y0) (hb y1) h4
  have t := nar_add (spAdd_good ga.val gb.val) gc (spAdd_good ga'.val gb'.val) gc' s (hc y2) h2
  refine ⟨?_, t⟩
  unfold sumE
  rw [errTo_0 rfl (ha y0).1 (hb y1).1 (hc y2).1, fst2_zero, s.1, fst2_zero]; exact t.1
theorem sum3_val {a b c : Int × Int × Int} (ga : GoodR a) (gb : GoodR b) (gc : GoodR c) : spChk (ivl (sum3 a b c)) = 0 :=
  (spAdd_good (spAdd_good ga.val gb.val).val gc.val).val
theorem nar_norm {a b c a' b' c' : Int × Int × Int} (ga : GoodR a) (gb : GoodR b) (gc : GoodR c) (ga' : GoodR a') (gb' : GoodR b') (gc' : GoodR c') (ha : Nar a a') (hb : Nar b b') (hc : Nar c c') (h : normE 0 a' b' c' = 0) :
    normE 0 a b c = 0 ∧ In3 (norm3 a b c) (norm3 a' b' c') := by
  obtain ⟨h1, h2⟩ := fst2_z h
  obtain ⟨s1, s2⟩ := nar_sum ga gb gc ga' gb' gc' ha hb hc h1
  have t := spSqrt_narrow (sum3_val ga' gb' gc') (sum3_val ga gb gc) s2.wi h2
  refine ⟨?_, t⟩
  unfold normE
  rw [s1, fst2_zero]; exact t.1
theorem rt_false_true (a : Int) : rt a false ≤ rt a true := by
  unfold rt
  have : rtN (a.toNat * 4294967296) false ≤ rtN (a.toNat * 4294967296) true := by
    generalize a.toNat * 4294967296 = n
    unfold rtN; simp only [Bool.false_eq_true, false_and, if_false, true_and]; split <;> omega
  omega
theorem spSqrt_val {a : Int × Int} (ha : spChk a = 0) : spChk (ivl (spSqrt a)) = 0 := by
  obtain ⟨a1, a2, a3⟩ := spChk_ok ha
  rcases Int.lt_or_le a.1 0 with h | h
  · rw [spSqrt_arg a ha h]; exact spChk_mk (by decide) (by decide) (by decide)
  · rw [spSqrt_eq ha h]
    have h1 := rt_mono false a2
    have h2 := rt_false_true a.2
    have h3 := rt_small true a3
    have h4 := (rt_lo h).2
    exact spChk_mk (by simp only [ivl]; omega) (by simp only [ivl]; omega) (by simp only [ivl]; omega)
theorem nar_unit {x0 x1 x2 c0 c1 c2 : Int × Int} (hx0 : spChk x0 = 0) (hx1 : spChk x1 = 0) (hx2 : spChk x2 = 0) (hc0 : spChk c0 = 0) (hc1 : spChk c1 = 0) (hc2 : spChk c2 = 0) (w0 : Wi c0 x0) (w1 : Wi c1 x1) (w2 : Wi c2 x2)
    {a b c a' b' c' : Int × Int × Int} (ga : GoodR a) (gb : GoodR b) (gc : GoodR c) (ga' : GoodR a') (gb' : GoodR b') (gc' : GoodR c') (ha : Nar a a') (hb : Nar b b') (hc : Nar c c')
    (h : errTo (normE 0 a' b' c') (spDiv x0 (ivl (norm3 a' b' c'))).2.2 (spDiv x1 (ivl (norm3 a' b' c'))).2.2 (spDiv x2 (ivl (norm3 a' b' c'))).2.2 3 = 0) :
    errTo (normE 0 a b c) (spDiv c0 (ivl (norm3 a b c))).2.2 (spDiv c1 (ivl (norm3 a b c))).2.2 (spDiv c2 (ivl (norm3 a b c))).2.2 3 = 0 ∧
      In3 (spDiv c0 (ivl (norm3 a b c))) (spDiv x0 (ivl (norm3 a' b' c'))) ∧ In3 (spDiv c1 (ivl (norm3 a b c))) (spDiv x1 (ivl (norm3 a' b' c'))) ∧ In3 (spDiv c2 (ivl (norm3 a b c))) (spDiv x2 (ivl (norm3 a' b' c'))) := by
  obtain ⟨h0, d0, d1, d2⟩ := errTo_z h
  obtain ⟨n1, n2⟩ := nar_norm ga gb gc ga' gb' gc' ha hb hc h0
  have v' : spChk (ivl (norm3 a' b' c')) = 0 := spSqrt_val (sum3_val ga' gb' gc')
  have v : spChk (ivl (norm3 a b c)) = 0 := spSqrt_val (sum3_val ga gb gc)
  have t0 := spDiv_narrow hx0 v' hc0 v w0 n2.wi d0
  have t1 := spDiv_narrow hx1 v' hc1 v w1 n2.wi d1
  have t2 := spDiv_narrow hx2 v' hc2 v w2 n2.wi d2
  exact ⟨errTo_0 n1 t0.1 t1.1 t2.1, t0, t1, t2⟩
end Go.Proofs.Ytpdaigenffecmaa
