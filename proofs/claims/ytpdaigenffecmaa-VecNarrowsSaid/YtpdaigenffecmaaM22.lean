/-
  Package vec: all, of two vectors, the zero vector among them; all of two vectors in one contract. Package vec: all of two vectors in one contract.
-/
import Derived.Test.YtpdaigenffecmaaM21
set_option linter.all false
namespace Go.Proofs.Ytpdaigenffecmaa
open Go.RowKit Go.Shelf

set_option maxHeartbeats 2000000 in
theorem c_all2zn (pb c : Nat) (y0 y1 y2 y3 y4 y5 : Int) (w : World) (hpb : pb < w.heap.size) (hx : Hid (Tab12 w pb (six 0 0 0 0 0 0) (six y0 y1 y2 y3 y4 y5))) (hne : ¬ (y0 = 0 ∧ y1 = 0 ∧ y2 = 0 ∧ y3 = 0 ∧ y4 = 0 ∧ y5 = 0)) :
    Calls Try.prog 62 #[.slice (some ⟨pb, 0, none⟩) 2 c] w fun e w' => e = .returned (.pointer (some ⟨w.heap.size, 0, none⟩)) ∧ Below w.heap.size w w' ∧ w.heap.size < w'.heap.size ∧ w'.cell? ⟨w.heap.size, 0, none⟩ = some (.int .i64 (chk3 (chk3 0 0 0 0 0 0 0 3) y0 y1 y2 y3 y4 y5 3)) ∧ w'.frozen? ⟨w.heap.size, 0, none⟩ = false := by
  have a0 : w.cell? ⟨pb, 0, none⟩ = some (.int .i64 0) := by have := hx.out.1 0 (by omega); simpa [six] using this
  have a1 : w.cell? ⟨pb, 1, none⟩ = some (.int .i64 0) := by have := hx.out.1 1 (by omega); simpa [six] using this
  have a2 : w.cell? ⟨pb, 2, none⟩ = some (.int .i64 0) := by have := hx.out.1 2 (by omega); simpa [six] using this
  have a3 : w.cell? ⟨pb, 3, none⟩ = some (.int .i64 0) := by have := hx.out.1 3 (by omega); simpa [six] using this
  have a4 : w.cell? ⟨pb, 4, none⟩ = some (.int .i64 0) := by have := hx.out.1 4 (by omega); simpa [six] using this
  have a5 : w.cell? ⟨pb, 5, none⟩ = some (.int .i64 0) := by have := hx.out.1 5 (by omega); simpa [six] using this
  have a6 : w.cell? ⟨pb, 6, none⟩ = some (.int .i64 y0) := by have := hx.out.2 0 (by omega); simpa [six] using this
  have a7 : w.cell? ⟨pb, 7, none⟩ = some (.int .i64 y1) := by have := hx.out.2 1 (by omega); simpa [six] using this
  have a8 : w.cell? ⟨pb, 8, none⟩ = some (.int .i64 y2) := by have := hx.out.2 2 (by omega); simpa [six] using this
  have a9 : w.cell? ⟨pb, 9, none⟩ = some (.int .i64 y3) := by have := hx.out.2 3 (by omega); simpa [six] using this
  have a10 : w.cell? ⟨pb, 10, none⟩ = some (.int .i64 y4) := by have := hx.out.2 4 (by omega); simpa [six] using this
  have a11 : w.cell? ⟨pb, 11, none⟩ = some (.int .i64 y5) := by have := hx.out.2 5 (by omega); simpa [six] using this
  have n0 : ¬ pb = w.heap.size := by omega
  have l0 : pb < w.heap.size + 1 := by omega
  have l9 : pb < w.heap.size + 1 + 1 := by omega
  have n9 : ¬ pb = w.heap.size + 1 := by omega
  have hEz : ∀ w : World, (binOp .eql 25 (.agg #[.int .i64 0, .int .i64 0, .int .i64 0, .int .i64 0, .int .i64 0, .int .i64 0]) (.agg #[.int .i64 0, .int .i64 0, .int .i64 0, .int .i64 0, .int .i64 0, .int .i64 0])).run Try.prog w = .ok (.bool true) w := fun w => by rw [eql_vec]; rfl
  have hq : (((y0 == 0) && (y1 == 0)) && (((y2 == 0) && (y3 == 0)) && ((y4 == 0) && (y5 == 0)))) = false := by
    rw [Bool.eq_false_iff]; intro h; simp at h; omega
  have hE : ∀ w : World, (binOp .eql 25 (.agg #[.int .i64 y0, .int .i64 y1, .int .i64 y2, .int .i64 y3, .int .i64 y4, .int .i64 y5]) (.agg #[.int .i64 0, .int .i64 0, .int .i64 0, .int .i64 0, .int .i64 0, .int .i64 0])).run Try.prog w = .ok (.bool false) w := fun w => by rw [eql_vec, hq]
  clear hq hne
  have HC := Lib.hid (chk3_zero 0)
  go_enter Try.func62, Try.ntmps62
  go_wp2_with (fail)
  refine wp_rounds 3 ?_
  refine rounds_step _ ?_
  intro _ _
  go_wp2_with (fail)
  refine rounds_step _ ?_
  intro _ _
  go_wp2_with (fail)
  go_loopw [20] (fun iv wx => ∃ k : Nat, k ≤ 3 ∧ iv = .int .i64 (k : Int) ∧ wx.cell? ⟨w.heap.size, 0, none⟩ = some (.int .i64 (errTo 0 (spChk (y0, y1)) (spChk (y2, y3)) (spChk (y4, y5)) k)) ∧ wx.frozen? ⟨w.heap.size, 0, none⟩ = false ∧ Hid (Below w.heap.size w wx) ∧ w.heap.size + 1 < wx.heap.size) (fun iv _ => 3 - (intOf iv).toNat)
  case atStart => exact ⟨0, by omega, rfl, by simp [go_sem, errTo], by simp [go_sem], (by unfold Hid; (repeat' (first | (with_reducible exact Below.refl _ _) | assumption | (with_reducible refine Below.setCell ?_ ?_ _) | (with_reducible refine Below.alloc ?_ ?_ _) | (with_reducible refine Below.drew ?_) | (with_reducible refine below_drewN ?_ _) | (with_reducible refine Below.trans ?_ (Below.mono (by assumption) ?_)) | omega | (simp; done) | (simp; omega) | (simp [World.setCell]; omega)))), by (simp <;> omega)⟩
  case round =>
    obtain ⟨k, hk, rfl, hc, hf, hbe, hsz⟩ := hrel
    rcases (by omega : k = 0 ∨ k = 1 ∨ k = 2 ∨ k = 3) with rfl | rfl | rfl | rfl
    · have hpw : w.heap.size < wr.heap.size := by omega
      have d1 : ¬ w.heap.size = wr.heap.size := by omega
      have d2 : ¬ wr.heap.size = w.heap.size := by omega
      have l1 : w.heap.size < wr.heap.size + 1 := by omega
      have EK : errTo 0 (spChk (y0, y1)) (spChk (y2, y3)) (spChk (y4, y5)) 1 = fst2 (errTo 0 (spChk (y0, y1)) (spChk (y2, y3)) (spChk (y4, y5)) 0) (spChk (y0, y1)) := by simp [errTo]
      have EK := Lib.hid EK
      obtain ⟨ek, hek⟩ : ∃ ek, ek = errTo 0 (spChk (y0, y1)) (spChk (y2, y3)) (spChk (y4, y5)) 0 := ⟨_, rfl⟩
      rw [← hek] at hc
      have HEK := Lib.hid hek; clear hek
      have q0 : (wr.alloc (Obj.cells #[Value.int IntKind.i64 y0, Value.int IntKind.i64 y1] 23)).cell? ⟨wr.heap.size, 0, none⟩ = some (.int .i64 y0) := by simp [go_sem]
      have q1 : (wr.alloc (Obj.cells #[Value.int IntKind.i64 y0, Value.int IntKind.i64 y1] 23)).cell? ⟨wr.heap.size, 1, none⟩ = some (.int .i64 y1) := by simp [go_sem]
      have q2 : (wr.alloc (Obj.cells #[Value.int IntKind.i64 y0, Value.int IntKind.i64 y1] 23)).cell? ⟨w.heap.size, 0, none⟩ = some (.int .i64 ek) := by simp [go_sem, *]
      have q3 : (wr.alloc (Obj.cells #[Value.int IntKind.i64 y0, Value.int IntKind.i64 y1] 23)).frozen? ⟨w.heap.size, 0, none⟩ = false := by simp [go_sem, *]
      go_wp2_with (fail)
      go_region_held3 (fun w' => w'.cell? ⟨wr.heap.size, 0, none⟩ = some (.int .i64 y0) ∧ w'.cell? ⟨wr.heap.size, 1, none⟩ = some (.int .i64 y1)) (go_keep) (first | (go_at_call 76; refine (c_spanCheck y0 y1 _).mono ?_; rintro e w1 ⟨rfl, hb1⟩; (have hs1 : wr.heap.size + 1 ≤ w1.heap.size := by have := hb1.size; simpa using this); (have b0 : w1.cell? ⟨wr.heap.size, 0, none⟩ = some (.int .i64 y0) := (hb1.cell (p := ⟨wr.heap.size, 0, none⟩) (by simp)).trans q0); (have b1 : w1.cell? ⟨wr.heap.size, 1, none⟩ = some (.int .i64 y1) := (hb1.cell (p := ⟨wr.heap.size, 1, none⟩) (by simp)).trans q1); (have p1 : w1.cell? ⟨w.heap.size, 0, none⟩ = some (.int .i64 ek) := (hb1.cell (p := ⟨w.heap.size, 0, none⟩) (by simp; omega)).trans q2); (have pf1 : w1.frozen? ⟨w.heap.size, 0, none⟩ = false := ((bcell hb1).2 w.heap.size 0 (by simp; omega)).trans q3)) | (go_at_call 120; refine (c_take6 w.heap.size _ _ ek _ _ (by omega) p1 pf1).mono ?_; rintro e w2 ⟨rfl, ho2, hc2, hf2⟩; (have hs2 := ho2.size); (have b0' : w2.cell? ⟨wr.heap.size, 0, none⟩ = some (.int .i64 y0) := (ho2.cell (by omega) (by omega)).trans b0); (have b1' : w2.cell? ⟨wr.heap.size, 1, none⟩ = some (.int .i64 y1) := (ho2.cell (by omega) (by omega)).trans b1)))
      go_wp2
      go_roundw
      case rel =>
        have hb2 : Below w.heap.size w1 w2 := ho2.toBelow (by omega) (Nat.le_refl _)
        have hb0 : Below w.heap.size (wr.alloc (Obj.cells #[Value.int IntKind.i64 y0, Value.int IntKind.i64 y1] 23)) w1 := by
          have h9 : w.heap.size ≤ (wr.alloc (Obj.cells #[Value.int IntKind.i64 y0, Value.int IntKind.i64 y1] 23)).heap.size := by simp; omega
          exact Below.mono ⟨hb1.os, hb1.tape, hb1.output, hb1.size, hb1.block⟩ h9
        exact ⟨1, by omega, rfl, by rw [EK.out, ← HEK.out]; exact hc2, hf2, ((hbe.out.alloc (by omega) _).trans hb0).trans hb2, by omega⟩
      case measure => simp [intOf]
    · have hpw : w.heap.size < wr.heap.size := by omega
      have d1 : ¬ w.heap.size = wr.heap.size := by omega
      have d2 : ¬ wr.heap.size = w.heap.size := by omega
      have l1 : w.heap.size < wr.heap.size + 1 := by omega
      have EK : errTo 0 (spChk (y0, y1)) (spChk (y2, y3)) (spChk (y4, y5)) 2 = fst2 (errTo 0 (spChk (y0, y1)) (spChk (y2, y3)) (spChk (y4, y5)) 1) (spChk (y2, y3)) := by simp [errTo]
      have EK := Lib.hid EK
      obtain ⟨ek, hek⟩ : ∃ ek, ek = errTo 0 (spChk (y0, y1)) (spChk (y2, y3)) (spChk (y4, y5)) 1 := ⟨_, rfl⟩
      rw [← hek] at hc
      have HEK := Lib.hid hek; clear hek
      have q0 : (wr.alloc (Obj.cells #[Value.int IntKind.i64 y2, Value.int IntKind.i64 y3] 23)).cell? ⟨wr.heap.size, 0, none⟩ = some (.int .i64 y2) := by simp [go_sem]
      have q1 : (wr.alloc (Obj.cells #[Value.int IntKind.i64 y2, Value.int IntKind.i64 y3] 23)).cell? ⟨wr.heap.size, 1, none⟩ = some (.int .i64 y3) := by simp [go_sem]
      have q2 : (wr.alloc (Obj.cells #[Value.int IntKind.i64 y2, Value.int IntKind.i64 y3] 23)).cell? ⟨w.heap.size, 0, none⟩ = some (.int .i64 ek) := by simp [go_sem, *]
      have q3 : (wr.alloc (Obj.cells #[Value.int IntKind.i64 y2, Value.int IntKind.i64 y3] 23)).frozen? ⟨w.heap.size, 0, none⟩ = false := by simp [go_sem, *]
      go_wp2_with (fail)
      go_region_held3 (fun w' => w'.cell? ⟨wr.heap.size, 0, none⟩ = some (.int .i64 y2) ∧ w'.cell? ⟨wr.heap.size, 1, none⟩ = some (.int .i64 y3)) (go_keep) (first | (go_at_call 76; refine (c_spanCheck y2 y3 _).mono ?_; rintro e w1 ⟨rfl, hb1⟩; (have hs1 : wr.heap.size + 1 ≤ w1.heap.size := by have := hb1.size; simpa using this); (have b0 : w1.cell? ⟨wr.heap.size, 0, none⟩ = some (.int .i64 y2) := (hb1.cell (p := ⟨wr.heap.size, 0, none⟩) (by simp)).trans q0); (have b1 : w1.cell? ⟨wr.heap.size, 1, none⟩ = some (.int .i64 y3) := (hb1.cell (p := ⟨wr.heap.size, 1, none⟩) (by simp)).trans q1); (have p1 : w1.cell? ⟨w.heap.size, 0, none⟩ = some (.int .i64 ek) := (hb1.cell (p := ⟨w.heap.size, 0, none⟩) (by simp; omega)).trans q2); (have pf1 : w1.frozen? ⟨w.heap.size, 0, none⟩ = false := ((bcell hb1).2 w.heap.size 0 (by simp; omega)).trans q3)) | (go_at_call 120; refine (c_take6 w.heap.size _ _ ek _ _ (by omega) p1 pf1).mono ?_; rintro e w2 ⟨rfl, ho2, hc2, hf2⟩; (have hs2 := ho2.size); (have b0' : w2.cell? ⟨wr.heap.size, 0, none⟩ = some (.int .i64 y2) := (ho2.cell (by omega) (by omega)).trans b0); (have b1' : w2.cell? ⟨wr.heap.size, 1, none⟩ = some (.int .i64 y3) := (ho2.cell (by omega) (by omega)).trans b1)))
      go_wp2
      go_roundw
      case rel =>
        have hb2 : Below w.heap.size w1 w2 := ho2.toBelow (by omega) (Nat.le_refl _)
        have hb0 : Below w.heap.size (wr.alloc (Obj.cells #[Value.int IntKind.i64 y2, Value.int IntKind.i64 y3] 23)) w1 := by
          have h9 : w.heap.size ≤ (wr.alloc (Obj.cells #[Value.int IntKind.i64 y2, Value.int IntKind.i64 y3] 23)).heap.size := by simp; omega
          exact Below.mono ⟨hb1.os, hb1.tape, hb1.output, hb1.size, hb1.block⟩ h9
        exact ⟨2, by omega, rfl, by rw [EK.out, ← HEK.out]; exact hc2, hf2, ((hbe.out.alloc (by omega) _).trans hb0).trans hb2, by omega⟩
      case measure => simp [intOf]
    · have hpw : w.heap.size < wr.heap.size := by omega
      have d1 : ¬ w.heap.size = wr.heap.size := by omega
      have d2 : ¬ wr.heap.size = w.heap.size := by omega
      have l1 : w.heap.size < wr.heap.size + 1 := by omega
      have EK : errTo 0 (spChk (y0, y1)) (spChk (y2, y3)) (spChk (y4, y5)) 3 = fst2 (errTo 0 (spChk (y0, y1)) (spChk (y2, y3)) (spChk (y4, y5)) 2) (spChk (y4, y5)) := by simp [errTo]
      have EK := Lib.hid EK
      obtain ⟨ek, hek⟩ : ∃ ek, ek = errTo 0 (spChk (y0, y1)) (spChk (y2, y3)) (spChk (y4, y5)) 2 := ⟨_, rfl⟩
      rw [← hek] at hc
      have HEK := Lib.hid hek; clear hek
      have q0 : (wr.alloc (Obj.cells #[Value.int IntKind.i64 y4, Value.int IntKind.i64 y5] 23)).cell? ⟨wr.heap.size, 0, none⟩ = some (.int .i64 y4) := by simp [go_sem]
      have q1 : (wr.alloc (Obj.cells #[Value.int IntKind.i64 y4, Value.int IntKind.i64 y5] 23)).cell? ⟨wr.heap.size, 1, none⟩ = some (.int .i64 y5) := by simp [go_sem]
      have q2 : (wr.alloc (Obj.cells #[Value.int IntKind.i64 y4, Value.int IntKind.i64 y5] 23)).cell? ⟨w.heap.size, 0, none⟩ = some (.int .i64 ek) := by simp [go_sem, *]
      have q3 : (wr.alloc (Obj.cells #[Value.int IntKind.i64 y4, Value.int IntKind.i64 y5] 23)).frozen? ⟨w.heap.size, 0, none⟩ = false := by simp [go_sem, *]
      go_wp2_with (fail)
      go_region_held3 (fun w' => w'.cell? ⟨wr.heap.size, 0, none⟩ = some (.int .i64 y4) ∧ w'.cell? ⟨wr.heap.size, 1, none⟩ = some (.int .i64 y5)) (go_keep) (first | (go_at_call 76; refine (c_spanCheck y4 y5 _).mono ?_; rintro e w1 ⟨rfl, hb1⟩; (have hs1 : wr.heap.size + 1 ≤ w1.heap.size := by have := hb1.size; simpa using this); (have b0 : w1.cell? ⟨wr.heap.size, 0, none⟩ = some (.int .i64 y4) := (hb1.cell (p := ⟨wr.heap.size, 0, none⟩) (by simp)).trans q0); (have b1 : w1.cell? ⟨wr.heap.size, 1, none⟩ = some (.int .i64 y5) := (hb1.cell (p := ⟨wr.heap.size, 1, none⟩) (by simp)).trans q1); (have p1 : w1.cell? ⟨w.heap.size, 0, none⟩ = some (.int .i64 ek) := (hb1.cell (p := ⟨w.heap.size, 0, none⟩) (by simp; omega)).trans q2); (have pf1 : w1.frozen? ⟨w.heap.size, 0, none⟩ = false := ((bcell hb1).2 w.heap.size 0 (by simp; omega)).trans q3)) | (go_at_call 120; refine (c_take6 w.heap.size _ _ ek _ _ (by omega) p1 pf1).mono ?_; rintro e w2 ⟨rfl, ho2, hc2, hf2⟩; (have hs2 := ho2.size); (have b0' : w2.cell? ⟨wr.heap.size, 0, none⟩ = some (.int .i64 y4) := (ho2.cell (by omega) (by omega)).trans b0); (have b1' : w2.cell? ⟨wr.heap.size, 1, none⟩ = some (.int .i64 y5) := (ho2.cell (by omega) (by omega)).trans b1)))
      go_wp2
      go_roundw
      case rel =>
        have hb2 : Below w.heap.size w1 w2 := ho2.toBelow (by omega) (Nat.le_refl _)
        have hb0 : Below w.heap.size (wr.alloc (Obj.cells #[Value.int IntKind.i64 y4, Value.int IntKind.i64 y5] 23)) w1 := by
          have h9 : w.heap.size ≤ (wr.alloc (Obj.cells #[Value.int IntKind.i64 y4, Value.int IntKind.i64 y5] 23)).heap.size := by simp; omega
          exact Below.mono ⟨hb1.os, hb1.tape, hb1.output, hb1.size, hb1.block⟩ h9
        exact ⟨3, by omega, rfl, by rw [EK.out, ← HEK.out]; exact hc2, hf2, ((hbe.out.alloc (by omega) _).trans hb0).trans hb2, by omega⟩
      case measure => simp [intOf]
    · go_wp2_with (fail)
      refine rounds_step _ ?_
      intro _ _
      go_wp2_with (fail)
      go_ret
      exact ⟨rfl, hbe.out, by omega, by rw [HC.out]; exact hc, hf⟩

set_option maxHeartbeats 2000000 in
theorem c_all2nz (pb c : Nat) (x0 x1 x2 x3 x4 x5 : Int) (w : World) (hpb : pb < w.heap.size) (hx : Hid (Tab12 w pb (six x0 x1 x2 x3 x4 x5) (six 0 0 0 0 0 0))) (hne : ¬ (x0 = 0 ∧ x1 = 0 ∧ x2 = 0 ∧ x3 = 0 ∧ x4 = 0 ∧ x5 = 0)) :
    Calls Try.prog 62 #[.slice (some ⟨pb, 0, none⟩) 2 c] w fun e w' => e = .returned (.pointer (some ⟨w.heap.size, 0, none⟩)) ∧ Below w.heap.size w w' ∧ w.heap.size < w'.heap.size ∧ w'.cell? ⟨w.heap.size, 0, none⟩ = some (.int .i64 (chk3 (chk3 0 x0 x1 x2 x3 x4 x5 3) 0 0 0 0 0 0 3)) ∧ w'.frozen? ⟨w.heap.size, 0, none⟩ = false := by
  have a0 : w.cell? ⟨pb, 0, none⟩ = some (.int .i64 x0) := by have := hx.out.1 0 (by omega); simpa [six] using this
  have a1 : w.cell? ⟨pb, 1, none⟩ = some (.int .i64 x1) := by have := hx.out.1 1 (by omega); simpa [six] using this
  have a2 : w.cell? ⟨pb, 2, none⟩ = some (.int .i64 x2) := by have := hx.out.1 2 (by omega); simpa [six] using this
  have a3 : w.cell? ⟨pb, 3, none⟩ = some (.int .i64 x3) := by have := hx.out.1 3 (by omega); simpa [six] using this
  have a4 : w.cell? ⟨pb, 4, none⟩ = some (.int .i64 x4) := by have := hx.out.1 4 (by omega); simpa [six] using this
  have a5 : w.cell? ⟨pb, 5, none⟩ = some (.int .i64 x5) := by have := hx.out.1 5 (by omega); simpa [six] using this
  have a6 : w.cell? ⟨pb, 6, none⟩ = some (.int .i64 0) := by have := hx.out.2 0 (by omega); simpa [six] using this
  have a7 : w.cell? ⟨pb, 7, none⟩ = some (.int .i64 0) := by have := hx.out.2 1 (by omega); simpa [six] using this
  have a8 : w.cell? ⟨pb, 8, none⟩ = some (.int .i64 0) := by have := hx.out.2 2 (by omega); simpa [six] using this
  have a9 : w.cell? ⟨pb, 9, none⟩ = some (.int .i64 0) := by have := hx.out.2 3 (by omega); simpa [six] using this
  have a10 : w.cell? ⟨pb, 10, none⟩ = some (.int .i64 0) := by have := hx.out.2 4 (by omega); simpa [six] using this
  have a11 : w.cell? ⟨pb, 11, none⟩ = some (.int .i64 0) := by have := hx.out.2 5 (by omega); simpa [six] using this
  have n0 : ¬ pb = w.heap.size := by omega
  have l0 : pb < w.heap.size + 1 := by omega
  have l9 : pb < w.heap.size + 1 + 1 := by omega
  have n9 : ¬ pb = w.heap.size + 1 := by omega
  have hEz : ∀ w : World, (binOp .eql 25 (.agg #[.int .i64 0, .int .i64 0, .int .i64 0, .int .i64 0, .int .i64 0, .int .i64 0]) (.agg #[.int .i64 0, .int .i64 0, .int .i64 0, .int .i64 0, .int .i64 0, .int .i64 0])).run Try.prog w = .ok (.bool true) w := fun w => by rw [eql_vec]; rfl
  have hq : (((x0 == 0) && (x1 == 0)) && (((x2 == 0) && (x3 == 0)) && ((x4 == 0) && (x5 == 0)))) = false := by
    rw [Bool.eq_false_iff]; intro h; simp at h; omega
  have hE : ∀ w : World, (binOp .eql 25 (.agg #[.int .i64 x0, .int .i64 x1, .int .i64 x2, .int .i64 x3, .int .i64 x4, .int .i64 x5]) (.agg #[.int .i64 0, .int .i64 0, .int .i64 0, .int .i64 0, .int .i64 0, .int .i64 0])).run Try.prog w = .ok (.bool false) w := fun w => by rw [eql_vec, hq]
  clear hq hne
  have HC := Lib.hid (chk3_zero (chk3 0 x0 x1 x2 x3 x4 x5 3))
  go_enter Try.func62, Try.ntmps62
  go_wp2_with (fail)
  refine wp_rounds 3 ?_
  refine rounds_step _ ?_
  intro _ _
  go_wp2_with (fail)
  go_loopw [20] (fun iv wx => ∃ k : Nat, k ≤ 3 ∧ iv = .int .i64 (k : Int) ∧ wx.cell? ⟨w.heap.size, 0, none⟩ = some (.int .i64 (errTo 0 (spChk (x0, x1)) (spChk (x2, x3)) (spChk (x4, x5)) k)) ∧ wx.frozen? ⟨w.heap.size, 0, none⟩ = false ∧ Hid (Below w.heap.size w wx) ∧ w.heap.size + 1 < wx.heap.size) (fun iv _ => 3 - (intOf iv).toNat)
  case atStart => exact ⟨0, by omega, rfl, by simp [go_sem, errTo], by simp [go_sem], (by unfold Hid; (repeat' (first | (with_reducible exact Below.refl _ _) | assumption | (with_reducible refine Below.setCell ?_ ?_ _) | (with_reducible refine Below.alloc ?_ ?_ _) | (with_reducible refine Below.drew ?_) | (with_reducible refine below_drewN ?_ _) | (with_reducible refine Below.trans ?_ (Below.mono (by assumption) ?_)) | omega | (simp; done) | (simp; omega) | (simp [World.setCell]; omega)))), by simp⟩
  case round =>
    obtain ⟨k, hk, rfl, hc, hf, hbe, hsz⟩ := hrel
    rcases (by omega : k = 0 ∨ k = 1 ∨ k = 2 ∨ k = 3) with rfl | rfl | rfl | rfl
    · have hpw : w.heap.size < wr.heap.size := by omega
      have d1 : ¬ w.heap.size = wr.heap.size := by omega
      have d2 : ¬ wr.heap.size = w.heap.size := by omega
      have l1 : w.heap.size < wr.heap.size + 1 := by omega
      have EK : errTo 0 (spChk (x0, x1)) (spChk (x2, x3)) (spChk (x4, x5)) 1 = fst2 (errTo 0 (spChk (x0, x1)) (spChk (x2, x3)) (spChk (x4, x5)) 0) (spChk (x0, x1)) := by simp [errTo]
      have EK := Lib.hid EK
      obtain ⟨ek, hek⟩ : ∃ ek, ek = errTo 0 (spChk (x0, x1)) (spChk (x2, x3)) (spChk (x4, x5)) 0 := ⟨_, rfl⟩
      rw [← hek] at hc
      have HEK := Lib.hid hek; clear hek
      have q0 : (wr.alloc (Obj.cells #[Value.int IntKind.i64 x0, Value.int IntKind.i64 x1] 23)).cell? ⟨wr.heap.size, 0, none⟩ = some (.int .i64 x0) := by simp [go_sem]
      have q1 : (wr.alloc (Obj.cells #[Value.int IntKind.i64 x0, Value.int IntKind.i64 x1] 23)).cell? ⟨wr.heap.size, 1, none⟩ = some (.int .i64 x1) := by simp [go_sem]
      have q2 : (wr.alloc (Obj.cells #[Value.int IntKind.i64 x0, Value.int IntKind.i64 x1] 23)).cell? ⟨w.heap.size, 0, none⟩ = some (.int .i64 ek) := by simp [go_sem, *]
      have q3 : (wr.alloc (Obj.cells #[Value.int IntKind.i64 x0, Value.int IntKind.i64 x1] 23)).frozen? ⟨w.heap.size, 0, none⟩ = false := by simp [go_sem, *]
      go_wp2_with (fail)
      go_region_held3 (fun w' => w'.cell? ⟨wr.heap.size, 0, none⟩ = some (.int .i64 x0) ∧ w'.cell? ⟨wr.heap.size, 1, none⟩ = some (.int .i64 x1)) (go_keep) (first | (go_at_call 76; refine (c_spanCheck x0 x1 _).mono ?_; rintro e w1 ⟨rfl, hb1⟩; (have hs1 : wr.heap.size + 1 ≤ w1.heap.size := by have := hb1.size; simpa using this); (have b0 : w1.cell? ⟨wr.heap.size, 0, none⟩ = some (.int .i64 x0) := (hb1.cell (p := ⟨wr.heap.size, 0, none⟩) (by simp)).trans q0); (have b1 : w1.cell? ⟨wr.heap.size, 1, none⟩ = some (.int .i64 x1) := (hb1.cell (p := ⟨wr.heap.size, 1, none⟩) (by simp)).trans q1); (have p1 : w1.cell? ⟨w.heap.size, 0, none⟩ = some (.int .i64 ek) := (hb1.cell (p := ⟨w.heap.size, 0, none⟩) (by simp; omega)).trans q2); (have pf1 : w1.frozen? ⟨w.heap.size, 0, none⟩ = false := ((bcell hb1).2 w.heap.size 0 (by simp; omega)).trans q3)) | (go_at_call 120; refine (c_take6 w.heap.size _ _ ek _ _ (by omega) p1 pf1).mono ?_; rintro e w2 ⟨rfl, ho2, hc2, hf2⟩; (have hs2 := ho2.size); (have b0' : w2.cell? ⟨wr.heap.size, 0, none⟩ = some (.int .i64 x0) := (ho2.cell (by omega) (by omega)).trans b0); (have b1' : w2.cell? ⟨wr.heap.size, 1, none⟩ = some (.int .i64 x1) := (ho2.cell (by omega) (by omega)).trans b1)))
      go_wp2
      go_roundw
      case rel =>
        have hb2 : Below w.heap.size w1 w2 := ho2.toBelow (by omega) (Nat.le_refl _)
        have hb0 : Below w.heap.size (wr.alloc (Obj.cells #[Value.int IntKind.i64 x0, Value.int IntKind.i64 x1] 23)) w1 := by
          have h9 : w.heap.size ≤ (wr.alloc (Obj.cells #[Value.int IntKind.i64 x0, Value.int IntKind.i64 x1] 23)).heap.size := by simp; omega
          exact Below.mono ⟨hb1.os, hb1.tape, hb1.output, hb1.size, hb1.block⟩ h9
        exact ⟨1, by omega, rfl, by rw [EK.out, ← HEK.out]; exact hc2, hf2, ((hbe.out.alloc (by omega) _).trans hb0).trans hb2, by omega⟩
      case measure => simp [intOf]
    · have hpw : w.heap.size < wr.heap.size := by omega
      have d1 : ¬ w.heap.size = wr.heap.size := by omega
      have d2 : ¬ wr.heap.size = w.heap.size := by omega
      have l1 : w.heap.size < wr.heap.size + 1 := by omega
      have EK : errTo 0 (spChk (x0, x1)) (spChk (x2, x3)) (spChk (x4, x5)) 2 = fst2 (errTo 0 (spChk (x0, x1)) (spChk (x2, x3)) (spChk (x4, x5)) 1) (spChk (x2, x3)) := by simp [errTo]
      have EK := Lib.hid EK
      obtain ⟨ek, hek⟩ : ∃ ek, ek = errTo 0 (spChk (x0, x1)) (spChk (x2, x3)) (spChk (x4, x5)) 1 := ⟨_, rfl⟩
      rw [← hek] at hc
      have HEK := Lib.hid hek; clear hek
      have q0 : (wr.alloc (Obj.cells #[Value.int IntKind.i64 x2, Value.int IntKind.i64 x3] 23)).cell? ⟨wr.heap.size, 0, none⟩ = some (.int .i64 x2) := by simp [go_sem]
      have q1 : (wr.alloc (Obj.cells #[Value.int IntKind.i64 x2, Value.int IntKind.i64 x3] 23)).cell? ⟨wr.heap.size, 1, none⟩ = some (.int .i64 x3) := by simp [go_sem]
      have q2 : (wr.alloc (Obj.cells #[Value.int IntKind.i64 x2, Value.int IntKind.i64 x3] 23)).cell? ⟨w.heap.size, 0, none⟩ = some (.int .i64 ek) := by simp [go_sem, *]
      have q3 : (wr.alloc (Obj.cells #[Value.int IntKind.i64 x2, Value.int IntKind.i64 x3] 23)).frozen? ⟨w.heap.size, 0, none⟩ = false := by simp [go_sem, *]
      go_wp2_with (fail)
      go_region_held3 (fun w' => w'.cell? ⟨wr.heap.size, 0, none⟩ = some (.int .i64 x2) ∧ w'.cell? ⟨wr.heap.size, 1, none⟩ = some (.int .i64 x3)) (go_keep) (first | (go_at_call 76; refine (c_spanCheck x2 x3 _).mono ?_; rintro e w1 ⟨rfl, hb1⟩; (have hs1 : wr.heap.size + 1 ≤ w1.heap.size := by have := hb1.size; simpa using this); (have b0 : w1.cell? ⟨wr.heap.size, 0, none⟩ = some (.int .i64 x2) := (hb1.cell (p := ⟨wr.heap.size, 0, none⟩) (by simp)).trans q0); (have b1 : w1.cell? ⟨wr.heap.size, 1, none⟩ = some (.int .i64 x3) := (hb1.cell (p := ⟨wr.heap.size, 1, none⟩) (by simp)).trans q1); (have p1 : w1.cell? ⟨w.heap.size, 0, none⟩ = some (.int .i64 ek) := (hb1.cell (p := ⟨w.heap.size, 0, none⟩) (by simp; omega)).trans q2); (have pf1 : w1.frozen? ⟨w.heap.size, 0, none⟩ = false := ((bcell hb1).2 w.heap.size 0 (by simp; omega)).trans q3)) | (go_at_call 120; refine (c_take6 w.heap.size _ _ ek _ _ (by omega) p1 pf1).mono ?_; rintro e w2 ⟨rfl, ho2, hc2, hf2⟩; (have hs2 := ho2.size); (have b0' : w2.cell? ⟨wr.heap.size, 0, none⟩ = some (.int .i64 x2) := (ho2.cell (by omega) (by omega)).trans b0); (have b1' : w2.cell? ⟨wr.heap.size, 1, none⟩ = some (.int .i64 x3) := (ho2.cell (by omega) (by omega)).trans b1)))
      go_wp2
      go_roundw
      case rel =>
        have hb2 : Below w.heap.size w1 w2 := ho2.toBelow (by omega) (Nat.le_refl _)
        have hb0 : Below w.heap.size (wr.alloc (Obj.cells #[Value.int IntKind.i64 x2, Value.int IntKind.i64 x3] 23)) w1 := by
          have h9 : w.heap.size ≤ (wr.alloc (Obj.cells #[Value.int IntKind.i64 x2, Value.int IntKind.i64 x3] 23)).heap.size := by simp; omega
          exact Below.mono ⟨hb1.os, hb1.tape, hb1.output, hb1.size, hb1.block⟩ h9
        exact ⟨2, by omega, rfl, by rw [EK.out, ← HEK.out]; exact hc2, hf2, ((hbe.out.alloc (by omega) _).trans hb0).trans hb2, by omega⟩
      case measure => simp [intOf]
    · have hpw : w.heap.size < wr.heap.size := by omega
      have d1 : ¬ w.heap.size = wr.heap.size := by omega
      have d2 : ¬ wr.heap.size = w.heap.size := by omega
      have l1 : w.heap.size < wr.heap.size + 1 := by omega
      have EK : errTo 0 (spChk (x0, x1)) (spChk (x2, x3)) (spChk (x4, x5)) 3 = fst2 (errTo 0 (spChk (x0, x1)) (spChk (x2, x3)) (spChk (x4, x5)) 2) (spChk (x4, x5)) := by simp [errTo]
      have EK := Lib.hid EK
      obtain ⟨ek, hek⟩ : ∃ ek, ek = errTo 0 (spChk (x0, x1)) (spChk (x2, x3)) (spChk (x4, x5)) 2 := ⟨_, rfl⟩
      rw [← hek] at hc
      have HEK := Lib.hid hek; clear hek
      have q0 : (wr.alloc (Obj.cells #[Value.int IntKind.i64 x4, Value.int IntKind.i64 x5] 23)).cell? ⟨wr.heap.size, 0, none⟩ = some (.int .i64 x4) := by simp [go_sem]
      have q1 : (wr.alloc (Obj.cells #[Value.int IntKind.i64 x4, Value.int IntKind.i64 x5] 23)).cell? ⟨wr.heap.size, 1, none⟩ = some (.int .i64 x5) := by simp [go_sem]
      have q2 : (wr.alloc (Obj.cells #[Value.int IntKind.i64 x4, Value.int IntKind.i64 x5] 23)).cell? ⟨w.heap.size, 0, none⟩ = some (.int .i64 ek) := by simp [go_sem, *]
      have q3 : (wr.alloc (Obj.cells #[Value.int IntKind.i64 x4, Value.int IntKind.i64 x5] 23)).frozen? ⟨w.heap.size, 0, none⟩ = false := by simp [go_sem, *]
      go_wp2_with (fail)
      go_region_held3 (fun w' => w'.cell? ⟨wr.heap.size, 0, none⟩ = some (.int .i64 x4) ∧ w'.cell? ⟨wr.heap.size, 1, none⟩ = some (.int .i64 x5)) (go_keep) (first | (go_at_call 76; refine (c_spanCheck x4 x5 _).mono ?_; rintro e w1 ⟨rfl, hb1⟩; (have hs1 : wr.heap.size + 1 ≤ w1.heap.size := by have := hb1.size; simpa using this); (have b0 : w1.cell? ⟨wr.heap.size, 0, none⟩ = some (.int .i64 x4) := (hb1.cell (p := ⟨wr.heap.size, 0, none⟩) (by simp)).trans q0); (have b1 : w1.cell? ⟨wr.heap.size, 1, none⟩ = some (.int .i64 x5) := (hb1.cell (p := ⟨wr.heap.size, 1, none⟩) (by simp)).trans q1); (have p1 : w1.cell? ⟨w.heap.size, 0, none⟩ = some (.int .i64 ek) := (hb1.cell (p := ⟨w.heap.size, 0, none⟩) (by simp; omega)).trans q2); (have pf1 : w1.frozen? ⟨w.heap.size, 0, none⟩ = false := ((bcell hb1).2 w.heap.size 0 (by simp; omega)).trans q3)) | (go_at_call 120; refine (c_take6 w.heap.size _ _ ek _ _ (by omega) p1 pf1).mono ?_; rintro e w2 ⟨rfl, ho2, hc2, hf2⟩; (have hs2 := ho2.size); (have b0' : w2.cell? ⟨wr.heap.size, 0, none⟩ = some (.int .i64 x4) := (ho2.cell (by omega) (by omega)).trans b0); (have b1' : w2.cell? ⟨wr.heap.size, 1, none⟩ = some (.int .i64 x5) := (ho2.cell (by omega) (by omega)).trans b1)))
      go_wp2
      go_roundw
      case rel =>
        have hb2 : Below w.heap.size w1 w2 := ho2.toBelow (by omega) (Nat.le_refl _)
        have hb0 : Below w.heap.size (wr.alloc (Obj.cells #[Value.int IntKind.i64 x4, Value.int IntKind.i64 x5] 23)) w1 := by
          have h9 : w.heap.size ≤ (wr.alloc (Obj.cells #[Value.int IntKind.i64 x4, Value.int IntKind.i64 x5] 23)).heap.size := by simp; omega
          exact Below.mono ⟨hb1.os, hb1.tape, hb1.output, hb1.size, hb1.block⟩ h9
        exact ⟨3, by omega, rfl, by rw [EK.out, ← HEK.out]; exact hc2, hf2, ((hbe.out.alloc (by omega) _).trans hb0).trans hb2, by omega⟩
      case measure => simp [intOf]
    · have hpbr : pb < wr.heap.size := by have := hbe.out.size; omega
      have b6 : wr.cell? ⟨pb, 6, none⟩ = some (.int .i64 0) := ((bcell hbe.out).1 _ _ hpb).trans a6
      have b7 : wr.cell? ⟨pb, 7, none⟩ = some (.int .i64 0) := ((bcell hbe.out).1 _ _ hpb).trans a7
      have b8 : wr.cell? ⟨pb, 8, none⟩ = some (.int .i64 0) := ((bcell hbe.out).1 _ _ hpb).trans a8
      have b9 : wr.cell? ⟨pb, 9, none⟩ = some (.int .i64 0) := ((bcell hbe.out).1 _ _ hpb).trans a9
      have b10 : wr.cell? ⟨pb, 10, none⟩ = some (.int .i64 0) := ((bcell hbe.out).1 _ _ hpb).trans a10
      have b11 : wr.cell? ⟨pb, 11, none⟩ = some (.int .i64 0) := ((bcell hbe.out).1 _ _ hpb).trans a11
      have hw2 : w.heap.size < wr.heap.size := by omega
      have d8 : ¬ w.heap.size = wr.heap.size := by omega
      have d9 : ¬ wr.heap.size = w.heap.size := by omega
      have l8 : w.heap.size < wr.heap.size + 1 := by omega
      obtain ⟨e1, he1⟩ : ∃ e1, e1 = chk3 0 x0 x1 x2 x3 x4 x5 3 := ⟨_, rfl⟩
      have hc2 : wr.cell? ⟨w.heap.size, 0, none⟩ = some (.int .i64 e1) := by rw [he1]; exact hc
      clear hc
      have HE1 := Lib.hid he1; clear he1
      go_wp2_with (fail)
      refine rounds_step _ ?_
      intro _ _
      go_wp2_with (fail)
      refine rounds_step _ ?_
      intro _ _
      go_wp2_with (fail)
      go_ret
      exact ⟨rfl, (by have := hbe.out; (repeat' (first | (with_reducible exact Below.refl _ _) | assumption | (with_reducible refine Below.setCell ?_ ?_ _) | (with_reducible refine Below.alloc ?_ ?_ _) | (with_reducible refine Below.drew ?_) | (with_reducible refine below_drewN ?_ _) | (with_reducible refine Below.trans ?_ (Below.mono (by assumption) ?_)) | omega | (simp; done) | (simp; omega) | (simp [World.setCell]; omega)))), by (simp <;> omega), by rw [HC.out, ← HE1.out]; simp [go_sem, *], by simp [go_sem, *]⟩

set_option maxHeartbeats 2000000 in
theorem c_all2zz (pb c : Nat) (w : World) (hpb : pb < w.heap.size) (hx : Hid (Tab12 w pb (six 0 0 0 0 0 0) (six 0 0 0 0 0 0))) :
    Calls Try.prog 62 #[.slice (some ⟨pb, 0, none⟩) 2 c] w fun e w' => e = .returned (.pointer (some ⟨w.heap.size, 0, none⟩)) ∧ Below w.heap.size w w' ∧ w.heap.size < w'.heap.size ∧ w'.cell? ⟨w.heap.size, 0, none⟩ = some (.int .i64 (chk3 (chk3 0 0 0 0 0 0 0 3) 0 0 0 0 0 0 3)) ∧ w'.frozen? ⟨w.heap.size, 0, none⟩ = false := by
  have a0 : w.cell? ⟨pb, 0, none⟩ = some (.int .i64 0) := by have := hx.out.1 0 (by omega); simpa [six] using this
  have a1 : w.cell? ⟨pb, 1, none⟩ = some (.int .i64 0) := by have := hx.out.1 1 (by omega); simpa [six] using this
  have a2 : w.cell? ⟨pb, 2, none⟩ = some (.int .i64 0) := by have := hx.out.1 2 (by omega); simpa [six] using this
  have a3 : w.cell? ⟨pb, 3, none⟩ = some (.int .i64 0) := by have := hx.out.1 3 (by omega); simpa [six] using this
  have a4 : w.cell? ⟨pb, 4, none⟩ = some (.int .i64 0) := by have := hx.out.1 4 (by omega); simpa [six] using this
  have a5 : w.cell? ⟨pb, 5, none⟩ = some (.int .i64 0) := by have := hx.out.1 5 (by omega); simpa [six] using this
  have a6 : w.cell? ⟨pb, 6, none⟩ = some (.int .i64 0) := by have := hx.out.2 0 (by omega); simpa [six] using this
  have a7 : w.cell? ⟨pb, 7, none⟩ = some (.int .i64 0) := by have := hx.out.2 1 (by omega); simpa [six] using this
  have a8 : w.cell? ⟨pb, 8, none⟩ = some (.int .i64 0) := by have := hx.out.2 2 (by omega); simpa [six] using this
  have a9 : w.cell? ⟨pb, 9, none⟩ = some (.int .i64 0) := by have := hx.out.2 3 (by omega); simpa [six] using this
  have a10 : w.cell? ⟨pb, 10, none⟩ = some (.int .i64 0) := by have := hx.out.2 4 (by omega); simpa [six] using this
  have a11 : w.cell? ⟨pb, 11, none⟩ = some (.int .i64 0) := by have := hx.out.2 5 (by omega); simpa [six] using this
  have n0 : ¬ pb = w.heap.size := by omega
  have l0 : pb < w.heap.size + 1 := by omega
  have l9 : pb < w.heap.size + 1 + 1 := by omega
  have n9 : ¬ pb = w.heap.size + 1 := by omega
  have hEz : ∀ w : World, (binOp .eql 25 (.agg #[.int .i64 0, .int .i64 0, .int .i64 0, .int .i64 0, .int .i64 0, .int .i64 0]) (.agg #[.int .i64 0, .int .i64 0, .int .i64 0, .int .i64 0, .int .i64 0, .int .i64 0])).run Try.prog w = .ok (.bool true) w := fun w => by rw [eql_vec]; rfl
  have HC : Hid (chk3 (chk3 0 0 0 0 0 0 0 3) 0 0 0 0 0 0 3 = 0) := by unfold Hid; rw [chk3_zero, chk3_zero]
  go_enter Try.func62, Try.ntmps62
  go_wp2_with (fail)
  refine wp_rounds 3 ?_
  refine rounds_step _ ?_
  intro _ _
  go_wp2_with (fail)
  refine rounds_step _ ?_
  intro _ _
  go_wp2_with (fail)
  refine rounds_step _ ?_
  intro _ _
  go_wp2_with (fail)
  go_ret
  exact ⟨rfl, by (repeat' (first | (with_reducible exact Below.refl _ _) | assumption | (with_reducible refine Below.setCell ?_ ?_ _) | (with_reducible refine Below.alloc ?_ ?_ _) | (with_reducible refine Below.drew ?_) | (with_reducible refine below_drewN ?_ _) | (with_reducible refine Below.trans ?_ (Below.mono (by assumption) ?_)) | omega | (simp; done) | (simp; omega) | (simp [World.setCell]; omega))), by (simp <;> omega), by rw [HC.out]; simp [go_sem], by simp [go_sem]⟩

end Go.Proofs.Ytpdaigenffecmaa

namespace Go.Proofs.Ytpdaigenffecmaa
open Go.RowKit Go.Shelf

theorem c_all2 (pb c : Nat) (x0 x1 x2 x3 x4 x5 y0 y1 y2 y3 y4 y5 : Int) (w : World) (hpb : pb < w.heap.size) (hx : Hid (Tab12 w pb (six x0 x1 x2 x3 x4 x5) (six y0 y1 y2 y3 y4 y5))) :
    Calls Try.prog 62 #[.slice (some ⟨pb, 0, none⟩) 2 c] w fun e w' => e = .returned (.pointer (some ⟨w.heap.size, 0, none⟩)) ∧ Below w.heap.size w w' ∧ w.heap.size < w'.heap.size ∧ w'.cell? ⟨w.heap.size, 0, none⟩ = some (.int .i64 (chk3 (chk3 0 x0 x1 x2 x3 x4 x5 3) y0 y1 y2 y3 y4 y5 3)) ∧ w'.frozen? ⟨w.heap.size, 0, none⟩ = false := by
  by_cases h : x0 = 0 ∧ x1 = 0 ∧ x2 = 0 ∧ x3 = 0 ∧ x4 = 0 ∧ x5 = 0
  · obtain ⟨rfl, rfl, rfl, rfl, rfl, rfl⟩ := h
    by_cases g : y0 = 0 ∧ y1 = 0 ∧ y2 = 0 ∧ y3 = 0 ∧ y4 = 0 ∧ y5 = 0
    · obtain ⟨rfl, rfl, rfl, rfl, rfl, rfl⟩ := g
      exact c_all2zz pb c w hpb hx
    · exact c_all2zn pb c y0 y1 y2 y3 y4 y5 w hpb hx g
  · by_cases g : y0 = 0 ∧ y1 = 0 ∧ y2 = 0 ∧ y3 = 0 ∧ y4 = 0 ∧ y5 = 0
    · obtain ⟨rfl, rfl, rfl, rfl, rfl, rfl⟩ := g
      exact c_all2nz pb c x0 x1 x2 x3 x4 x5 w hpb hx h
    · exact c_all2nn pb c x0 x1 x2 x3 x4 x5 y0 y1 y2 y3 y4 y5 w hpb hx h g

end Go.Proofs.Ytpdaigenffecmaa
