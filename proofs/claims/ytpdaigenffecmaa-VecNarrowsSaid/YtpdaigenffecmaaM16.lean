/-
  Package vec: all, of one vector. Plain: numbers by digits to the base 2^16. Plain: the reference's fixed-point numbers and the program's answer alike. Plain: the reference's results of intervals. Plain: the reference's powers of intervals are the program's. Plain: the reference's product and quotient of intervals are the program's. Plain: results of vectors, as the program and as the reference tell them.
-/
import Derived.Test.YtpdaigenffecmaaM01
import Derived.Test.YtpdaigenffecmaaM14
set_option linter.all false
namespace Go.Proofs.Ytpdaigenffecmaa
open Go.RowKit Go.Shelf

/-- The word of the three components. -/
def chk3 (e0 x0 x1 x2 x3 x4 x5 : Int) (k : Nat) : Int := errTo e0 (spChk (x0, x1)) (spChk (x2, x3)) (spChk (x4, x5)) k

set_option maxHeartbeats 1000000 in
theorem c_all1 (pb c : Nat) (x0 x1 x2 x3 x4 x5 : Int) (w : World) (hpb : pb < w.heap.size) (hx : Hid (Tab6 w pb (six x0 x1 x2 x3 x4 x5))) (hne : ¬ (x0 = 0 ∧ x1 = 0 ∧ x2 = 0 ∧ x3 = 0 ∧ x4 = 0 ∧ x5 = 0)) :
    Calls Try.prog 62 #[.slice (some ⟨pb, 0, none⟩) 1 c] w fun e w' => e = .returned (.pointer (some ⟨w.heap.size, 0, none⟩)) ∧ Below w.heap.size w w' ∧ w.heap.size < w'.heap.size ∧ w'.cell? ⟨w.heap.size, 0, none⟩ = some (.int .i64 (chk3 0 x0 x1 x2 x3 x4 x5 3)) ∧ w'.frozen? ⟨w.heap.size, 0, none⟩ = false := by
  have a0 : w.cell? ⟨pb, 0, none⟩ = some (.int .i64 x0) := by have := hx.out 0 (by omega); simpa [six] using this
  have a1 : w.cell? ⟨pb, 1, none⟩ = some (.int .i64 x1) := by have := hx.out 1 (by omega); simpa [six] using this
  have a2 : w.cell? ⟨pb, 2, none⟩ = some (.int .i64 x2) := by have := hx.out 2 (by omega); simpa [six] using this
  have a3 : w.cell? ⟨pb, 3, none⟩ = some (.int .i64 x3) := by have := hx.out 3 (by omega); simpa [six] using this
  have a4 : w.cell? ⟨pb, 4, none⟩ = some (.int .i64 x4) := by have := hx.out 4 (by omega); simpa [six] using this
  have a5 : w.cell? ⟨pb, 5, none⟩ = some (.int .i64 x5) := by have := hx.out 5 (by omega); simpa [six] using this
  have n0 : ¬ pb = w.heap.size := by omega
  have l0 : pb < w.heap.size + 1 := by omega
  have hq : (((x0 == 0) && (x1 == 0)) && (((x2 == 0) && (x3 == 0)) && ((x4 == 0) && (x5 == 0)))) = false := by
    rw [Bool.eq_false_iff]; intro h; simp at h; omega
  have hE : ∀ w : World, (binOp .eql 25 (.agg #[.int .i64 x0, .int .i64 x1, .int .i64 x2, .int .i64 x3, .int .i64 x4, .int .i64 x5]) (.agg #[.int .i64 0, .int .i64 0, .int .i64 0, .int .i64 0, .int .i64 0, .int .i64 0])).run Try.prog w = .ok (.bool false) w := fun w => by rw [eql_vec, hq]
  clear hq hne
  go_enter Try.func62, Try.ntmps62
  go_wp2_with (fail)
  refine wp_rounds 2 ?_
  refine rounds_step _ ?_
  intro _ _
  go_wp2_with (fail)
  go_loopw [20] (fun iv wx => ∃ k : Nat, k ≤ 3 ∧ iv = .int .i64 (k : Int) ∧ wx.cell? ⟨w.heap.size, 0, none⟩ = some (.int .i64 (errTo 0 (spChk (x0, x1)) (spChk (x2, x3)) (spChk (x4, x5)) k)) ∧ wx.frozen? ⟨w.heap.size, 0, none⟩ = false ∧ Hid (Below w.heap.size w wx) ∧ w.heap.size + 1 < wx.heap.size) (fun iv _ => 3 - (intOf iv).toNat)
  case atStart => exact ⟨0, by omega, rfl, by simp [go_sem, errTo], by simp [go_sem], (by unfold Hid; (repeat' (first | (with_reducible exact Below.refl _ _) | assumption | (with_reducible refine Below.setCell ?_ ?_ _) | (with_reducible refine Below.alloc ?_ ?_ _) | (with_reducible refine Below.drew ?_) | (with_reducible refine below_drewN ?_ _) | (with_reducible refine Below.trans ?_ (Below.mono (by assumption) ?_)) | omega | (simp; done) | (simp; omega) | (simp [World.setCell]; omega)))), by simp⟩
  case round =>
    obtain ⟨k, hk, rfl, hc, hf, hbe, hsz⟩ := hrel
    rcases (by omega : k = 0 ∨ k = 1 ∨ k = 2 ∨ k = 3) with rfl | rfl | rfl | rfl
    · have hpw : w.heap.size < wr.heap.size := by omega
      have d1 : ¬ w.heap.size = wr.heap.size := by omega
      have d2 : ¬ wr.heap.size = w.heap.size := by omega
      have l1 : w.heap.size < wr.heap.size + 1 := by omega
      have EK : errTo 0 (spChk (x0, x1)) (spChk (x2, x3)) (spChk (x4, x5)) 1 = fst2 (errTo 0 (spChk (x0, x1)) (spChk (x2, x3)) (spChk (x4, x5)) 0) (spChk (x0, x1)) := by simp [errTo]
      have EK := Lib.hid EK
      obtain ⟨ek, hek⟩ : ∃ ek, ek = errTo 0 (spChk (x0, x1)) (spChk (x2, x3)) (spChk (x4, x5)) 0 := ⟨_, rfl⟩
      rw [← hek] at hc
      have HEK := Lib.hid hek; clear hek
      have q0 : (wr.alloc (Obj.cells #[Value.int IntKind.i64 x0, Value.int IntKind.i64 x1] 23)).cell? ⟨wr.heap.size, 0, none⟩ = some (.int .i64 x0) := by simp [go_sem]
      have q1 : (wr.alloc (Obj.cells #[Value.int IntKind.i64 x0, Value.int IntKind.i64 x1] 23)).cell? ⟨wr.heap.size, 1, none⟩ = some (.int .i64 x1) := by simp [go_sem]
      have q2 : (wr.alloc (Obj.cells #[Value.int IntKind.i64 x0, Value.int IntKind.i64 x1] 23)).cell? ⟨w.heap.size, 0, none⟩ = some (.int .i64 ek) := by simp [go_sem, *]
      have q3 : (wr.alloc (Obj.cells #[Value.int IntKind.i64 x0, Value.int IntKind.i64 x1] 23)).frozen? ⟨w.heap.size, 0, none⟩ = false := by simp [go_sem, *]
      go_wp2_with (fail)
      go_region_held3 (fun w' => w'.cell? ⟨wr.heap.size, 0, none⟩ = some (.int .i64 x0) ∧ w'.cell? ⟨wr.heap.size, 1, none⟩ = some (.int .i64 x1)) (go_keep) (first | (go_at_call 76; refine (c_spanCheck x0 x1 _).mono ?_; rintro e w1 ⟨rfl, hb1⟩; (have hs1 : wr.heap.size + 1 ≤ w1.heap.size := by have := hb1.size; simpa using this); (have b0 : w1.cell? ⟨wr.heap.size, 0, none⟩ = some (.int .i64 x0) := (hb1.cell (p := ⟨wr.heap.size, 0, none⟩) (by simp)).trans q0); (have b1 : w1.cell? ⟨wr.heap.size, 1, none⟩ = some (.int .i64 x1) := (hb1.cell (p := ⟨wr.heap.size, 1, none⟩) (by simp)).trans q1); (have p1 : w1.cell? ⟨w.heap.size, 0, none⟩ = some (.int .i64 ek) := (hb1.cell (p := ⟨w.heap.size, 0, none⟩) (by simp; omega)).trans q2); (have pf1 : w1.frozen? ⟨w.heap.size, 0, none⟩ = false := ((bcell hb1).2 w.heap.size 0 (by simp; omega)).trans q3)) | (go_at_call 120; refine (c_take6 w.heap.size _ _ ek _ _ (by omega) p1 pf1).mono ?_; rintro e w2 ⟨rfl, ho2, hc2, hf2⟩; (have hs2 := ho2.size); (have b0' : w2.cell? ⟨wr.heap.size, 0, none⟩ = some (.int .i64 x0) := (ho2.cell (by omega) (by omega)).trans b0); (have b1' : w2.cell? ⟨wr.heap.size, 1, none⟩ = some (.int .i64 x1) := (ho2.cell (by omega) (by omega)).trans b1)))
      go_wp2
      go_roundw
      case rel =>
        have hb2 : Below w.heap.size w1 w2 := ho2.toBelow (by omega) (Nat.le_refl _)
        have hb0 : Below w.heap.size (wr.alloc (Obj.cells #[Value.int IntKind.i64 x0, Value.int IntKind.i64 x1] 23)) w1 := by
          have h9 : w.heap.size ≤ (wr.alloc (Obj.cells #[Value.int IntKind.i64 x0, Value.int IntKind.i64 x1] 23)).heap.size := by simp; omega
          exact Below.mono ⟨hb1.os, hb1.tape, hb1.output, hb1.size, hb1.block⟩ h9
        exact ⟨1, by omega, rfl, by rw [EK.out, ← HEK.out]; exact hc2, hf2, ((hbe.out.alloc (by omega) _).trans hb0).trans hb2, by omega⟩
      case measure => simp [intOf]
    · have hpw : w.heap.size < wr.heap.size := by omega
      have d1 : ¬ w.heap.size = wr.heap.size := by omega
      have d2 : ¬ wr.heap.size = w.heap.size := by omega
      have l1 : w.heap.size < wr.heap.size + 1 := by omega
      have EK : errTo 0 (spChk (x0, x1)) (spChk (x2, x3)) (spChk (x4, x5)) 2 = fst2 (errTo 0 (spChk (x0, x1)) (spChk (x2, x3)) (spChk (x4, x5)) 1) (spChk (x2, x3)) := by simp [errTo]
      have EK := Lib.hid EK
      obtain ⟨ek, hek⟩ : ∃ ek, ek = errTo 0 (spChk (x0, x1)) (spChk (x2, x3)) (spChk (x4, x5)) 1 := ⟨_, rfl⟩
      rw [← hek] at hc
      have HEK := Lib.hid hek; clear hek
      have q0 : (wr.alloc (Obj.cells #[Value.int IntKind.i64 x2, Value.int IntKind.i64 x3] 23)).cell? ⟨wr.heap.size, 0, none⟩ = some (.int .i64 x2) := by simp [go_sem]
      have q1 : (wr.alloc (Obj.cells #[Value.int IntKind.i64 x2, Value.int IntKind.i64 x3] 23)).cell? ⟨wr.heap.size, 1, none⟩ = some (.int .i64 x3) := by simp [go_sem]
      have q2 : (wr.alloc (Obj.cells #[Value.int IntKind.i64 x2, Value.int IntKind.i64 x3] 23)).cell? ⟨w.heap.size, 0, none⟩ = some (.int .i64 ek) := by simp [go_sem, *]
      have q3 : (wr.alloc (Obj.cells #[Value.int IntKind.i64 x2, Value.int IntKind.i64 x3] 23)).frozen? ⟨w.heap.size, 0, none⟩ = false := by simp [go_sem, *]
      go_wp2_with (fail)
      go_region_held3 (fun w' => w'.cell? ⟨wr.heap.size, 0, none⟩ = some (.int .i64 x2) ∧ w'.cell? ⟨wr.heap.size, 1, none⟩ = some (.int .i64 x3)) (go_keep) (first | (go_at_call 76; refine (c_spanCheck x2 x3 _).mono ?_; rintro e w1 ⟨rfl, hb1⟩; (have hs1 : wr.heap.size + 1 ≤ w1.heap.size := by have := hb1.size; simpa using this); (have b0 : w1.cell? ⟨wr.heap.size, 0, none⟩ = some (.int .i64 x2) := (hb1.cell (p := ⟨wr.heap.size, 0, none⟩) (by simp)).trans q0); (have b1 : w1.cell? ⟨wr.heap.size, 1, none⟩ = some (.int .i64 x3) := (hb1.cell (p := ⟨wr.heap.size, 1, none⟩) (by simp)).trans q1); (have p1 : w1.cell? ⟨w.heap.size, 0, none⟩ = some (.int .i64 ek) := (hb1.cell (p := ⟨w.heap.size, 0, none⟩) (by simp; omega)).trans q2); (have pf1 : w1.frozen? ⟨w.heap.size, 0, none⟩ = false := ((bcell hb1).2 w.heap.size 0 (by simp; omega)).trans q3)) | (go_at_call 120; refine (c_take6 w.heap.size _ _ ek _ _ (by omega) p1 pf1).mono ?_; rintro e w2 ⟨rfl, ho2, hc2, hf2⟩; (have hs2 := ho2.size); (have b0' : w2.cell? ⟨wr.heap.size, 0, none⟩ = some (.int .i64 x2) := (ho2.cell (by omega) (by omega)).trans b0); (have b1' : w2.cell? ⟨wr.heap.size, 1, none⟩ = some (.int .i64 x3) := (ho2.cell (by omega) (by omega)).trans b1)))
      go_wp2
      go_roundw
      case rel =>
        have hb2 : Below w.heap.size w1 w2 := ho2.toBelow (by omega) (Nat.le_refl _)
        have hb0 : Below w.heap.size (wr.alloc (Obj.cells #[Value.int IntKind.i64 x2, Value.int IntKind.i64 x3] 23)) w1 := by
          have h9 : w.heap.size ≤ (wr.alloc (Obj.cells #[Value.int IntKind.i64 x2, Value.int IntKind.i64 x3] 23)).heap.size := by simp; omega
          exact Below.mono ⟨hb1.os, hb1.tape, hb1.output, hb1.size, hb1.block⟩ h9
        exact ⟨2, by omega, rfl, by rw [EK.out, ← HEK.out]; exact hc2, hf2, ((hbe.out.alloc (by omega) _).trans hb0).trans hb2, by omega⟩
      case measure => simp [intOf]
    · have hpw : w.heap.size < wr.heap.size := by omega
      have d1 : ¬ w.heap.size = wr.heap.size := by omega
      have d2 : ¬ wr.heap.size = w.heap.size := by omega
      have l1 : w.heap.size < wr.heap.size + 1 := by omega
      have EK : errTo 0 (spChk (x0, x1)) (spChk (x2, x3)) (spChk (x4, x5)) 3 = fst2 (errTo 0 (spChk (x0, x1)) (spChk (x2, x3)) (spChk (x4, x5)) 2) (spChk (x4, x5)) := by simp [errTo]
      have EK := Lib.hid EK
      obtain ⟨ek, hek⟩ : ∃ ek, ek = errTo 0 (spChk (x0, x1)) (spChk (x2, x3)) (spChk (x4, x5)) 2 := ⟨_, rfl⟩
      rw [← hek] at hc
      have HEK := Lib.hid hek; clear hek
      have q0 : (wr.alloc (Obj.cells #[Value.int IntKind.i64 x4, Value.int IntKind.i64 x5] 23)).cell? ⟨wr.heap.size, 0, none⟩ = some (.int .i64 x4) := by simp [go_sem]
      have q1 : (wr.alloc (Obj.cells #[Value.int IntKind.i64 x4, Value.int IntKind.i64 x5] 23)).cell? ⟨wr.heap.size, 1, none⟩ = some (.int .i64 x5) := by simp [go_sem]
      have q2 : (wr.alloc (Obj.cells #[Value.int IntKind.i64 x4, Value.int IntKind.i64 x5] 23)).cell? ⟨w.heap.size, 0, none⟩ = some (.int .i64 ek) := by simp [go_sem, *]
      have q3 : (wr.alloc (Obj.cells #[Value.int IntKind.i64 x4, Value.int IntKind.i64 x5] 23)).frozen? ⟨w.heap.size, 0, none⟩ = false := by simp [go_sem, *]
      go_wp2_with (fail)
      go_region_held3 (fun w' => w'.cell? ⟨wr.heap.size, 0, none⟩ = some (.int .i64 x4) ∧ w'.cell? ⟨wr.heap.size, 1, none⟩ = some (.int .i64 x5)) (go_keep) (first | (go_at_call 76; refine (c_spanCheck x4 x5 _).mono ?_; rintro e w1 ⟨rfl, hb1⟩; (have hs1 : wr.heap.size + 1 ≤ w1.heap.size := by have := hb1.size; simpa using this); (have b0 : w1.cell? ⟨wr.heap.size, 0, none⟩ = some (.int .i64 x4) := (hb1.cell (p := ⟨wr.heap.size, 0, none⟩) (by simp)).trans q0); (have b1 : w1.cell? ⟨wr.heap.size, 1, none⟩ = some (.int .i64 x5) := (hb1.cell (p := ⟨wr.heap.size, 1, none⟩) (by simp)).trans q1); (have p1 : w1.cell? ⟨w.heap.size, 0, none⟩ = some (.int .i64 ek) := (hb1.cell (p := ⟨w.heap.size, 0, none⟩) (by simp; omega)).trans q2); (have pf1 : w1.frozen? ⟨w.heap.size, 0, none⟩ = false := ((bcell hb1).2 w.heap.size 0 (by simp; omega)).trans q3)) | (go_at_call 120; refine (c_take6 w.heap.size _ _ ek _ _ (by omega) p1 pf1).mono ?_; rintro e w2 ⟨rfl, ho2, hc2, hf2⟩; (have hs2 := ho2.size); (have b0' : w2.cell? ⟨wr.heap.size, 0, none⟩ = some (.int .i64 x4) := (ho2.cell (by omega) (by omega)).trans b0); (have b1' : w2.cell? ⟨wr.heap.size, 1, none⟩ = some (.int .i64 x5) := (ho2.cell (by omega) (by omega)).trans b1)))
      go_wp2
      go_roundw
      case rel =>
        have hb2 : Below w.heap.size w1 w2 := ho2.toBelow (by omega) (Nat.le_refl _)
        have hb0 : Below w.heap.size (wr.alloc (Obj.cells #[Value.int IntKind.i64 x4, Value.int IntKind.i64 x5] 23)) w1 := by
          have h9 : w.heap.size ≤ (wr.alloc (Obj.cells #[Value.int IntKind.i64 x4, Value.int IntKind.i64 x5] 23)).heap.size := by simp; omega
          exact Below.mono ⟨hb1.os, hb1.tape, hb1.output, hb1.size, hb1.block⟩ h9
        exact ⟨3, by omega, rfl, by rw [EK.out, ← HEK.out]; exact hc2, hf2, ((hbe.out.alloc (by omega) _).trans hb0).trans hb2, by omega⟩
      case measure => simp [intOf]
    · go_wp2_with (fail)
      refine rounds_step _ ?_
      intro _ _
      go_wp2_with (fail)
      go_ret
      exact ⟨rfl, hbe.out, by omega, hc, hf⟩

end Go.Proofs.Ytpdaigenffecmaa

namespace Go.Proofs.Ytpdaigenffecmaa

abbrev W16 : Nat := 65536

/-- The number that n digits to the base 2^16 tell. -/
def v16 (f : Nat → Nat) : Nat → Nat
  | 0 => 0
  | k + 1 => v16 f k + f k * W16 ^ k

theorem v16_congr {f g : Nat → Nat} : ∀ {k : Nat}, (∀ j, j < k → f j = g j) → v16 f k = v16 g k
  | 0, _ => rfl
  | k + 1, h => by unfold v16; rw [v16_congr (k := k) (fun j hj => h j (by omega)), h k (by omega)]

def upd (h : Nat → Nat) (j x : Nat) : Nat → Nat := fun i => if i = j then x else h i

theorem v16_upd (h : Nat → Nat) (j x : Nat) : ∀ n, j < n → v16 (upd h j x) n + h j * W16 ^ j = v16 h n + x * W16 ^ j
  | 0, hj => by omega
  | n + 1, hj => by
    unfold v16
    by_cases e : j = n
    · subst e
      rw [v16_congr (f := upd h j x) (g := h) (fun i hi => by unfold upd; rw [if_neg (by omega)])]
      simp only [upd, if_true]; omega
    · have := v16_upd h j x n (by omega)
      have e2 : upd h j x n = h n := by unfold upd; rw [if_neg (by omega)]
      rw [e2]; omega

theorem v16_zero (n : Nat) : v16 (fun _ => 0) n = 0 := by
  induction n with
  | zero => rfl
  | succ n ih => unfold v16; rw [ih]; simp

theorem v16_lt (f : Nat → Nat) (hf : ∀ j, f j < W16) : ∀ k, v16 f k < W16 ^ k
  | 0 => by simp [v16]
  | k + 1 => by
    have h := v16_lt f hf k
    have h2 : f k + 1 ≤ W16 := hf k
    unfold v16
    calc v16 f k + f k * W16 ^ k < W16 ^ k + f k * W16 ^ k := by omega
      _ = (f k + 1) * W16 ^ k := by rw [Nat.add_mul]; omega
      _ ≤ W16 * W16 ^ k := Nat.mul_le_mul_right _ h2
      _ = W16 ^ (k + 1) := by rw [Nat.pow_succ, Nat.mul_comm]

/-- The digits of a number. -/
def dig (N j : Nat) : Nat := N / W16 ^ j % W16
theorem dig_lt (N j : Nat) : dig N j < W16 := Nat.mod_lt _ (by decide)
theorem v16_dig (N : Nat) : ∀ k, v16 (dig N) k = N % W16 ^ k
  | 0 => by simp [v16, Nat.mod_one]
  | k + 1 => by
    unfold v16
    rw [v16_dig N k, Nat.pow_succ, Nat.mod_mul, Nat.mul_comm (dig N k)]; rfl


theorem div_of_pow (N k : Nat) : N / W16 ^ (k + 1) = N / W16 ^ k / W16 := by rw [Nat.pow_succ, Nat.div_div_eq_div_mul]

/-- What the digits from s on tell, from the top: one more digit. -/
theorem v16_top (f : Nat → Nat) (hf : ∀ j, f j < W16) (L s : Nat) (hs : s ≤ L) : v16 f L % W16 ^ s = v16 f s := by
  obtain ⟨k, rfl⟩ : ∃ k, L = s + k := ⟨L - s, by omega⟩
  clear hs
  induction k with
  | zero => exact Nat.mod_eq_of_lt (v16_lt f hf s)
  | succ k ih =>
    show (v16 f (s + k) + f (s + k) * W16 ^ (s + k)) % W16 ^ s = _
    rw [Nat.pow_add, show f (s + k) * (W16 ^ s * W16 ^ k) = W16 ^ s * (f (s + k) * W16 ^ k) by ac_rfl, Nat.add_mul_mod_self_left, ih]

theorem v16_div (f : Nat → Nat) (hf : ∀ j, f j < W16) (L s : Nat) (hs : s < L) : v16 f L / W16 ^ s = v16 f L / W16 ^ (s + 1) * W16 + f s := by
  have h1 := v16_top f hf L s (by omega)
  have h2 := v16_top f hf L (s + 1) (by omega)
  have h3 := Nat.div_add_mod (v16 f L) (W16 ^ s)
  have h4 := Nat.div_add_mod (v16 f L) (W16 ^ (s + 1))
  rw [h1] at h3; rw [h2] at h4
  have hp : 0 < W16 ^ s := Nat.pow_pos (by decide)
  have e : v16 f (s + 1) = v16 f s + f s * W16 ^ s := rfl
  rw [e] at h4
  have e2 : W16 ^ (s + 1) * (v16 f L / W16 ^ (s + 1)) = W16 ^ s * (v16 f L / W16 ^ (s + 1) * W16) := by rw [Nat.pow_succ]; ac_rfl
  rw [e2] at h4
  have h5 : W16 ^ s * (v16 f L / W16 ^ s) = W16 ^ s * (v16 f L / W16 ^ (s + 1) * W16 + f s) := by
    rw [Nat.mul_add, Nat.mul_comm (W16 ^ s) (f s)]; omega
  exact Nat.eq_of_mul_eq_mul_left hp h5

theorem v16_eq_zero (f : Nat → Nat) : ∀ k, v16 f k = 0 ↔ ∀ j, j < k → f j = 0
  | 0 => by simp [v16]
  | k + 1 => by
    unfold v16
    have h := v16_eq_zero f k
    have hp : 0 < W16 ^ k := Nat.pow_pos (by decide)
    constructor
    · intro e
      have e1 : v16 f k = 0 := by omega
      have e2 : f k * W16 ^ k = 0 := by omega
      have e3 : f k = 0 := by rcases Nat.mul_eq_zero.1 e2 with e | e <;> omega
      intro j hj
      by_cases hjk : j = k
      · subst hjk; exact e3
      · exact h.1 e1 j (by omega)
    · intro e
      rw [h.2 (fun j hj => e j (by omega)), e k (by omega)]; simp

end Go.Proofs.Ytpdaigenffecmaa

namespace Go.Proofs.Ytpdaigenffecmaa

/-- A size with its sign, as the reference puts it. -/
def rput (neg : Bool) (n : Nat) (rest up : Bool) : Int × Bool :=
  let m := if rest && (up != neg) then n + 1 else n
  if 4503599627370496 < m then (0, false) else (if neg then -(m : Int) else m, true)

theorem rput_big (neg : Bool) (n : Nat) (rest up : Bool) (h : 4503599627370496 < n) : rput neg n rest up = (0, false) := by
  unfold rput; simp only; rw [if_pos]; split <;> omega

theorem rput_sgnd (neg up : Bool) (N d : Nat) :
    rput neg (N / d) (decide (0 < N % d)) up = ((sgnd neg (quoN N d (!(up == neg))).1 (quoN N d (!(up == neg))).2).1, decide ((sgnd neg (quoN N d (!(up == neg))).1 (quoN N d (!(up == neg))).2).2 = 0)) := by
  unfold rput sgnd quoN
  generalize N / d = q
  generalize N % d = r
  rcases Nat.lt_or_ge 4503599627370496 q with h | h
  · rw [if_pos h]
    have e : 4503599627370496 < (if (decide (0 < r) && (up != neg)) = true then q + 1 else q) := by split <;> omega
    simp only [if_pos e]
    rfl
  · rw [if_neg (show ¬ 4503599627370496 < q by omega)]
    rcases Nat.eq_zero_or_pos r with h0 | h0
    · subst h0
      have e : ¬ 4503599627370496 < q := by omega
      cases neg <;> cases up <;> simp [e]
    · rcases Nat.lt_or_ge q 4503599627370496 with e | e
      · have e1 : ¬ 4503599627370496 < q := by omega
        have e2 : ¬ 4503599627370496 < q + 1 := by omega
        cases neg <;> cases up <;> simp [h0, e1, e2]
      · have e1 : q = 4503599627370496 := by omega
        have h1 : (0 < r) = True := eq_true h0
        have h2 : decide (0 < r) = true := by simp [h0]
        subst e1
        cases neg <;> cases up <;> simp only [h1, h2, Bool.true_and, and_true, true_and] <;> decide

/-- The reference's product. -/
def rMul (a b : Int) (up : Bool) : Int × Bool := rput (!(decide (a < 0) == decide (b < 0))) (a.natAbs * b.natAbs / 4294967296) (decide (0 < a.natAbs * b.natAbs % 4294967296)) up
def rDiv (a b : Int) (up : Bool) : Int × Bool := rput (!(decide (a < 0) == decide (b < 0))) (a.natAbs * 4294967296 / b.natAbs) (decide (0 < a.natAbs * 4294967296 % b.natAbs)) up

theorem bnot_beq (up neg : Bool) : (!(up == !neg)) = (up == neg) := by cases up <;> cases neg <;> rfl

theorem rMul_eq (a b : Int) (up : Bool) (ha : fxChk a = 0) (hb : fxChk b = 0) : rMul a b up = ((fxMul a b up).1, decide ((fxMul a b up).2 = 0)) := by
  have h : fxAll a b = 0 := by unfold fxAll; rw [if_pos ha]; exact hb
  unfold rMul fxMul; rw [rput_sgnd, if_pos h, ← sgnd_mul]

theorem rDiv_eq (a b : Int) (up : Bool) (ha : fxChk a = 0) (hb : fxChk b = 0) (h0 : b ≠ 0) : rDiv a b up = ((fxDiv a b up).1, decide ((fxDiv a b up).2 = 0)) := by
  have h : fxAll a b = 0 := by unfold fxAll; rw [if_pos ha]; exact hb
  unfold rDiv fxDiv; rw [rput_sgnd, if_pos h, if_neg h0, ← sgnd_div a b up h0]

/-- x y / 2^32 from parts of 26 bits. -/
theorem parts_mul (x y : Nat) : x * y = (x / 67108864) * (y / 67108864) * 4503599627370496 + ((x / 67108864) * (y % 67108864) + (x % 67108864) * (y / 67108864)) * 67108864 + (x % 67108864) * (y % 67108864) := by
  have hx := Nat.div_add_mod x 67108864
  have hy := Nat.div_add_mod y 67108864
  generalize x / 67108864 = p at *
  generalize x % 67108864 = q at *
  generalize y / 67108864 = r at *
  generalize y % 67108864 = s at *
  subst hx; subst hy
  simp only [Nat.add_mul, Nat.mul_add]
  have e1 : 67108864 * p * (67108864 * r) = p * r * 4503599627370496 := by
    rw [show 67108864 * p * (67108864 * r) = (67108864 * 67108864) * (p * r) by ac_rfl, Nat.mul_comm]
  have e2 : q * (67108864 * r) = q * r * 67108864 := by ac_rfl
  have e3 : 67108864 * p * s = p * s * 67108864 := by ac_rfl
  omega

end Go.Proofs.Ytpdaigenffecmaa

namespace Go.Proofs.Ytpdaigenffecmaa

/-- A result of the reference; ErrBig if it is no interval. -/
def spRes (lo hi : Int) (fits : Bool) : Int × Int × Int := if fits = true ∧ spChk (lo, hi) = 0 then (lo, hi, 0) else (0, 0, 6)

theorem spRes_told (lo hi : Int) (h : lo ≤ hi) : spRes lo hi true = spTold lo hi := by
  unfold spRes spTold spChk
  by_cases e : lo < -4503599627370496 ∨ 4503599627370496 < hi
  · rw [if_pos e, if_neg]
    simp only
    rw [if_pos (by omega)]; simp
  · rw [if_neg e, if_pos]
    refine ⟨rfl, ?_⟩
    simp only
    rw [if_neg (by omega)]

theorem spChk_parts (a b : Int) : spChk (a, b) = 0 ↔ fxChk a = 0 ∧ fxChk b = 0 ∧ a ≤ b := by
  unfold spChk fxChk
  simp only
  constructor
  · intro h; split at h
    · omega
    · rw [if_neg (by omega), if_neg (by omega)]; omega
  · rintro ⟨h1, h2, h3⟩
    split at h1
    · omega
    · split at h2
      · omega
      · rw [if_neg (by omega)]

theorem spAdd_ok (a b : Int × Int) (ha : spChk a = 0) (hb : spChk b = 0) : spAdd a b = spRes (a.1 + b.1) (a.2 + b.2) true := by
  have h1 := spChk_ok ha
  have h2 := spChk_ok hb
  unfold spAdd; rw [if_pos (by unfold spAll; rw [if_pos ha]; exact hb), spRes_told _ _ (by omega)]
theorem spSub_ok (a b : Int × Int) (ha : spChk a = 0) (hb : spChk b = 0) : spSub a b = spRes (a.1 - b.2) (a.2 - b.1) true := by
  have h1 := spChk_ok ha
  have h2 := spChk_ok hb
  unfold spSub; rw [if_pos (by unfold spAll; rw [if_pos ha]; exact hb), spRes_told _ _ (by omega)]
theorem spAll_bad (a b : Int × Int) (h : spChk a ≠ 0 ∨ spChk b ≠ 0) : spAll a b = 20 := by
  rcases spAll_or a b with e | e
  · obtain ⟨e1, e2⟩ := spAll_ok e; omega
  · exact e
theorem spAdd_bad (a b : Int × Int) (h : spChk a ≠ 0 ∨ spChk b ≠ 0) : spAdd a b = (0, 0, 20) := by
  unfold spAdd; rw [if_neg (by rw [spAll_bad a b h]; decide)]
theorem spSub_bad (a b : Int × Int) (h : spChk a ≠ 0 ∨ spChk b ≠ 0) : spSub a b = (0, 0, 20) := by
  unfold spSub; rw [if_neg (by rw [spAll_bad a b h]; decide)]
theorem spMul_bad (a b : Int × Int) (h : spChk a ≠ 0 ∨ spChk b ≠ 0) : spMul a b = (0, 0, 20) := by
  unfold spMul; rw [if_neg (by rw [spAll_bad a b h]; decide)]
theorem spDiv_bad (a b : Int × Int) (h : spChk a ≠ 0 ∨ spChk b ≠ 0) : spDiv a b = (0, 0, 20) := by
  unfold spDiv; rw [if_neg (by rw [spAll_bad a b h]; decide)]
theorem spNeg_ok (a : Int × Int) (ha : spChk a = 0) : spNeg a = (-a.2, -a.1, 0) := by
  have h1 := spChk_ok ha
  unfold spNeg spTold; rw [if_pos ha, if_neg (by omega)]
theorem spNeg_bad (a : Int × Int) (h : spChk a ≠ 0) : spNeg a = (0, 0, 20) := by
  unfold spNeg; rw [if_neg h]
theorem spSqrt_bad (a : Int × Int) (h : spChk a ≠ 0) : spSqrt a = (0, 0, 20) := by
  unfold spSqrt; rw [if_neg h]
theorem spSqrt_arg (a : Int × Int) (h : spChk a = 0) (h0 : a.1 < 0) : spSqrt a = (0, 0, 2) := by
  unfold spSqrt; rw [if_pos h, if_pos h0]
theorem rt_le (a : Int) (up : Bool) (h0 : 0 ≤ a) (h : a ≤ 4503599627370496) : 0 ≤ rt a up ∧ rt a up ≤ 4398046511104 := by
  unfold rt
  have := rtN_small a.toNat up (by omega)
  omega
theorem spSqrt_ok (a : Int × Int) (h : spChk a = 0) (h0 : 0 ≤ a.1) : spSqrt a = (rt a.1 false, rt a.2 true, 0) := by
  have h1 := spChk_ok h
  have r1 := rt_le a.1 false h0 (by omega)
  have r2 := rt_le a.2 true (by omega) (by omega)
  unfold spSqrt spTold; rw [if_pos h, if_neg (by omega), if_neg (by omega)]

end Go.Proofs.Ytpdaigenffecmaa

namespace Go.Proofs.Ytpdaigenffecmaa

/-- A power, rounded, as the reference reckons it: m + 1 factors. -/
def rpw (v m : Nat) (up : Bool) : Nat := v ^ (m + 1) / W16 ^ (2 * m) + if up = true ∧ v ^ (m + 1) % W16 ^ (2 * m) ≠ 0 then 1 else 0

theorem rpw_zero (m : Nat) (up : Bool) : rpw 0 m up = 0 := by
  unfold rpw; rw [Nat.zero_pow (by omega)]; simp

theorem rpw_le (v m : Nat) : rpw v m false ≤ rpw v m true ∧ rpw v m true ≤ rpw v m false + 1 := by
  unfold rpw; simp only [Bool.false_eq_true, false_and, if_false, true_and]; split <;> omega

theorem ceil_eq (P D : Nat) (hD : 0 < D) : P / D + (if P % D ≠ 0 then 1 else 0) = (P + (D - 1)) / D := by
  have h := Nat.div_add_mod P D
  have h2 := Nat.mod_lt P hD
  generalize P / D = q at *
  generalize P % D = r at *
  split
  · symm
    refine (Nat.div_eq_of_lt_le ?_ ?_)
    · rw [Nat.add_mul, Nat.mul_comm q D]; omega
    · rw [Nat.add_mul, Nat.add_mul, Nat.mul_comm q D]; omega
  · symm
    refine (Nat.div_eq_of_lt_le ?_ ?_)
    · rw [Nat.add_zero, Nat.mul_comm q D]; omega
    · rw [Nat.add_zero, Nat.add_mul, Nat.mul_comm q D]; omega

theorem rpw_mono {v u : Nat} (m : Nat) (up : Bool) (h : v ≤ u) : rpw v m up ≤ rpw u m up := by
  have hp : v ^ (m + 1) ≤ u ^ (m + 1) := Nat.pow_le_pow_left h _
  have hD : 0 < W16 ^ (2 * m) := Nat.pow_pos (by decide)
  cases up
  · unfold rpw; simp only [Bool.false_eq_true, false_and, if_false]
    exact Nat.div_le_div_right hp
  · unfold rpw; simp only [true_and]
    rw [ceil_eq _ _ hD, ceil_eq _ _ hD]
    exact Nat.div_le_div_right (by omega)

theorem D_eq (m : Nat) : 4294967296 ^ m = W16 ^ (2 * m) := by
  rw [show (4294967296 : Nat) = W16 ^ 2 by decide, ← Nat.pow_mul]

theorem pwS_rpw (v : Int) (m : Nat) : pwS v (m + 1) =
    if 4503599627370496 < rpw v.natAbs m false then (0, 0, 6) else
    if v < 0 ∧ (m + 1) % 2 = 1 then (-(rpw v.natAbs m true : Int), -(rpw v.natAbs m false : Int), 0) else ((rpw v.natAbs m false : Int), (rpw v.natAbs m true : Int), 0) := by
  unfold pwS rpw
  simp only [Nat.add_sub_cancel, D_eq, Bool.false_eq_true, false_and, if_false, true_and, Nat.add_zero]
  by_cases h : v.natAbs ^ (m + 1) % W16 ^ (2 * m) = 0
  · simp [h]
  · simp [h]

/-- The reference's power of a number, rounded; whether it fits. -/
def rzDir (v : Int) (m : Nat) (up : Bool) : Bool := if v < 0 ∧ (m + 1) % 2 = 1 then !up else up
def rz (v : Int) (m : Nat) (up : Bool) : Int := if v < 0 ∧ (m + 1) % 2 = 1 then -(rpw v.natAbs m (!up) : Int) else (rpw v.natAbs m up : Int)
def rzf (v : Int) (m : Nat) (up : Bool) : Bool := decide (rpw v.natAbs m (rzDir v m up) ≤ 4503599627370496)

/-- The lower end as the reference takes it. -/
def rzLo (a b : Int) (m : Nat) : Int := if (m + 1) % 2 = 0 ∧ a < 0 ∧ 0 < b then 0 else min (rz a m false) (rz b m false)

theorem all_fit {a b : Int} {m : Nat} : (rzf a m false && rzf b m false && rzf a m true && rzf b m true) = true ↔ rpw a.natAbs m true ≤ 4503599627370496 ∧ rpw b.natAbs m true ≤ 4503599627370496 := by
  have ha := rpw_le a.natAbs m
  have hb := rpw_le b.natAbs m
  unfold rzf rzDir
  simp only [Bool.and_eq_true, decide_eq_true_eq]
  by_cases h1 : a < 0 ∧ (m + 1) % 2 = 1 <;> by_cases h2 : b < 0 ∧ (m + 1) % 2 = 1
  · simp only [if_pos h1, if_pos h2, Bool.not_false, Bool.not_true]; omega
  · simp only [if_pos h1, if_neg h2, Bool.not_false, Bool.not_true]; omega
  · simp only [if_neg h1, if_pos h2, Bool.not_false, Bool.not_true]; omega
  · simp only [if_neg h1, if_neg h2]; omega

theorem spPow_ref_ok (al ah : Int) (m : Nat) (h : spChk (al, ah) = 0) (hm : m ≤ 15) (hf : (rzf al m false && rzf ah m false && rzf al m true && rzf ah m true) = true) :
    spPow (al, ah) ((m : Int) + 1) = spRes (rzLo al ah m) (max (rz al m true) (rz ah m true)) true := by
  obtain ⟨f1, f2⟩ := all_fit.1 hf
  obtain ⟨h1, h2, h3⟩ := spChk_ok h
  simp only at h1 h2 h3
  have ha := rpw_le al.natAbs m
  have hb := rpw_le ah.natAbs m
  by_cases ho : (m + 1) % 2 = 1
  · rw [show ((m : Int) + 1) = ((m + 1 : Nat) : Int) by simp, spPow_odd _ _ h (by omega) ho]
    rw [pwS_rpw, pwS_rpw]
    simp only
    rw [if_neg (show ¬ 4503599627370496 < rpw al.natAbs m false by omega), if_neg (show ¬ 4503599627370496 < rpw ah.natAbs m false by omega)]
    unfold rzLo rz
    rw [if_neg (show ¬ ((m + 1) % 2 = 0 ∧ al < 0 ∧ 0 < ah) by omega)]
    by_cases e1 : al < 0 <;> by_cases e2 : ah < 0
    · have hm1 := rpw_mono m true (show ah.natAbs ≤ al.natAbs by omega)
      have hm2 := rpw_mono m false (show ah.natAbs ≤ al.natAbs by omega)
      simp only [if_pos (show al < 0 ∧ (m + 1) % 2 = 1 from ⟨e1, ho⟩), if_pos (show ah < 0 ∧ (m + 1) % 2 = 1 from ⟨e2, ho⟩), Bool.not_false, Bool.not_true]
      rw [Int.min_eq_left (by omega), Int.max_eq_right (by omega), spRes_told _ _ (by omega), spPowOf_ok _ _ rfl rfl]
    · have n2 : ¬ (ah < 0 ∧ (m + 1) % 2 = 1) := by omega
      simp only [if_pos (show al < 0 ∧ (m + 1) % 2 = 1 from ⟨e1, ho⟩), if_neg n2, Bool.not_false, Bool.not_true]
      rw [Int.min_eq_left (by omega), Int.max_eq_right (by omega), spRes_told _ _ (by omega), spPowOf_ok _ _ rfl rfl]
    · omega
    · have hm1 := rpw_mono m true (show al.natAbs ≤ ah.natAbs by omega)
      have hm2 := rpw_mono m false (show al.natAbs ≤ ah.natAbs by omega)
      have n1 : ¬ (al < 0 ∧ (m + 1) % 2 = 1) := by omega
      have n2 : ¬ (ah < 0 ∧ (m + 1) % 2 = 1) := by omega
      simp only [if_neg n1, if_neg n2]
      rw [Int.min_eq_left (by omega), Int.max_eq_right (by omega), spRes_told _ _ (by omega), spPowOf_ok _ _ rfl rfl]
  · have ho2 : (m + 1) % 2 = 0 := by omega
    rw [show ((m : Int) + 1) = ((m + 1 : Nat) : Int) by simp, spPow_even _ _ h (by omega) (by omega) ho2]
    have eL : 0 ≤ abLo (al, ah) := by unfold abLo; simp only; omega
    have eH : 0 ≤ abHi (al, ah) := by unfold abHi; simp only; omega
    have eHa : (abHi (al, ah)).natAbs = max al.natAbs ah.natAbs := by unfold abHi; simp only; omega
    have uH : rpw (abHi (al, ah)).natAbs m true = max (rpw al.natAbs m true) (rpw ah.natAbs m true) := by
      rw [eHa]
      rcases Nat.le_total al.natAbs ah.natAbs with e | e
      · have := rpw_mono m true e; rw [Nat.max_eq_right e]; omega
      · have := rpw_mono m true e; rw [Nat.max_eq_left e]; omega
    have hbb := rpw_le (abHi (al, ah)).natAbs m
    have hLH : (abLo (al, ah)).natAbs ≤ (abHi (al, ah)).natAbs := by unfold abLo abHi; simp only; omega
    have mm := rpw_mono m false hLH
    have eLo : rzLo al ah m = (rpw (abLo (al, ah)).natAbs m false : Int) := by
      unfold rzLo rz
      simp only [ho, and_false, if_false, ho2, true_and]
      split
      · have : abLo (al, ah) = 0 := by unfold abLo; simp only; omega
        rw [this]; simp [rpw_zero]
      · rename_i hs
        rcases Nat.le_total al.natAbs ah.natAbs with e | e
        · have h4 := rpw_mono m false e
          have : (abLo (al, ah)).natAbs = al.natAbs := by unfold abLo; simp only; omega
          rw [this]; omega
        · have h4 := rpw_mono m false e
          have : (abLo (al, ah)).natAbs = ah.natAbs := by unfold abLo; simp only; omega
          rw [this]; omega
    have eHi : max (rz al m true) (rz ah m true) = (rpw (abHi (al, ah)).natAbs m true : Int) := by
      unfold rz; simp only [ho, and_false, if_false]; omega
    rw [eLo, eHi, spRes_told _ _ (by omega), pwS_rpw, pwS_rpw, if_neg (by omega), if_neg (by omega), if_neg (by omega), if_neg (by omega), spPowOf_ok _ _ rfl rfl]

theorem spPow_ref_bad (al ah : Int) (m : Nat) (h : spChk (al, ah) = 0) (hm : m ≤ 15) (hf : (rzf al m false && rzf ah m false && rzf al m true && rzf ah m true) = false) :
    spPow (al, ah) ((m : Int) + 1) = (0, 0, 6) := by
  have hf' : ¬ (rpw al.natAbs m true ≤ 4503599627370496 ∧ rpw ah.natAbs m true ≤ 4503599627370496) := fun h2 => by
    rw [all_fit.2 h2] at hf; cases hf
  obtain ⟨h1, h2, h3⟩ := spChk_ok h
  simp only at h1 h2 h3
  have ha := rpw_le al.natAbs m
  have hb := rpw_le ah.natAbs m
  have told_big : ∀ lo hi : Int, lo < -4503599627370496 ∨ 4503599627370496 < hi → spTold lo hi = (0, 0, 6) := fun lo hi hh => by unfold spTold; rw [if_pos hh]
  by_cases ho : (m + 1) % 2 = 1
  · rw [show ((m : Int) + 1) = ((m + 1 : Nat) : Int) by simp, spPow_odd _ _ h (by omega) ho]
    rw [pwS_rpw, pwS_rpw]
    simp only [ho, and_true]
    by_cases g1 : 4503599627370496 < rpw al.natAbs m false
    · rw [if_pos g1]; exact spPowOf_bad _ _ (.inl (by decide))
    · by_cases g2 : 4503599627370496 < rpw ah.natAbs m false
      · rw [if_pos g2]; exact spPowOf_bad _ _ (.inr (by decide))
      · rw [if_neg g1, if_neg g2]
        by_cases e1 : al < 0 <;> by_cases e2 : ah < 0
        · have hm1 := rpw_mono m true (show ah.natAbs ≤ al.natAbs by omega)
          rw [if_pos e1, if_pos e2, spPowOf_ok _ _ rfl rfl]; exact told_big _ _ (by simp only; omega)
        · rw [if_pos e1, if_neg e2, spPowOf_ok _ _ rfl rfl]; exact told_big _ _ (by simp only; omega)
        · omega
        · have hm1 := rpw_mono m true (show al.natAbs ≤ ah.natAbs by omega)
          rw [if_neg e1, if_neg e2, spPowOf_ok _ _ rfl rfl]; exact told_big _ _ (by simp only; omega)
  · have ho2 : (m + 1) % 2 = 0 := by omega
    rw [show ((m : Int) + 1) = ((m + 1 : Nat) : Int) by simp, spPow_even _ _ h (by omega) (by omega) ho2]
    have eL : 0 ≤ abLo (al, ah) := by unfold abLo; simp only; omega
    have eH : 0 ≤ abHi (al, ah) := by unfold abHi; simp only; omega
    have g : 4503599627370496 < rpw (abHi (al, ah)).natAbs m true := by
      have e1 := rpw_mono m true (show al.natAbs ≤ (abHi (al, ah)).natAbs by unfold abHi; simp only; omega)
      have e2 := rpw_mono m true (show ah.natAbs ≤ (abHi (al, ah)).natAbs by unfold abHi; simp only; omega)
      omega
    rw [pwS_rpw, pwS_rpw]
    by_cases g1 : 4503599627370496 < rpw (abLo (al, ah)).natAbs m false
    · rw [if_pos g1]; exact spPowOf_bad _ _ (.inl (by decide))
    · by_cases g2 : 4503599627370496 < rpw (abHi (al, ah)).natAbs m false
      · rw [if_pos g2]; exact spPowOf_bad _ _ (.inr (by decide))
      · rw [if_neg g1, if_neg g2, if_neg (by omega), if_neg (by omega), spPowOf_ok _ _ rfl rfl]
        exact told_big _ _ (by simp only; omega)

end Go.Proofs.Ytpdaigenffecmaa

namespace Go.Proofs.Ytpdaigenffecmaa

/-- What 'four' makes of four lower and four upper ends. -/
def spFourRes (l0 l1 l2 l3 h0 h1 h2 h3 : Int) (fits : Bool) : Int × Int × Int := spRes (min l0 (min l1 (min l2 l3))) (max h0 (max h1 (max h2 h3))) fits

theorem rnd_le (n d : Int) (hd : 0 < d) : rnd n d false ≤ rnd n d true := by
  unfold rnd
  simp only [if_true, Bool.false_eq_true, if_false]
  have h1 := Int.mul_ediv_add_emod n d
  have h2 := Int.mul_ediv_add_emod (-n) d
  have h3 := Int.emod_nonneg n (show d ≠ 0 by omega)
  have h4 := Int.emod_nonneg (-n) (show d ≠ 0 by omega)
  rcases Int.lt_or_le (-((-n) / d)) (n / d) with h | h
  · exfalso
    have h5 : d * 1 ≤ d * (n / d + (-n) / d) := Int.mul_le_mul_of_nonneg_left (by omega) (by omega)
    rw [Int.mul_add] at h5
    omega
  · exact h

theorem fit_ok {r : Int} (h : (fit r).2 = 0) : (fit r).1 = r := by
  unfold fit at h ⊢; split at h
  · simp at h
  · rename_i e; rw [if_neg e]

theorem fxMul_le (a b : Int) (h1 : (fxMul a b false).2 = 0) (h2 : (fxMul a b true).2 = 0) : (fxMul a b false).1 ≤ (fxMul a b true).1 := by
  unfold fxMul at h1 h2 ⊢
  split at h1
  · rename_i e
    rw [if_pos e] at h2
    rw [if_pos e, if_pos e, fit_ok h1, fit_ok h2]
    exact rnd_le _ _ (by omega)
  · simp at h1

theorem fxDiv_le (a b : Int) (h1 : (fxDiv a b false).2 = 0) (h2 : (fxDiv a b true).2 = 0) : (fxDiv a b false).1 ≤ (fxDiv a b true).1 := by
  unfold fxDiv at h1 h2 ⊢
  split at h1
  · rename_i e
    rw [if_pos e] at h2
    rw [if_pos e, if_pos e]
    split at h1
    · simp at h1
    · rename_i e0
      rw [if_neg e0] at h2
      rw [if_neg e0, if_neg e0, fit_ok h1, fit_ok h2]
      exact rnd_le _ _ (by omega)
  · simp at h1

/-- The four rounds' word that all fits. -/
def allFit (k0 k1 k2 k3 g0 g1 g2 g3 : Bool) : Bool := ((((((((true && k0) && g0) && k1) && g1) && k2) && g2) && k3) && g3)

theorem four_eq (f : Int → Int → Bool → Int × Int) (hf : ∀ a b, (f a b false).2 = 0 → (f a b true).2 = 0 → (f a b false).1 ≤ (f a b true).1) (al ah bl bh : Int) :
    spFour f (al, ah) (bl, bh) = spFourRes (f al bl false).1 (f al bh false).1 (f ah bl false).1 (f ah bh false).1 (f al bl true).1 (f al bh true).1 (f ah bl true).1 (f ah bh true).1
      (allFit (decide ((f al bl false).2 = 0)) (decide ((f al bh false).2 = 0)) (decide ((f ah bl false).2 = 0)) (decide ((f ah bh false).2 = 0)) (decide ((f al bl true).2 = 0)) (decide ((f al bh true).2 = 0)) (decide ((f ah bl true).2 = 0)) (decide ((f ah bh true).2 = 0))) := by
  unfold spFour spFourRes allFit
  simp only
  have hm := hf al bl
  split
  · rename_i h
    unfold spRes
    rw [if_neg]
    simp only [Bool.true_and, Bool.and_eq_true, decide_eq_true_eq, not_and]
    intro h2
    omega
  · rename_i h
    have e : (true && decide ((f al bl false).2 = 0) && decide ((f al bl true).2 = 0) && decide ((f al bh false).2 = 0) && decide ((f al bh true).2 = 0) && decide ((f ah bl false).2 = 0) && decide ((f ah bl true).2 = 0) && decide ((f ah bh false).2 = 0) && decide ((f ah bh true).2 = 0)) = true := by
      simp only [Bool.true_and, Bool.and_eq_true, decide_eq_true_eq]
      omega
    rw [e, spRes_told]
    · congr 1 <;> omega
    · have := hm (by omega) (by omega)
      omega

theorem spMul_ref (al ah bl bh : Int) (ha : spChk (al, ah) = 0) (hb : spChk (bl, bh) = 0) :
    spMul (al, ah) (bl, bh) = spFourRes (rMul al bl false).1 (rMul al bh false).1 (rMul ah bl false).1 (rMul ah bh false).1 (rMul al bl true).1 (rMul al bh true).1 (rMul ah bl true).1 (rMul ah bh true).1
      (allFit (rMul al bl false).2 (rMul al bh false).2 (rMul ah bl false).2 (rMul ah bh false).2 (rMul al bl true).2 (rMul al bh true).2 (rMul ah bl true).2 (rMul ah bh true).2) := by
  obtain ⟨a1, a2, _⟩ := (spChk_parts al ah).1 ha
  obtain ⟨b1, b2, _⟩ := (spChk_parts bl bh).1 hb
  unfold spMul
  rw [if_pos (by unfold spAll; rw [if_pos ha]; exact hb), four_eq fxMul fxMul_le]
  simp only [rMul_eq _ _ _ a1 b1, rMul_eq _ _ _ a1 b2, rMul_eq _ _ _ a2 b1, rMul_eq _ _ _ a2 b2]

theorem spDiv_zero (a b : Int × Int) (ha : spChk a = 0) (hb : spChk b = 0) (h : b.1 ≤ 0 ∧ 0 ≤ b.2) : spDiv a b = (0, 0, 7) := by
  unfold spDiv
  rw [if_pos (by unfold spAll; rw [if_pos ha]; exact hb), if_pos h]

theorem spDiv_ref (al ah bl bh : Int) (ha : spChk (al, ah) = 0) (hb : spChk (bl, bh) = 0) (h : ¬ (bl ≤ 0 ∧ 0 ≤ bh)) :
    spDiv (al, ah) (bl, bh) = spFourRes (rDiv al bl false).1 (rDiv al bh false).1 (rDiv ah bl false).1 (rDiv ah bh false).1 (rDiv al bl true).1 (rDiv al bh true).1 (rDiv ah bl true).1 (rDiv ah bh true).1
      (allFit (rDiv al bl false).2 (rDiv al bh false).2 (rDiv ah bl false).2 (rDiv ah bh false).2 (rDiv al bl true).2 (rDiv al bh true).2 (rDiv ah bl true).2 (rDiv ah bh true).2) := by
  obtain ⟨a1, a2, _⟩ := (spChk_parts al ah).1 ha
  obtain ⟨b1, b2, b3⟩ := (spChk_parts bl bh).1 hb
  have hl : bl ≠ 0 := by omega
  have hh : bh ≠ 0 := by omega
  unfold spDiv
  rw [if_pos (by unfold spAll; rw [if_pos ha]; exact hb), if_neg h, four_eq fxDiv fxDiv_le]
  simp only [rDiv_eq _ _ _ a1 b1 hl, rDiv_eq _ _ _ a1 b2 hh, rDiv_eq _ _ _ a2 b1 hl, rDiv_eq _ _ _ a2 b2 hh]

end Go.Proofs.Ytpdaigenffecmaa

namespace Go.Proofs.Ytpdaigenffecmaa
open Go.RowKit Go.Shelf

/-- A valid interval without an error, or ErrBig with nothing. -/
def GoodR (r : Int × Int × Int) : Prop := (r.2.2 = 0 ∧ spChk (r.1, r.2.1) = 0) ∨ r = (0, 0, 6)
theorem GoodR.val {r : Int × Int × Int} (h : GoodR r) : spChk (r.1, r.2.1) = 0 := by
  rcases h with h | h
  · exact h.2
  · rw [h]; exact spChk_mk (by decide) (by decide) (by decide)
theorem GoodR.err {r : Int × Int × Int} (h : GoodR r) : r.2.2 = 0 ∨ r.2.2 = 6 := by
  rcases h with h | h
  · exact Or.inl h.1
  · rw [h]; exact Or.inr rfl
theorem spRes_good (lo hi : Int) (b : Bool) : GoodR (spRes lo hi b) := by
  unfold spRes; split
  · rename_i h; exact Or.inl ⟨rfl, h.2⟩
  · exact Or.inr rfl
theorem spAdd_good {a b : Int × Int} (ha : spChk a = 0) (hb : spChk b = 0) : GoodR (spAdd a b) := by rw [spAdd_ok a b ha hb]; exact spRes_good _ _ _
theorem spSub_good {a b : Int × Int} (ha : spChk a = 0) (hb : spChk b = 0) : GoodR (spSub a b) := by rw [spSub_ok a b ha hb]; exact spRes_good _ _ _
theorem spMul_good {a b : Int × Int} (ha : spChk a = 0) (hb : spChk b = 0) : GoodR (spMul a b) := by
  obtain ⟨a1, a2⟩ := a; obtain ⟨b1, b2⟩ := b
  rw [spMul_ref a1 a2 b1 b2 ha hb]; exact spRes_good _ _ _
theorem spSqr_good {a : Int × Int} (h : spChk a = 0) : GoodR (spPow a 2) := by
  obtain ⟨a1, a2⟩ := a
  cases hf : (rzf a1 1 false && rzf a2 1 false && rzf a1 1 true && rzf a2 1 true)
  · exact Or.inr (spPow_ref_bad a1 a2 1 h (by decide) hf)
  · have := spPow_ref_ok a1 a2 1 h (by decide) hf
    rw [show ((1 : Nat) : Int) + 1 = 2 from rfl] at this
    rw [this]; exact spRes_good _ _ _

/-- Nothing beside an error. -/
def NoneR (r : Int × Int × Int) : Prop := r.2.2 ≠ 0 → r = (0, 0, r.2.2)
theorem NoneR.zero {r : Int × Int × Int} (h : r.2.2 = 0) : NoneR r := fun h2 => absurd h h2
theorem spTold_none (lo hi : Int) : NoneR (spTold lo hi) := by unfold NoneR spTold; split <;> simp
theorem spFour_none (f : Int → Int → Bool → Int × Int) (a b : Int × Int) : NoneR (spFour f a b) := by
  unfold spFour; split
  · intro _; rfl
  · exact spTold_none _ _
theorem spAdd_none (a b : Int × Int) : NoneR (spAdd a b) := by
  unfold spAdd; split
  · exact spTold_none _ _
  · intro _; rfl
theorem spSub_none (a b : Int × Int) : NoneR (spSub a b) := by
  unfold spSub; split
  · exact spTold_none _ _
  · intro _; rfl
theorem spMul_none (a b : Int × Int) : NoneR (spMul a b) := by
  unfold spMul; split
  · exact spFour_none _ _ _
  · intro _; rfl
theorem spDiv_none (a b : Int × Int) : NoneR (spDiv a b) := by
  unfold spDiv; split
  · split
    · intro _; rfl
    · exact spFour_none _ _ _
  · intro _; rfl
theorem spSqrt_none (a : Int × Int) : NoneR (spSqrt a) := by
  unfold spSqrt; split
  · split
    · intro _; rfl
    · exact spTold_none _ _
  · intro _; rfl

/-- What a vector's operation answers: the results, or the first error. -/
def vRes (e : Int) (a b c : Int × Int × Int) : Value :=
  if e = 0 then .tuple #[.agg #[.int .i64 a.1, .int .i64 a.2.1, .int .i64 b.1, .int .i64 b.2.1, .int .i64 c.1, .int .i64 c.2.1], .int .i64 0]
  else .tuple #[.agg #[.int .i64 0, .int .i64 0, .int .i64 0, .int .i64 0, .int .i64 0, .int .i64 0], .int .i64 e]
/-- What an operation with an interval's result answers. -/
def iRes (e : Int) (r : Int × Int × Int) : Value :=
  if e = 0 then .tuple #[.agg #[.int .i64 r.1, .int .i64 r.2.1], .int .i64 0] else .tuple #[.agg #[.int .i64 0, .int .i64 0], .int .i64 e]
theorem vRes_form (e : Int) (a b c : Int × Int × Int) : ∃ n0 n1 n2 n3 n4 n5, vRes e a b c = .tuple #[.agg #[.int .i64 n0, .int .i64 n1, .int .i64 n2, .int .i64 n3, .int .i64 n4, .int .i64 n5], .int .i64 e] := by
  unfold vRes; split
  · rename_i h; subst h; exact ⟨_, _, _, _, _, _, rfl⟩
  · exact ⟨_, _, _, _, _, _, rfl⟩
theorem iRes_form (e : Int) (r : Int × Int × Int) : ∃ n0 n1, iRes e r = .tuple #[.agg #[.int .i64 n0, .int .i64 n1], .int .i64 e] := by
  unfold iRes; split
  · rename_i h; subst h; exact ⟨_, _, rfl⟩
  · exact ⟨_, _, rfl⟩

/-- The interval of a result. -/
def ivl (r : Int × Int × Int) : Int × Int := (r.1, r.2.1)
/-- The first error of a sum of three results. -/
def sumE (e0 : Int) (a b c : Int × Int × Int) : Int :=
  fst2 (fst2 (errTo e0 a.2.2 b.2.2 c.2.2 3) (spAdd (ivl a) (ivl b)).2.2) (spAdd (ivl (spAdd (ivl a) (ivl b))) (ivl c)).2.2
/-- The sum of three results. -/
def sum3 (a b c : Int × Int × Int) : Int × Int × Int := spAdd (ivl (spAdd (ivl a) (ivl b))) (ivl c)
/-- The reference's sum of three results. -/
def rThree (a b c : Int × Int × Int) : Int × Int × Int :=
  if errTo 0 a.2.2 b.2.2 c.2.2 3 ≠ 0 then (0, 0, errTo 0 a.2.2 b.2.2 c.2.2 3)
  else if (spAdd (ivl a) (ivl b)).2.2 ≠ 0 then (0, 0, (spAdd (ivl a) (ivl b)).2.2)
  else sum3 a b c
theorem fst2_zero' (a : Int) : fst2 a 0 = a := by unfold fst2; split <;> simp_all
theorem fst2_of {e : Int} (h : e ≠ 0) (a : Int) : fst2 e a = e := fst2_ne e a h
theorem errTo3_of {e : Int} (h : e ≠ 0) (a b c : Int) : errTo e a b c 3 = e := by unfold errTo; simp [fst2_of h]
theorem rThree_eq (a b c : Int × Int × Int) : iRes (sumE 0 a b c) (sum3 a b c) = iRes (rThree a b c).2.2 (rThree a b c) ∧ sumE 0 a b c = (rThree a b c).2.2 := by
  unfold rThree sumE
  by_cases h1 : errTo 0 a.2.2 b.2.2 c.2.2 3 = 0
  · rw [if_neg (by simp [h1])]
    by_cases h2 : (spAdd (ivl a) (ivl b)).2.2 = 0
    · rw [if_neg (by simp [h2]), h1, h2]; exact ⟨by rw [fst2_zero, fst2_zero]; rfl, by rw [fst2_zero, fst2_zero]; rfl⟩
    · rw [if_pos h2, h1, fst2_zero, fst2_of h2]; refine ⟨?_, rfl⟩; unfold iRes; simp [h2]
  · rw [if_pos h1, fst2_of h1, fst2_of h1]; refine ⟨?_, rfl⟩; unfold iRes; simp [h1]

/-- The reference's difference of two products. -/
def rLess (p q : Int × Int × Int) : Int × Int × Int := if fst2 p.2.2 q.2.2 ≠ 0 then (0, 0, fst2 p.2.2 q.2.2) else spSub (ivl p) (ivl q)
theorem cross_eq (p0 p1 p2 q0 q1 q2 : Int × Int × Int) (hp0 : GoodR p0) (hp1 : GoodR p1) (hp2 : GoodR p2) (hq0 : GoodR q0) (hq1 : GoodR q1) (hq2 : GoodR q2) :
    vRes (errTo (errTo (errTo 0 p0.2.2 p1.2.2 p2.2.2 3) q0.2.2 q1.2.2 q2.2.2 3) (spSub (ivl p0) (ivl q0)).2.2 (spSub (ivl p1) (ivl q1)).2.2 (spSub (ivl p2) (ivl q2)).2.2 3)
      (spSub (ivl p0) (ivl q0)) (spSub (ivl p1) (ivl q1)) (spSub (ivl p2) (ivl q2)) =
    vRes (errTo 0 (rLess p0 q0).2.2 (rLess p1 q1).2.2 (rLess p2 q2).2.2 3) (rLess p0 q0) (rLess p1 q1) (rLess p2 q2) := by
  have r0 := (spSub_good (show spChk (ivl p0) = 0 from hp0.val) (show spChk (ivl q0) = 0 from hq0.val)).err
  have r1 := (spSub_good (show spChk (ivl p1) = 0 from hp1.val) (show spChk (ivl q1) = 0 from hq1.val)).err
  have r2 := (spSub_good (show spChk (ivl p2) = 0 from hp2.val) (show spChk (ivl q2) = 0 from hq2.val)).err
  generalize hs0 : spSub (ivl p0) (ivl q0) = s0 at *
  generalize hs1 : spSub (ivl p1) (ivl q1) = s1 at *
  generalize hs2 : spSub (ivl p2) (ivl q2) = s2 at *
  unfold rLess
  rw [hs0, hs1, hs2]
  by_cases hz : p0.2.2 = 0 ∧ q0.2.2 = 0 ∧ p1.2.2 = 0 ∧ q1.2.2 = 0 ∧ p2.2.2 = 0 ∧ q2.2.2 = 0
  · obtain ⟨z0, z1, z2, z3, z4, z5⟩ := hz
    simp [z0, z1, z2, z3, z4, z5, fst2_zero, errTo]
  · have e6 : errTo (errTo 0 p0.2.2 p1.2.2 p2.2.2 3) q0.2.2 q1.2.2 q2.2.2 3 = 6 := by
      rcases hp0.err with a | a <;> rcases hp1.err with b | b <;> rcases hp2.err with c | c <;> rcases hq0.err with d | d <;> rcases hq1.err with e | e <;> rcases hq2.err with f | f <;> simp [a, b, c, d, e, f, errTo, fst2] at hz ⊢
    rw [e6, errTo3_of (by decide)]
    have l0 : (if fst2 p0.2.2 q0.2.2 ≠ 0 then (0, 0, fst2 p0.2.2 q0.2.2) else s0).2.2 = 0 ∨ (if fst2 p0.2.2 q0.2.2 ≠ 0 then (0, 0, fst2 p0.2.2 q0.2.2) else s0).2.2 = 6 := by
      rcases hp0.err with a | a <;> rcases hq0.err with b | b <;> simp [a, b, fst2, r0]
    have l1 : (if fst2 p1.2.2 q1.2.2 ≠ 0 then (0, 0, fst2 p1.2.2 q1.2.2) else s1).2.2 = 0 ∨ (if fst2 p1.2.2 q1.2.2 ≠ 0 then (0, 0, fst2 p1.2.2 q1.2.2) else s1).2.2 = 6 := by
      rcases hp1.err with a | a <;> rcases hq1.err with b | b <;> simp [a, b, fst2, r1]
    have l2 : (if fst2 p2.2.2 q2.2.2 ≠ 0 then (0, 0, fst2 p2.2.2 q2.2.2) else s2).2.2 = 0 ∨ (if fst2 p2.2.2 q2.2.2 ≠ 0 then (0, 0, fst2 p2.2.2 q2.2.2) else s2).2.2 = 6 := by
      rcases hp2.err with a | a <;> rcases hq2.err with b | b <;> simp [a, b, fst2, r2]
    have e7 : errTo 0 (if fst2 p0.2.2 q0.2.2 ≠ 0 then (0, 0, fst2 p0.2.2 q0.2.2) else s0).2.2 (if fst2 p1.2.2 q1.2.2 ≠ 0 then (0, 0, fst2 p1.2.2 q1.2.2) else s1).2.2 (if fst2 p2.2.2 q2.2.2 ≠ 0 then (0, 0, fst2 p2.2.2 q2.2.2) else s2).2.2 3 = 6 := by
      by_cases g0 : fst2 p0.2.2 q0.2.2 = 0
      · by_cases g1 : fst2 p1.2.2 q1.2.2 = 0
        · have g2 : fst2 p2.2.2 q2.2.2 = 6 := by
            rcases hp0.err with a | a <;> rcases hp1.err with b | b <;> rcases hp2.err with c | c <;> rcases hq0.err with d | d <;> rcases hq1.err with e | e <;> rcases hq2.err with f | f <;> simp [a, b, c, d, e, f, fst2] at hz g0 g1 ⊢
          have m2 : (if fst2 p2.2.2 q2.2.2 ≠ 0 then (0, 0, fst2 p2.2.2 q2.2.2) else s2).2.2 = 6 := by simp [g2]
          rw [m2]; rcases l0 with a | a <;> rcases l1 with b | b <;> rw [a, b] <;> simp [errTo, fst2]
        · have g1' : fst2 p1.2.2 q1.2.2 = 6 := by
            rcases hp1.err with b | b <;> rcases hq1.err with e | e <;> simp [b, e, fst2] at g1 ⊢
          have m1 : (if fst2 p1.2.2 q1.2.2 ≠ 0 then (0, 0, fst2 p1.2.2 q1.2.2) else s1).2.2 = 6 := by simp [g1']
          rw [m1]; rcases l0 with a | a <;> rw [a] <;> simp [errTo, fst2]
      · have g0' : fst2 p0.2.2 q0.2.2 = 6 := by
            rcases hp0.err with b | b <;> rcases hq0.err with e | e <;> simp [b, e, fst2] at g0 ⊢
        have m0 : (if fst2 p0.2.2 q0.2.2 ≠ 0 then (0, 0, fst2 p0.2.2 q0.2.2) else s0).2.2 = 6 := by simp [g0']
        rw [m0]; simp [errTo, fst2]
    rw [e7]; rfl

/-- The norm, from the squares. -/
def normE (e0 : Int) (a b c : Int × Int × Int) : Int := fst2 (sumE e0 a b c) (spSqrt (ivl (sum3 a b c))).2.2
def norm3 (a b c : Int × Int × Int) : Int × Int × Int := spSqrt (ivl (sum3 a b c))
def rNorm (a b c : Int × Int × Int) : Int × Int × Int := if (rThree a b c).2.2 ≠ 0 then (0, 0, (rThree a b c).2.2) else spSqrt (ivl (rThree a b c))
theorem rThree_val (a b c : Int × Int × Int) (h : (rThree a b c).2.2 = 0) : rThree a b c = sum3 a b c := by
  unfold rThree at h ⊢
  split
  · rename_i h1; rw [if_pos h1] at h; exact absurd h h1
  · rename_i h1; rw [if_neg h1] at h
    split
    · rename_i h2; rw [if_pos h2] at h; exact absurd h h2
    · rfl
theorem rNorm_eq (a b c : Int × Int × Int) : iRes (normE 0 a b c) (norm3 a b c) = iRes (rNorm a b c).2.2 (rNorm a b c) ∧ normE 0 a b c = (rNorm a b c).2.2 := by
  unfold normE rNorm
  rw [(rThree_eq a b c).2]
  by_cases h : (rThree a b c).2.2 = 0
  · rw [if_neg (by simp [h]), h, fst2_zero, rThree_val a b c h]; exact ⟨rfl, rfl⟩
  · rw [if_pos h, fst2_of h]; refine ⟨?_, rfl⟩; unfold iRes; simp [h]
theorem rNorm_val (a b c : Int × Int × Int) (h : (rNorm a b c).2.2 = 0) : rNorm a b c = norm3 a b c := by
  unfold rNorm at h ⊢
  split
  · rename_i h1; rw [if_pos h1] at h; exact absurd h h1
  · rename_i h1; rw [rThree_val a b c (by simpa using h1)]; rfl

/-- The first error of the components of a vector. -/
theorem chk3_bad {x0 x1 x2 x3 x4 x5 : Int} (h : ¬ (spChk (x0, x1) = 0 ∧ spChk (x2, x3) = 0 ∧ spChk (x4, x5) = 0)) : chk3 0 x0 x1 x2 x3 x4 x5 3 = 20 := by
  unfold chk3 errTo
  rcases spChk_or (x0, x1) with a | a <;> rcases spChk_or (x2, x3) with b | b <;> rcases spChk_or (x4, x5) with c | c <;> simp [a, b, c, fst2] at h ⊢
theorem chk3_ok {x0 x1 x2 x3 x4 x5 : Int} (h : spChk (x0, x1) = 0 ∧ spChk (x2, x3) = 0 ∧ spChk (x4, x5) = 0) : chk3 0 x0 x1 x2 x3 x4 x5 3 = 0 := by
  unfold chk3 errTo; simp [h.1, h.2.1, h.2.2, fst2]
theorem chk3_20 (x0 x1 x2 x3 x4 x5 : Int) : chk3 20 x0 x1 x2 x3 x4 x5 3 = 20 := errTo3_of (by decide) _ _ _
/-- Each of the three intervals is valid. -/
def ok3 (x0 x1 x2 x3 x4 x5 : Int) : Bool := decide (spChk (x0, x1) = 0) && decide (spChk (x2, x3) = 0) && decide (spChk (x4, x5) = 0)
theorem ok3_iff {x0 x1 x2 x3 x4 x5 : Int} : ok3 x0 x1 x2 x3 x4 x5 = true ↔ (spChk (x0, x1) = 0 ∧ spChk (x2, x3) = 0 ∧ spChk (x4, x5) = 0) := by
  unfold ok3; simp [and_assoc]
theorem chk3_of (x0 x1 x2 x3 x4 x5 : Int) : chk3 0 x0 x1 x2 x3 x4 x5 3 = if ok3 x0 x1 x2 x3 x4 x5 = true then 0 else 20 := by
  split
  · rename_i h; exact chk3_ok (ok3_iff.1 h)
  · rename_i h; exact chk3_bad (fun h2 => h (ok3_iff.2 h2))

end Go.Proofs.Ytpdaigenffecmaa
