/-
  The walks of package fix, the third part: the closures, and what package span calls. The square root of a natural number, and how it is found bit by bit: plain numbers. '==' and '!=' at the structs of the program: what the model's operation answers. The walks of package fix, the fourth part: the square root. The plain numbers behind the intervals: what each operation of package span answers, as a triple (lower end, upper end, error). The walks of package span: the tests, sums, differences and negatives.
-/
import Derived.Shelf.Abstract
import Derived.Test.YtpdaigenffecmaaM05
set_option linter.all false
namespace Go.Proofs.Ytpdaigenffecmaa
open Go.RowKit Go.Shelf

theorem enters_multiplied1 : ∀ args w, (callFunc 148 args).run Try.prog w = .ok (.enter 148 args) w := enters_of Try.func148 (by kernel_rfl) rfl
theorem enters_divided1 : ∀ args w, (callFunc 157 args).run Try.prog w = .ok (.enter 157 args) w := enters_of Try.func157 (by kernel_rfl) rfl
theorem enters_root1 : ∀ args w, (callFunc 159 args).run Try.prog w = .ok (.enter 159 args) w := enters_of Try.func159 (by kernel_rfl) rfl

set_option maxHeartbeats 2000000 in
theorem c_multiplied1 (a b : Int) (bp bq : Nat) (away : Bool) (w : World) (ha1 : -4503599627370496 ≤ a) (ha2 : a ≤ 4503599627370496) (hb1 : -4503599627370496 ≤ b) (hb2 : b ≤ 4503599627370496)
    (hp : w.cell? ⟨bp, 0, none⟩ = some (.int .i64 a)) (hq : w.cell? ⟨bq, 0, none⟩ = some (.int .i64 b)) :
    Calls Try.prog 148 #[.bool away, .pointer (some ⟨bp, 0, none⟩), .pointer (some ⟨bq, 0, none⟩)] w fun e w' =>
      e = .returned (.tuple #[.int .u64 ((quoN (a.natAbs * b.natAbs) 4294967296 away).1 : Int), .bool (quoN (a.natAbs * b.natAbs) 4294967296 away).2]) ∧ Below w.heap.size w w' := by
  have lp : bp < w.heap.size := World.block_lt_of_cell? w _ hp
  have lq : bq < w.heap.size := World.block_lt_of_cell? w _ hq
  have hA := Lib.hid ha1; have hA2 := Lib.hid ha2; have hB := Lib.hid hb1; have hB2 := Lib.hid hb2
  clear ha1 ha2 hb1 hb2
  go_enter Try.func148, Try.ntmps148
  go_wp2_with fail
  go_region_held3 (fun w' => w'.cell? ⟨bp, 0, none⟩ = some (.int .i64 a) ∧ w'.cell? ⟨bq, 0, none⟩ = some (.int .i64 b)) (go_keep)
    (first
      | (go_at_call 151; refine (c_size _ _ ?_ ?_).mono ?_; (have := hA.out; have := hB.out; omega); (have := hA2.out; have := hB2.out; omega); rintro e w1 ⟨rfl, rfl⟩)
      | (go_at_call 150; refine (c_product _ _ ?_ ?_ _).mono ?_; (have := hA.out; have := hA2.out; omega); (have := hB.out; have := hB2.out; omega); rintro e w1 ⟨rfl, hb1⟩; have hk : ∀ b o, b < w.heap.size → w1.cell? ⟨b, o, none⟩ = w.cell? ⟨b, o, none⟩ := fun b o h => hb1.cell (p := ⟨b, o, none⟩) h)
      | (go_at_call 149; refine (c_quotient _ 4294967296 _ _ (by omega) (by omega)).mono ?_; rintro e w2 ⟨rfl, hb2⟩; have hk2 : ∀ b o, b < w1.heap.size → w2.cell? ⟨b, o, none⟩ = w1.cell? ⟨b, o, none⟩ := fun b o h => hb2.cell (p := ⟨b, o, none⟩) h; have ls : w.heap.size ≤ w1.heap.size := hb1.size; have lp1 : bp < w1.heap.size := (by omega); have lq1 : bq < w1.heap.size := (by omega)))
  go_wp2
  go_ret2
  have ls : w.heap.size ≤ w1.heap.size := hb1.size
  exact ⟨rfl, (Below.refl _ _).drew.trans (hb1.trans (hb2.mono ls))⟩

set_option maxHeartbeats 2000000 in
theorem c_divided1 (a b : Int) (bp bq : Nat) (away : Bool) (w : World) (ha1 : -4503599627370496 ≤ a) (ha2 : a ≤ 4503599627370496) (hb1 : -4503599627370496 ≤ b) (hb2 : b ≤ 4503599627370496) (hb0 : b ≠ 0)
    (hp : w.cell? ⟨bp, 0, none⟩ = some (.int .i64 a)) (hq : w.cell? ⟨bq, 0, none⟩ = some (.int .i64 b)) :
    Calls Try.prog 157 #[.bool away, .pointer (some ⟨bp, 0, none⟩), .pointer (some ⟨bq, 0, none⟩)] w fun e w' =>
      e = .returned (.tuple #[.int .u64 ((quoN (a.natAbs * 4294967296) b.natAbs away).1 : Int), .bool (quoN (a.natAbs * 4294967296) b.natAbs away).2]) ∧ Below w.heap.size w w' := by
  have lp : bp < w.heap.size := World.block_lt_of_cell? w _ hp
  have lq : bq < w.heap.size := World.block_lt_of_cell? w _ hq
  have hA := Lib.hid ha1; have hA2 := Lib.hid ha2; have hB := Lib.hid hb1; have hB2 := Lib.hid hb2; have hB0 := Lib.hid hb0
  clear ha1 ha2 hb1 hb2 hb0
  go_enter Try.func157, Try.ntmps157
  go_wp2_with fail
  go_region_held3 (fun w' => w'.cell? ⟨bp, 0, none⟩ = some (.int .i64 a) ∧ w'.cell? ⟨bq, 0, none⟩ = some (.int .i64 b)) (go_keep)
    (first
      | (go_at_call 151; refine (c_size _ _ ?_ ?_).mono ?_; (have := hA.out; have := hB.out; omega); (have := hA2.out; have := hB2.out; omega); rintro e w1 ⟨rfl, rfl⟩)
      | (go_at_call 150; refine (c_product _ 4294967296 ?_ ?_ _).mono ?_; (have := hA.out; have := hA2.out; omega); omega; rintro e w1 ⟨rfl, hb1⟩; have hk : ∀ b o, b < w.heap.size → w1.cell? ⟨b, o, none⟩ = w.cell? ⟨b, o, none⟩ := fun b o h => hb1.cell (p := ⟨b, o, none⟩) h)
      | (go_at_call 149; refine (c_quotient _ _ _ _ ?_ ?_).mono ?_; (have := hB0.out; omega); (have := hB.out; have := hB2.out; omega); rintro e w2 ⟨rfl, hb2⟩; have hk2 : ∀ b o, b < w1.heap.size → w2.cell? ⟨b, o, none⟩ = w1.cell? ⟨b, o, none⟩ := fun b o h => hb2.cell (p := ⟨b, o, none⟩) h; have ls : w.heap.size ≤ w1.heap.size := hb1.size; have lp1 : bp < w1.heap.size := (by omega); have lq1 : bq < w1.heap.size := (by omega)))
  go_wp2
  go_ret2
  have ls : w.heap.size ≤ w1.heap.size := hb1.size
  exact ⟨rfl, (Below.refl _ _).drew.trans (hb1.trans (hb2.mono ls))⟩

end Go.Proofs.Ytpdaigenffecmaa

namespace Go.Proofs.Ytpdaigenffecmaa

/-- The square root, rounded down. -/
def isq : Nat → Nat
  | 0 => 0
  | n + 1 => if (isq n + 1) * (isq n + 1) ≤ n + 1 then isq n + 1 else isq n
theorem isq_spec : ∀ n, isq n * isq n ≤ n ∧ n < (isq n + 1) * (isq n + 1)
  | 0 => by simp [isq]
  | n + 1 => by
    obtain ⟨h1, h2⟩ := isq_spec n
    unfold isq
    split
    · rename_i h
      refine ⟨h, ?_⟩
      have e : (isq n + 1 + 1) * (isq n + 1 + 1) = (isq n + 1) * (isq n + 1) + 2 * (isq n + 1) + 1 := by
        simp only [Nat.add_mul, Nat.mul_add]; omega
      omega
    · omega
theorem isq_unique (n r : Nat) (h1 : r * r ≤ n) (h2 : n < (r + 1) * (r + 1)) : isq n = r := by
  obtain ⟨g1, g2⟩ := isq_spec n
  rcases Nat.lt_trichotomy (isq n) r with h | h | h
  · exfalso
    have := Nat.mul_le_mul (show isq n + 1 ≤ r from h) (show isq n + 1 ≤ r from h)
    omega
  · exact h
  · exfalso
    have := Nat.mul_le_mul (show r + 1 ≤ isq n from h) (show r + 1 ≤ isq n from h)
    omega
theorem isq_le (n m : Nat) (h : n < (m + 1) * (m + 1)) : isq n ≤ m := by
  obtain ⟨g1, g2⟩ := isq_spec n
  rcases Nat.lt_or_ge m (isq n) with h3 | h3
  · exfalso
    have := Nat.mul_le_mul (show m + 1 ≤ isq n from h3) (show m + 1 ≤ isq n from h3)
    omega
  · exact h3
theorem isq_mono {n m : Nat} (h : n ≤ m) : isq n ≤ isq m := by
  obtain ⟨g1, g2⟩ := isq_spec m
  exact isq_le n (isq m) (Nat.lt_of_le_of_lt h g2)

/-- The root, rounded up where 'away' says so. -/
def rtN (n : Nat) (away : Bool) : Nat := isq n + (if away = true ∧ isq n * isq n ≠ n then 1 else 0)

/-- What is known of the root when the bits from 'left' on up are found. -/
def RootAt (n r left : Nat) : Prop := (∃ c, r = c * 2 ^ left) ∧ r * r ≤ n ∧ n < (r + 2 ^ left) * (r + 2 ^ left)
theorem RootAt.start (n : Nat) (h : n < 2 ^ 43 * 2 ^ 43) : RootAt n 0 43 := ⟨⟨0, by simp⟩, by omega, by simpa using h⟩
theorem RootAt.done {n r : Nat} (h : RootAt n r 0) : isq n = r := isq_unique n r h.2.1 (by simpa using h.2.2)
theorem RootAt.bit {n r left : Nat} (h : RootAt n r (left + 1)) : r ||| 2 ^ left = r + 2 ^ left := by
  obtain ⟨⟨c, rfl⟩, _⟩ := h
  have e : c * 2 ^ (left + 1) = 2 ^ (left + 1) * c := Nat.mul_comm _ _
  rw [e, Nat.two_pow_add_eq_or_of_lt (Nat.pow_lt_pow_right (by omega) (by omega))]
theorem RootAt.yes {n r left : Nat} (h : RootAt n r (left + 1)) (hs : (r + 2 ^ left) * (r + 2 ^ left) ≤ n) : RootAt n (r + 2 ^ left) left := by
  obtain ⟨⟨c, hc⟩, h1, h2⟩ := h
  refine ⟨⟨2 * c + 1, ?_⟩, hs, ?_⟩
  · rw [hc, Nat.pow_succ, Nat.add_mul, Nat.one_mul]; congr 1; rw [Nat.mul_comm 2 c, Nat.mul_assoc, Nat.mul_comm 2]
  · have e : r + 2 ^ left + 2 ^ left = r + 2 ^ (left + 1) := by rw [Nat.pow_succ]; omega
    rw [e]; exact h2
theorem RootAt.no {n r left : Nat} (h : RootAt n r (left + 1)) (hs : n < (r + 2 ^ left) * (r + 2 ^ left)) : RootAt n r left := by
  obtain ⟨⟨c, hc⟩, h1, h2⟩ := h
  exact ⟨⟨c * 2, by rw [hc, Nat.pow_succ, Nat.mul_assoc, Nat.mul_comm 2]⟩, h1, hs⟩
theorem RootAt.lt {n r left : Nat} (h : RootAt n r left) (hn : n < 8796093022208 * 8796093022208) : r < 8796093022208 := by
  rcases Nat.lt_or_ge r 8796093022208 with h1 | h1
  · exact h1
  · exfalso
    have := Nat.mul_le_mul h1 h1
    exact absurd (Nat.le_trans this h.2.1) (by omega)
theorem RootAt.next_lt {n r left : Nat} (h : RootAt n r (left + 1)) (hl : left ≤ 42) (hn : n < 8796093022208 * 8796093022208) : r + 2 ^ left < 8796093022208 := by
  obtain ⟨⟨c, hc⟩, h1, h2⟩ := h
  have hr : r < 2 ^ 43 := RootAt.lt ⟨⟨c, hc⟩, h1, h2⟩ hn
  -- r is a multiple of 2^(left+1) below 2^43
  have hp : 2 ^ 43 = 2 ^ (42 - left) * 2 ^ (left + 1) := by rw [← Nat.pow_add]; congr 1; omega
  have hcl : c < 2 ^ (42 - left) := by
    rw [hc, hp] at hr
    exact Nat.lt_of_mul_lt_mul_right hr
  have h3 : (c + 1) * 2 ^ (left + 1) ≤ 2 ^ 43 := by rw [hp]; exact Nat.mul_le_mul_right _ hcl
  have h4 : 2 ^ left < 2 ^ (left + 1) := Nat.pow_lt_pow_right (by omega) (by omega)
  rw [Nat.add_mul, Nat.one_mul, ← hc] at h3
  have h5 : (2 : Nat) ^ 43 = 8796093022208 := by decide
  omega

theorem rtN_le (n c : Nat) (up : Bool) (h : n ≤ c * c) : rtN n up ≤ c := by
  obtain ⟨g1, g2⟩ := isq_spec n
  have h1 : isq n ≤ c := isq_le n c (by rw [Nat.add_mul, Nat.mul_add]; omega)
  unfold rtN
  split
  · rename_i hh
    rcases Nat.lt_or_ge (isq n) c with h2 | h2
    · omega
    · exfalso
      have h3 : isq n = c := by omega
      rw [h3] at g1 hh
      exact hh.2 (by omega)
  · omega
theorem rtN_small (a : Nat) (up : Bool) (h : a ≤ 4503599627370496) : rtN (a * 4294967296) up ≤ 4398046511104 := by
  refine rtN_le _ _ up ?_
  have e : 4398046511104 * 4398046511104 = 4503599627370496 * 4294967296 := by decide
  rw [e]
  exact Nat.mul_le_mul_right _ h

end Go.Proofs.Ytpdaigenffecmaa

namespace Go.Proofs.Ytpdaigenffecmaa
open Go

section
variable (w : World)
theorem equalIn_wide (a b c d : Int) : (Op.equalIn 10000 177 (.agg #[.int .u64 a, .int .u64 b]) (.agg #[.int .u64 c, .int .u64 d])).run Try.prog w = .ok ((a == c) && (b == d)) w := by
  have u3 := Try.underlying33
  have a3 := Try.isAgg33
  have z3 := Try.sizeOf33
  have hS : Try.prog.underlying 177 = some (.struct (Try.prog.fieldsOf 177)) := by kernel_rfl
  have hp : Try.prog.stoodInHeld 177 = false := by kernel_rfl
  rw [show (10000 : Nat) = 9999 + 1 from rfl, run_equalIn_agg w 9999 177 _ _ hS hp]
  simp only [Program.fieldsOf, Try.underlying177]
  go_simp
  by_cases h1 : a = c <;> by_cases h2 : b = d <;> simp [h1, h2]
theorem neq_wide (a b c d : Int) : (binOp .neq 177 (.agg #[.int .u64 a, .int .u64 b]) (.agg #[.int .u64 c, .int .u64 d])).run Try.prog w = .ok (.bool (!((a == c) && (b == d)))) w := by
  rw [run_neq_struct, equalIn_wide]; rfl
@[go_sem] theorem guard_wide (op : BinOp) (x y : Operand) (xs ys : Array Value) : (eqGuard op 177 x y (.agg xs) (.agg ys)).run Try.prog w = .ok () w :=
  run_eqGuard_agg w op _ x y xs ys (by kernel_rfl)
/-- Indexing an array of two numbers. -/
@[go_sem] theorem idx2_0 (x y : Int) : (Instr.index 96 (.agg #[.int .i64 x, .int .i64 y]) (.int .i64 0)).run Try.prog w = .ok (.int .i64 x) w := by
  simp only [Instr.index, asIntOf, Sem.run_bind, run_underlying Try.underlying96, Sem.run_pure, Result.andThen_ok]
  simp [part, Try.sizeOf3, Try.isAgg3, go_sem]
@[go_sem] theorem idx2_1 (x y : Int) : (Instr.index 96 (.agg #[.int .i64 x, .int .i64 y]) (.int .i64 1)).run Try.prog w = .ok (.int .i64 y) w := by
  simp only [Instr.index, asIntOf, Sem.run_bind, run_underlying Try.underlying96, Sem.run_pure, Result.andThen_ok]
  simp [part, Try.sizeOf3, Try.isAgg3, go_sem]
end

end Go.Proofs.Ytpdaigenffecmaa

namespace Go.Proofs.Ytpdaigenffecmaa
open Go.RowKit Go.Shelf

set_option maxHeartbeats 2000000 in
theorem c_atMost (n m : Nat) (w : World) :
    Calls Try.prog 160 #[.agg #[.int .u64 (hi64 n), .int .u64 (lo64 n)], .agg #[.int .u64 (hi64 m), .int .u64 (lo64 m)]] w fun e w' =>
      e = .returned (.bool (decide (n ≤ m))) ∧ Below w.heap.size w w' := by
  have hn := hilo n; have hm := hilo m; have ln := lo64_lt n; have lm := lo64_lt m
  have key : decide (n ≤ m) = (decide (hi64 n < hi64 m) || (decide (hi64 n = hi64 m) && decide (lo64 n ≤ lo64 m))) := by
    rw [Bool.eq_iff_iff]; simp; omega
  have K := Lib.hid key
  clear key hn hm ln lm
  revert K
  generalize hi64 n = a
  generalize lo64 n = b
  generalize hi64 m = c
  generalize lo64 m = d
  generalize decide (n ≤ m) = t
  intro K
  go_enter Try.func160, Try.ntmps160
  go_wp2
  all_goals (go_ret; exact ⟨ret_bool (by rw [K.out, Bool.eq_iff_iff]; simp <;> omega), ((Below.refl _ _).alloc (Nat.le_refl _) _).alloc (by simp) _⟩)

set_option maxHeartbeats 2000000 in
theorem c_root1 (S bp : Nat) (away : Bool) (w : World) (hS : S < 8796093022208 * 8796093022208)
    (hp : w.cell? ⟨bp, 0, none⟩ = some (.int .u64 (hi64 S))) (hq : w.cell? ⟨bp, 1, none⟩ = some (.int .u64 (lo64 S))) :
    Calls Try.prog 159 #[.bool away, .pointer (some ⟨bp, 0, none⟩)] w fun e w' =>
      e = .returned (.tuple #[.int .u64 (rtN S away : Int), .bool true]) ∧ Below w.heap.size w w' := by
  have lp : bp < w.heap.size := World.block_lt_of_cell? w _ hp
  have HS := Lib.hid hS; clear hS
  go_enter Try.func159, Try.ntmps159
  go_wp2_with fail
  go_loopw [5, 8] (fun r i wr => ∃ rr k : Nat, r = .int .u64 (rr : Int) ∧ i = .int .i64 (k : Int) ∧ k ≤ 43 ∧ Hid (RootAt S rr (43 - k)) ∧ Below w.heap.size w wr) (fun r i wr => (43 - intOf i).toNat)
  case atStart => exact ⟨0, 0, rfl, rfl, by omega, RootAt.start S HS.out, Below.refl _ _⟩
  case round =>
    obtain ⟨rr, k, rfl, rfl, hk, hR, hB⟩ := hrel
    rcases Nat.lt_or_ge k 43 with hlt | hge
    · have hlt' : (k : Int) < 43 := by omega
      have hlt'' : decide ((k : Int) < 43) = true := by simp; omega
      obtain ⟨p, hp0⟩ : ∃ p, p = 2 ^ (42 - k) := ⟨_, rfl⟩
      have hR' : RootAt S rr ((42 - k) + 1) := by have := hR.out; rw [show 43 - k = 42 - k + 1 by omega] at this; exact this
      have hbit := hR'.bit
      have hnl := hR'.next_lt (by omega) HS.out
      rw [← hp0] at hbit hnl
      obtain ⟨nx, hnx⟩ : ∃ nx, nx = rr + p := ⟨_, rfl⟩
      rw [← hnx] at hbit hnl
      have e1 : IntKind.u64.wrap (2 ^ (42 - k)) = (p : Int) := by
        have h1 : p < 18446744073709551616 := by omega
        rw [← M64.wrapN p h1, hp0]; simp
      have e2 : bits .or .u64 (rr : Int) (p : Int) = (nx : Int) := by rw [bits_or_u64_nat rr p (by omega) (by omega), hbit]
      have Hp := Lib.hid hp0; have Hnx := Lib.hid hnx; have Hnl := Lib.hid hnl; have HR := Lib.hid hR'
      clear hp0 hnx hnl hbit hR' hlt hR
      have c0 : wr.cell? ⟨bp, 0, none⟩ = some (.int .u64 (hi64 S)) := (hB.cell (p := ⟨bp, 0, none⟩) lp).trans hp
      have c1 : wr.cell? ⟨bp, 1, none⟩ = some (.int .u64 (lo64 S)) := (hB.cell (p := ⟨bp, 1, none⟩) lp).trans hq
      have lw : w.heap.size ≤ wr.heap.size := hB.size
      have lpr : bp < wr.heap.size := by omega
      go_wp2_with fail
      go_region_held3 (fun w' => w'.cell? ⟨bp, 0, none⟩ = some (.int .u64 (hi64 S)) ∧ w'.cell? ⟨bp, 1, none⟩ = some (.int .u64 (lo64 S))) (go_keep)
        (first
          | (go_at_call 150; refine (c_product _ _ ?_ ?_ _).mono ?_; (have := Hnl.out; omega); (have := Hnl.out; omega); rintro e w1 ⟨rfl, hb1⟩; have hk : ∀ b o, b < wr.heap.size → w1.cell? ⟨b, o, none⟩ = wr.cell? ⟨b, o, none⟩ := fun b o h => hb1.cell (p := ⟨b, o, none⟩) h)
          | (go_at_call 160; refine (c_atMost _ _ _).mono ?_; rintro e w2 ⟨rfl, hb2⟩; have hk2 : ∀ b o, b < w1.heap.size → w2.cell? ⟨b, o, none⟩ = w1.cell? ⟨b, o, none⟩ := fun b o h => hb2.cell (p := ⟨b, o, none⟩) h; have ls : wr.heap.size ≤ w1.heap.size := hb1.size; have lp1 : bp < w1.heap.size := (by omega)))
      have ls : wr.heap.size ≤ w1.heap.size := hb1.size
      have ls2 : w1.heap.size ≤ w2.heap.size := hb2.size
      have hB2 : Below w.heap.size w w2 := hB.trans ((Below.refl _ _).drew.trans ((hb1.mono (show w.heap.size ≤ wr.drew.heap.size from lw)).trans (hb2.mono (by omega))))
      rcases Nat.lt_or_ge S (nx * nx) with hc | hc
      · have hc' : decide (nx * nx ≤ S) = false := by simp; omega
        go_wp2
        go_roundw
        case rel => exact ⟨rr, k + 1, rfl, by go_num, by omega, by rw [show 43 - (k + 1) = 42 - k by omega]; exact HR.out.no (by rw [← Hp.out, ← Hnx.out]; exact hc), hB2⟩
        case measure => simp [intOf]; omega
      · have hc' : decide (nx * nx ≤ S) = true := by simp; omega
        go_wp2
        go_roundw
        case rel => exact ⟨nx, k + 1, rfl, by go_num, by omega, by rw [show 43 - (k + 1) = 42 - k by omega, Hnx.out, Hp.out]; exact HR.out.yes (by rw [← Hp.out, ← Hnx.out]; exact hc), hB2⟩
        case measure => simp [intOf]; omega
    · obtain rfl : k = 43 := by omega
      have hr := hR.out.done
      have hr2 := isq_le S 8796093022207 HS.out
      have c0 : wr.cell? ⟨bp, 0, none⟩ = some (.int .u64 (hi64 S)) := (hB.cell (p := ⟨bp, 0, none⟩) lp).trans hp
      have c1 : wr.cell? ⟨bp, 1, none⟩ = some (.int .u64 (lo64 S)) := (hB.cell (p := ⟨bp, 1, none⟩) lp).trans hq
      have lw : w.heap.size ≤ wr.heap.size := hB.size
      have lpr : bp < wr.heap.size := by omega
      rw [hr] at hr2
      have hrt : Hid (rtN S away = rr + (if away = true ∧ rr * rr ≠ S then 1 else 0)) := by unfold Hid rtN; rw [hr]
      clear hr hR
      cases away with
      | false =>
        go_wp2
        go_quiet (fail)
        go_wp2
        go_ret2
        exact ⟨by rw [hrt.out]; simp, below_drewN hB _⟩
      | true =>
        have hbe : ((hi64 (rr * rr) == hi64 S) && (lo64 (rr * rr) == lo64 S)) = decide (rr * rr = S) := by
          have h1 := hilo (rr * rr); have h2 := hilo S
          rw [Bool.eq_iff_iff]
          simp only [Bool.and_eq_true, beq_iff_eq, decide_eq_true_eq]
          constructor
          · rintro ⟨e1, e2⟩; rw [e1, e2] at h1; omega
          · intro e; rw [e]; exact ⟨rfl, rfl⟩
        obtain ⟨t, ht⟩ : ∃ t, t = !decide (rr * rr = S) := ⟨_, rfl⟩
        have hne : ∀ w, (binOp .neq 177 (.agg #[.int .u64 (hi64 (rr * rr)), .int .u64 (lo64 (rr * rr))]) (.agg #[.int .u64 (hi64 S), .int .u64 (lo64 S)])).run Try.prog w = .ok (.bool t) w := by
          intro w
          rw [neq_wide, ht, ← hbe]
          congr 3
          rw [Bool.eq_iff_iff]; simp; omega
        have Hbe := Lib.hid hbe; clear hbe
        have Ht := Lib.hid ht; clear ht
        go_wp2_with fail
        go_region_held3 (fun w' => w'.cell? ⟨bp, 0, none⟩ = some (.int .u64 (hi64 S)) ∧ w'.cell? ⟨bp, 1, none⟩ = some (.int .u64 (lo64 S))) (go_keep)
          (first
            | (go_at_call 150; refine (c_product _ _ ?_ ?_ _).mono ?_; omega; omega; rintro e w1 ⟨rfl, hb1⟩; have hk : ∀ b o, b < wr.heap.size → w1.cell? ⟨b, o, none⟩ = wr.cell? ⟨b, o, none⟩ := fun b o h => hb1.cell (p := ⟨b, o, none⟩) h))
        have hB2 : Below w.heap.size w w1 := hB.trans ((Below.refl _ _).drew.trans (hb1.mono (show w.heap.size ≤ wr.drew.heap.size from lw)))
        cases t with
        | false =>
          have hh : rr * rr = S := by simpa using Ht.out.symm
          have Hh := Lib.hid hh; clear hh
          go_wp2
          go_ret2
          exact ⟨by rw [hrt.out]; simp [Hh.out], hB2⟩
        | true =>
          have hh : rr * rr ≠ S := by simpa using Ht.out.symm
          have Hh := Lib.hid hh; clear hh
          go_wp2
          go_ret2
          exact ⟨by rw [hrt.out]; simp [Hh.out], hB2⟩

theorem fxAll_ok {a b : Int} (h : fxAll a b = 0) : fxChk a = 0 ∧ fxChk b = 0 := by
  unfold fxAll at h; split at h
  · exact ⟨by assumption, h⟩
  · contradiction
theorem fxAll_bad {a b : Int} (h : fxAll a b ≠ 0) : fxAll a b = 2 := by
  unfold fxAll fxChk at *; split at h <;> split at h <;> simp_all

set_option maxHeartbeats 1000000 in
theorem c_multiplied (a b : Int) (up : Bool) (w : World) :
    Calls Try.prog 137 #[.int .i64 a, .int .i64 b, .bool up] w fun e w' =>
      e = .returned (.tuple #[.int .i64 (fxMul a b up).1, .int .i64 (fxMul a b up).2]) ∧ Below w.heap.size w w' := by
  rcases Decidable.em (fxAll a b = 0) with h | h
  · have hs : Hid (fxMul a b up = sgnd (!(decide (a < 0) == decide (b < 0))) (quoN (a.natAbs * b.natAbs) 4294967296 (!(up == !(decide (a < 0) == decide (b < 0))))).1 (quoN (a.natAbs * b.natAbs) 4294967296 (!(up == !(decide (a < 0) == decide (b < 0))))).2) := by
      unfold Hid fxMul; rw [if_pos h, sgnd_mul]
    have hab := fxAll_ok h
    have ra := Lib.hid (fxChk_ok hab.1); have rb := Lib.hid (fxChk_ok hab.2)
    have h' : (fxAll a b != 0) = false := by simp [h]
    clear h hab
    go_enter Try.func137, Try.ntmps137
    go_wp2_with (first | (go_at_call 146; refine (c_fixAll a b _ _ ?_ ?_).mono ?_; go_simp; go_simp; rintro e w' ⟨rfl, rfl⟩) | (go_at_call 147; refine (c_signed2 _ _ _ _ _ _ _ _ enters_multiplied1 (c_multiplied1 a b _ _ _ _ ra.out.1 ra.out.2 rb.out.1 rb.out.2 ?_ ?_)).mono ?_; go_simp; go_simp; rintro e w1 ⟨rfl, hb1⟩))
    go_ret2
    exact ⟨by rw [hs.out]; rfl, ((((Below.refl _ _).alloc (Nat.le_refl _) _).alloc (by simp) _).alloc (by simp; omega) _).trans (hb1.mono (by simp; omega))⟩
  · have hs : Hid (fxMul a b up = (0, 2)) := by unfold Hid fxMul; rw [if_neg h]
    have h2 := fxAll_bad h
    have h' : (fxAll a b != 0) = true := by simp [h]
    clear h
    go_enter Try.func137, Try.ntmps137
    go_wp2_with (first | (go_at_call 146; refine (c_fixAll a b _ _ ?_ ?_).mono ?_; go_simp; go_simp; rintro e w' ⟨rfl, rfl⟩))
    go_ret2
    exact ⟨by rw [hs.out]; rfl, (((Below.refl _ _).alloc (Nat.le_refl _) _).alloc (by simp) _).alloc (by simp; omega) _⟩

set_option maxHeartbeats 1000000 in
theorem c_divided (a b : Int) (up : Bool) (w : World) :
    Calls Try.prog 143 #[.int .i64 a, .int .i64 b, .bool up] w fun e w' =>
      e = .returned (.tuple #[.int .i64 (fxDiv a b up).1, .int .i64 (fxDiv a b up).2]) ∧ Below w.heap.size w w' := by
  rcases Decidable.em (fxAll a b = 0) with h | h
  · have hab := fxAll_ok h
    have ra := Lib.hid (fxChk_ok hab.1); have rb := Lib.hid (fxChk_ok hab.2)
    have h' : (fxAll a b != 0) = false := by simp [h]
    rcases Decidable.em (b = 0) with h0 | h0
    · have hs : Hid (fxDiv a b up = (0, 7)) := by unfold Hid fxDiv; rw [if_pos h, if_pos h0]
      subst h0
      clear h hab
      go_enter Try.func143, Try.ntmps143
      go_wp2_with (first | (go_at_call 146; refine (c_fixAll a 0 _ _ ?_ ?_).mono ?_; go_simp; go_simp; rintro e w' ⟨rfl, rfl⟩))
      go_ret2
      exact ⟨by rw [hs.out]; rfl, (((Below.refl _ _).alloc (Nat.le_refl _) _).alloc (by simp) _).alloc (by simp; omega) _⟩
    · have hs : Hid (fxDiv a b up = sgnd (!(decide (a < 0) == decide (b < 0))) (quoN (a.natAbs * 4294967296) b.natAbs (!(up == !(decide (a < 0) == decide (b < 0))))).1 (quoN (a.natAbs * 4294967296) b.natAbs (!(up == !(decide (a < 0) == decide (b < 0))))).2) := by
        unfold Hid fxDiv; rw [if_pos h, if_neg h0, sgnd_div a b up h0]
      have h0' : (b == 0) = false := by simp [h0]
      have H0 := Lib.hid h0
      clear h hab h0
      go_enter Try.func143, Try.ntmps143
      go_wp2_with (first | (go_at_call 146; refine (c_fixAll a b _ _ ?_ ?_).mono ?_; go_simp; go_simp; rintro e w' ⟨rfl, rfl⟩) | (go_at_call 147; refine (c_signed2 _ _ _ _ _ _ _ _ enters_divided1 (c_divided1 a b _ _ _ _ ra.out.1 ra.out.2 rb.out.1 rb.out.2 H0.out ?_ ?_)).mono ?_; go_simp; go_simp; rintro e w1 ⟨rfl, hb1⟩))
      go_ret2
      exact ⟨by rw [hs.out]; rfl, ((((Below.refl _ _).alloc (Nat.le_refl _) _).alloc (by simp) _).alloc (by simp; omega) _).trans (hb1.mono (by simp; omega))⟩
  · have hs : Hid (fxDiv a b up = (0, 2)) := by unfold Hid fxDiv; rw [if_neg h]
    have h2 := fxAll_bad h
    have h' : (fxAll a b != 0) = true := by simp [h]
    clear h
    go_enter Try.func143, Try.ntmps143
    go_wp2_with (first | (go_at_call 146; refine (c_fixAll a b _ _ ?_ ?_).mono ?_; go_simp; go_simp; rintro e w' ⟨rfl, rfl⟩))
    go_ret2
    exact ⟨by rw [hs.out]; rfl, (((Below.refl _ _).alloc (Nat.le_refl _) _).alloc (by simp) _).alloc (by simp; omega) _⟩

/-- The square root, rounded; or the error. -/
def fxRoot (a : Int) (up : Bool) : Int × Int := if 0 ≤ a ∧ a ≤ 4503599627370496 then ((rtN (a.toNat * 4294967296) up : Nat), 0) else (0, 2)

set_option maxHeartbeats 1000000 in
theorem c_root (a : Int) (up : Bool) (w : World) :
    Calls Try.prog 144 #[.int .i64 a, .bool up] w fun e w' =>
      e = .returned (.tuple #[.int .i64 (fxRoot a up).1, .int .i64 (fxRoot a up).2]) ∧ Below w.heap.size w w' := by
  rcases Decidable.em (fxChk a = 0) with hc | hc
  · have hc' : (fxChk a != 0) = false := by simp [hc]
    have hr := fxChk_ok hc
    rcases Int.lt_or_le a 0 with h | h
    · have hs : Hid (fxRoot a up = (0, 2)) := by unfold Hid fxRoot; rw [if_neg (by omega)]
      have h' : decide (a < 0) = true := by simp [h]
      clear hr hc
      go_enter Try.func144, Try.ntmps144
      go_wp2_with (first
        | (go_at_call 158; refine (c_fixCheck _ _).mono ?_; rintro e w' ⟨rfl, rfl⟩))
      go_ret2
      exact ⟨by rw [hs.out]; rfl, Below.refl _ _⟩
    · obtain ⟨n, rfl⟩ : ∃ n : Nat, a = n := ⟨a.toNat, by omega⟩
      have hn : n ≤ 4503599627370496 := by omega
      have hsm := rtN_small n up hn
      have hs : Hid (fxRoot n up = sgnd false (rtN (n * 4294967296) up) true) := by
        unfold Hid fxRoot sgnd; rw [if_pos ⟨h, hr.2⟩, if_neg (by simp; omega)]; simp
      have h0 : decide ((n : Int) < 0) = false := by simp
      have hS : Hid (n * 4294967296 < 8796093022208 * 8796093022208) := by unfold Hid; omega
      have hN := Lib.hid hn
      have hw : IntKind.u64.wrap (n : Int) = (n : Int) := M64.wrapN n (by omega)
      clear h hsm hn hr hc
      go_enter Try.func144, Try.ntmps144
      go_wp2_with (first
        | (go_at_call 158; refine (c_fixCheck _ _).mono ?_; rintro e w' ⟨rfl, rfl⟩)
        | (go_at_call 150; refine (c_product n 4294967296 ?_ ?_ _).mono ?_; (have := hN.out; omega); omega; rintro e w1 ⟨rfl, hb1⟩)
        | (go_at_call 147; refine (c_signed1 _ _ _ _ _ _ _ enters_root1 (c_root1 (n * 4294967296) _ _ _ hS.out ?_ ?_)).mono ?_; go_simp; go_simp; rintro e w2 ⟨rfl, hb2⟩))
      go_ret2
      exact ⟨by rw [hs.out]; rfl, (hb1.alloc hb1.size _).trans (hb2.mono (by have := hb1.size; simp; omega))⟩
  · have hc' : (fxChk a != 0) = true := by simp [hc]
    have hs : Hid (fxRoot a up = (0, 2)) := by
      unfold Hid fxRoot; rw [if_neg]; intro h; exact hc (fxChk_mk (by omega) h.2)
    clear hc
    go_enter Try.func144, Try.ntmps144
    go_wp2_with (first
      | (go_at_call 158; refine (c_fixCheck _ _).mono ?_; rintro e w' ⟨rfl, rfl⟩))
    go_ret2
    exact ⟨by rw [hs.out]; rfl, Below.refl _ _⟩

set_option maxHeartbeats 400000 in
theorem c_MulDown (a b : Int) (w : World) :
    Calls Try.prog 111 #[.int .i64 a, .int .i64 b] w fun e w' =>
      e = .returned (.tuple #[.int .i64 (fxMul a b false).1, .int .i64 (fxMul a b false).2]) ∧ Below w.heap.size w w' := by
  go_enter Try.func111, Try.ntmps111
  go_wp2_with (go_at_call 137; refine (c_multiplied _ _ _ _).mono ?_; rintro e w1 ⟨rfl, hb1⟩)
  go_ret2
  exact ⟨rfl, hb1⟩

set_option maxHeartbeats 400000 in
theorem c_MulUp (a b : Int) (w : World) :
    Calls Try.prog 112 #[.int .i64 a, .int .i64 b] w fun e w' =>
      e = .returned (.tuple #[.int .i64 (fxMul a b true).1, .int .i64 (fxMul a b true).2]) ∧ Below w.heap.size w w' := by
  go_enter Try.func112, Try.ntmps112
  go_wp2_with (go_at_call 137; refine (c_multiplied _ _ _ _).mono ?_; rintro e w1 ⟨rfl, hb1⟩)
  go_ret2
  exact ⟨rfl, hb1⟩

set_option maxHeartbeats 400000 in
theorem c_DivDown (a b : Int) (w : World) :
    Calls Try.prog 131 #[.int .i64 a, .int .i64 b] w fun e w' =>
      e = .returned (.tuple #[.int .i64 (fxDiv a b false).1, .int .i64 (fxDiv a b false).2]) ∧ Below w.heap.size w w' := by
  go_enter Try.func131, Try.ntmps131
  go_wp2_with (go_at_call 143; refine (c_divided _ _ _ _).mono ?_; rintro e w1 ⟨rfl, hb1⟩)
  go_ret2
  exact ⟨rfl, hb1⟩

set_option maxHeartbeats 400000 in
theorem c_DivUp (a b : Int) (w : World) :
    Calls Try.prog 132 #[.int .i64 a, .int .i64 b] w fun e w' =>
      e = .returned (.tuple #[.int .i64 (fxDiv a b true).1, .int .i64 (fxDiv a b true).2]) ∧ Below w.heap.size w w' := by
  go_enter Try.func132, Try.ntmps132
  go_wp2_with (go_at_call 143; refine (c_divided _ _ _ _).mono ?_; rintro e w1 ⟨rfl, hb1⟩)
  go_ret2
  exact ⟨rfl, hb1⟩

set_option maxHeartbeats 400000 in
theorem c_SqrtDown (a : Int) (w : World) :
    Calls Try.prog 133 #[.int .i64 a] w fun e w' =>
      e = .returned (.tuple #[.int .i64 (fxRoot a false).1, .int .i64 (fxRoot a false).2]) ∧ Below w.heap.size w w' := by
  go_enter Try.func133, Try.ntmps133
  go_wp2_with (go_at_call 144; refine (c_root _ _ _).mono ?_; rintro e w1 ⟨rfl, hb1⟩)
  go_ret2
  exact ⟨rfl, hb1⟩

set_option maxHeartbeats 400000 in
theorem c_SqrtUp (a : Int) (w : World) :
    Calls Try.prog 134 #[.int .i64 a] w fun e w' =>
      e = .returned (.tuple #[.int .i64 (fxRoot a true).1, .int .i64 (fxRoot a true).2]) ∧ Below w.heap.size w w' := by
  go_enter Try.func134, Try.ntmps134
  go_wp2_with (go_at_call 144; refine (c_root _ _ _).mono ?_; rintro e w1 ⟨rfl, hb1⟩)
  go_ret2
  exact ⟨rfl, hb1⟩

end Go.Proofs.Ytpdaigenffecmaa

namespace Go.Proofs.Ytpdaigenffecmaa

/-- 0 for a valid interval, else ErrSpan. -/
def spChk (a : Int × Int) : Int := if a.1 < -4503599627370496 ∨ a.2 < a.1 ∨ 4503599627370496 < a.2 then 20 else 0
theorem spChk_ok {a : Int × Int} (h : spChk a = 0) : -4503599627370496 ≤ a.1 ∧ a.1 ≤ a.2 ∧ a.2 ≤ 4503599627370496 := by
  unfold spChk at h; split at h
  · omega
  · omega
theorem spChk_mk {a : Int × Int} (h1 : -4503599627370496 ≤ a.1) (h2 : a.1 ≤ a.2) (h3 : a.2 ≤ 4503599627370496) : spChk a = 0 := by
  unfold spChk; rw [if_neg (by omega)]
theorem spChk_or (a : Int × Int) : spChk a = 0 ∨ spChk a = 20 := by unfold spChk; split <;> simp
/-- The first error of two intervals. -/
def spAll (a b : Int × Int) : Int := if spChk a = 0 then spChk b else spChk a
theorem spAll_ok {a b : Int × Int} (h : spAll a b = 0) : spChk a = 0 ∧ spChk b = 0 := by
  unfold spAll at h; split at h
  · exact ⟨by assumption, h⟩
  · contradiction
theorem spAll_or (a b : Int × Int) : spAll a b = 0 ∨ spAll a b = 20 := by unfold spAll; split <;> exact spChk_or _
/-- An interval of a result, or ErrBig. -/
def spTold (lo hi : Int) : Int × Int × Int := if lo < -4503599627370496 ∨ 4503599627370496 < hi then (0, 0, 6) else (lo, hi, 0)
def spAdd (a b : Int × Int) : Int × Int × Int := if spAll a b = 0 then spTold (a.1 + b.1) (a.2 + b.2) else (0, 0, 20)
def spSub (a b : Int × Int) : Int × Int × Int := if spAll a b = 0 then spTold (a.1 - b.2) (a.2 - b.1) else (0, 0, 20)
def spNeg (a : Int × Int) : Int × Int × Int := if spChk a = 0 then spTold (-a.2) (-a.1) else (0, 0, 20)
/-- The least lower and the greatest upper end of an operation at the four pairs of ends, or ErrBig. -/
def spFour (f : Int → Int → Bool → Int × Int) (a b : Int × Int) : Int × Int × Int :=
  if (f a.1 b.1 false).2 ≠ 0 ∨ (f a.1 b.1 true).2 ≠ 0 ∨ (f a.1 b.2 false).2 ≠ 0 ∨ (f a.1 b.2 true).2 ≠ 0 ∨
     (f a.2 b.1 false).2 ≠ 0 ∨ (f a.2 b.1 true).2 ≠ 0 ∨ (f a.2 b.2 false).2 ≠ 0 ∨ (f a.2 b.2 true).2 ≠ 0 then (0, 0, 6)
  else spTold (min (min (min (f a.1 b.1 false).1 (f a.1 b.2 false).1) (f a.2 b.1 false).1) (f a.2 b.2 false).1)
    (max (max (max (f a.1 b.1 true).1 (f a.1 b.2 true).1) (f a.2 b.1 true).1) (f a.2 b.2 true).1)
def spMul (a b : Int × Int) : Int × Int × Int := if spAll a b = 0 then spFour fxMul a b else (0, 0, 20)
def spDiv (a b : Int × Int) : Int × Int × Int :=
  if spAll a b = 0 then (if b.1 ≤ 0 ∧ 0 ≤ b.2 then (0, 0, 7) else spFour fxDiv a b) else (0, 0, 20)

def spOf (lo hi : Int) : Int × Int × Int := if spChk (lo, hi) = 0 then (lo, hi, 0) else (0, 0, 20)
def spAbs (a : Int × Int) : Int × Int × Int := if spChk a = 0 then spTold (max (max a.1 (-a.2)) 0) (max a.2 (-a.1)) else (0, 0, 20)
/-- The square root of a fixed-point number that is not negative, rounded. -/
def rt (a : Int) (up : Bool) : Int := (rtN (a.toNat * 4294967296) up : Nat)
def spSqrt (a : Int × Int) : Int × Int × Int :=
  if spChk a = 0 then (if a.1 < 0 then (0, 0, 2) else spTold (rt a.1 false) (rt a.2 true)) else (0, 0, 20)

end Go.Proofs.Ytpdaigenffecmaa

namespace Go.Proofs.Ytpdaigenffecmaa
open Go.RowKit Go.Shelf

set_option maxHeartbeats 400000 in
theorem c_spanCheck (al ah : Int) (w : World) :
    Calls Try.prog 76 #[.agg #[.int .i64 al, .int .i64 ah]] w fun e w' => e = .returned (.int .i64 (spChk (al, ah))) ∧ Below w.heap.size w w' := by
  go_enter Try.func76, Try.ntmps76
  go_wp2
  all_goals (go_ret; exact ⟨ret_int (by simp [spChk, *] <;> omega), (Below.refl _ _).alloc (Nat.le_refl _) _⟩)

set_option maxHeartbeats 400000 in
theorem c_spanTold (lo hi : Int) (w : World) :
    Calls Try.prog 113 #[.int .i64 lo, .int .i64 hi] w fun e w' => e = .returned (.tuple #[.agg #[.int .i64 (spTold lo hi).1, .int .i64 (spTold lo hi).2.1], .int .i64 (spTold lo hi).2.2]) ∧ Below w.heap.size w w' := by
  go_enter Try.func113, Try.ntmps113
  go_wp2
  all_goals (refine bodyPost_ret (v := .tuple #[.agg #[.int .i64 (spTold lo hi).1, .int .i64 (spTold lo hi).2.1], .int .i64 (spTold lo hi).2.2]) (by simp [results, Try.results113, go_sem, spTold] <;> (repeat' split) <;> simp <;> omega) rfl ⟨rfl, (Below.refl _ _).alloc (Nat.le_refl _) _⟩)

set_option maxHeartbeats 400000 in
theorem c_spanAll (al ah bl bh : Int) (b : Nat) (w : World) (h0 : w.cell? ⟨b, 0, none⟩ = some (.int .i64 al)) (h1 : w.cell? ⟨b, 1, none⟩ = some (.int .i64 ah))
    (h2 : w.cell? ⟨b, 2, none⟩ = some (.int .i64 bl)) (h3 : w.cell? ⟨b, 3, none⟩ = some (.int .i64 bh)) :
    Calls Try.prog 109 #[.slice (some ⟨b, 0, none⟩) 2 2] w fun e w' => e = .returned (.int .i64 (spAll (al, ah) (bl, bh))) ∧ Below w.heap.size w w' := by
  have lb : b < w.heap.size := World.block_lt_of_cell? w _ h0
  go_enter Try.func109, Try.ntmps109
  go_wp2_with (first | (with_reducible refine wp_rounds 3 ?_) | (with_reducible refine rounds_step _ ?_; intro _ _) | (go_at_call 76; refine (c_spanCheck _ _ _).mono ?_; rintro e w1 ⟨rfl, hb1⟩; (obtain ⟨hc1, hf1⟩ := bcell hb1; have hs1 := hb1.size; (try simp only [World.size_alloc, World.drew_heap, World.heap_drewN, World.size_setCell] at hs1); try (have z1_0 : w.heap.size < w1.heap.size := (by omega)); try (have z1_1 : w.heap.size + 1 < w1.heap.size := (by omega)); try (have z1_2 : w.heap.size + 1 + 1 < w1.heap.size := (by omega)); try (have z1_3 : w.heap.size + 1 + 1 + 1 < w1.heap.size := (by omega)); try (have z1_4 : w.heap.size + 1 + 1 + 1 + 1 < w1.heap.size := (by omega)); try (have z1_5 : w.heap.size + 1 + 1 + 1 + 1 + 1 < w1.heap.size := (by omega)))))
  all_goals (go_ret; exact ⟨ret_int (by simp_all [spAll]), by (repeat' (first | (with_reducible exact Below.refl _ _) | assumption | (with_reducible refine Below.setCell ?_ ?_ _) | (with_reducible refine Below.alloc ?_ ?_ _) | (with_reducible refine Below.drew ?_) | (with_reducible refine below_drewN ?_ _) | (with_reducible refine Below.trans ?_ (Below.mono (by assumption) ?_)) | omega | (simp; done) | (simp; omega) | (simp [World.setCell]; omega)))⟩)

set_option maxHeartbeats 400000 in
theorem c_spanAdd (al ah bl bh : Int) (w : World) :
    Calls Try.prog 85 #[.agg #[.int .i64 al, .int .i64 ah], .agg #[.int .i64 bl, .int .i64 bh]] w fun e w' => e = .returned (.tuple #[.agg #[.int .i64 (spAdd (al, ah) (bl, bh)).1, .int .i64 (spAdd (al, ah) (bl, bh)).2.1], .int .i64 (spAdd (al, ah) (bl, bh)).2.2]) ∧ Below w.heap.size w w' := by
  rcases spAll_or (al, ah) (bl, bh) with h | h
  · have hs : Hid (spAdd (al, ah) (bl, bh) = spTold (al + bl) (ah + bh)) := by unfold Hid spAdd; rw [if_pos h]
    have ra := spChk_ok (spAll_ok h).1; have rb := spChk_ok (spAll_ok h).2
    obtain ⟨ra1, ra2, ra3⟩ := ra; obtain ⟨rb1, rb2, rb3⟩ := rb
    simp only at ra1 ra2 ra3 rb1 rb2 rb3
    have h' : (spAll (al, ah) (bl, bh) != 0) = false := by simp [h]
    have H := Lib.hid h; clear h
    go_enter Try.func85, Try.ntmps85
    go_wp2_with (first | (go_at_call 109; refine (c_spanAll al ah bl bh _ _ ?_ ?_ ?_ ?_).mono ?_; go_simp; go_simp; go_simp; go_simp; rintro e w1 ⟨rfl, hb1⟩; (obtain ⟨hc1, hf1⟩ := bcell hb1; have hs1 := hb1.size; (try simp only [World.size_alloc, World.drew_heap, World.heap_drewN, World.size_setCell] at hs1); try (have z1_0 : w.heap.size < w1.heap.size := (by omega)); try (have z1_1 : w.heap.size + 1 < w1.heap.size := (by omega)); try (have z1_2 : w.heap.size + 1 + 1 < w1.heap.size := (by omega)); try (have z1_3 : w.heap.size + 1 + 1 + 1 < w1.heap.size := (by omega)); try (have z1_4 : w.heap.size + 1 + 1 + 1 + 1 < w1.heap.size := (by omega)); try (have z1_5 : w.heap.size + 1 + 1 + 1 + 1 + 1 < w1.heap.size := (by omega)))) | (go_at_call 113; refine (c_spanTold _ _ _).mono ?_; rintro e w2 ⟨rfl, hb2⟩; (obtain ⟨hc2, hf2⟩ := bcell hb2; have hs2 := hb2.size; (try simp only [World.size_alloc, World.drew_heap, World.heap_drewN, World.size_setCell] at hs2); try (have z2_0 : w.heap.size < w2.heap.size := (by omega)); try (have z2_1 : w.heap.size + 1 < w2.heap.size := (by omega)); try (have z2_2 : w.heap.size + 1 + 1 < w2.heap.size := (by omega)); try (have z2_3 : w.heap.size + 1 + 1 + 1 < w2.heap.size := (by omega)); try (have z2_4 : w.heap.size + 1 + 1 + 1 + 1 < w2.heap.size := (by omega)); try (have z2_5 : w.heap.size + 1 + 1 + 1 + 1 + 1 < w2.heap.size := (by omega)))))
    refine bodyPost_ret (v := .tuple #[.agg #[.int .i64 (spTold (al + bl) (ah + bh)).1, .int .i64 (spTold (al + bl) (ah + bh)).2.1], .int .i64 (spTold (al + bl) (ah + bh)).2.2]) (by simp [results, Try.results85, go_sem, *]) rfl ⟨by rw [hs.out], by (repeat' (first | (with_reducible exact Below.refl _ _) | assumption | (with_reducible refine Below.setCell ?_ ?_ _) | (with_reducible refine Below.alloc ?_ ?_ _) | (with_reducible refine Below.drew ?_) | (with_reducible refine below_drewN ?_ _) | (with_reducible refine Below.trans ?_ (Below.mono (by assumption) ?_)) | omega | (simp; done) | (simp; omega) | (simp [World.setCell]; omega)))⟩
  · have hs : Hid (spAdd (al, ah) (bl, bh) = (0, 0, 20)) := by unfold Hid spAdd; rw [if_neg (by omega)]
    have h' : (spAll (al, ah) (bl, bh) != 0) = true := by simp [h]
    go_enter Try.func85, Try.ntmps85
    go_wp2_with (first | (go_at_call 109; refine (c_spanAll al ah bl bh _ _ ?_ ?_ ?_ ?_).mono ?_; go_simp; go_simp; go_simp; go_simp; rintro e w1 ⟨rfl, hb1⟩; (obtain ⟨hc1, hf1⟩ := bcell hb1; have hs1 := hb1.size; (try simp only [World.size_alloc, World.drew_heap, World.heap_drewN, World.size_setCell] at hs1); try (have z1_0 : w.heap.size < w1.heap.size := (by omega)); try (have z1_1 : w.heap.size + 1 < w1.heap.size := (by omega)); try (have z1_2 : w.heap.size + 1 + 1 < w1.heap.size := (by omega)); try (have z1_3 : w.heap.size + 1 + 1 + 1 < w1.heap.size := (by omega)); try (have z1_4 : w.heap.size + 1 + 1 + 1 + 1 < w1.heap.size := (by omega)); try (have z1_5 : w.heap.size + 1 + 1 + 1 + 1 + 1 < w1.heap.size := (by omega)))))
    refine bodyPost_ret (v := .tuple #[.agg #[.int .i64 0, .int .i64 0], .int .i64 20]) (by simp [results, Try.results85, go_sem, *]) rfl ⟨by rw [hs.out], by (repeat' (first | (with_reducible exact Below.refl _ _) | assumption | (with_reducible refine Below.setCell ?_ ?_ _) | (with_reducible refine Below.alloc ?_ ?_ _) | (with_reducible refine Below.drew ?_) | (with_reducible refine below_drewN ?_ _) | (with_reducible refine Below.trans ?_ (Below.mono (by assumption) ?_)) | omega | (simp; done) | (simp; omega) | (simp [World.setCell]; omega)))⟩

set_option maxHeartbeats 400000 in
theorem c_spanSub (al ah bl bh : Int) (w : World) :
    Calls Try.prog 87 #[.agg #[.int .i64 al, .int .i64 ah], .agg #[.int .i64 bl, .int .i64 bh]] w fun e w' => e = .returned (.tuple #[.agg #[.int .i64 (spSub (al, ah) (bl, bh)).1, .int .i64 (spSub (al, ah) (bl, bh)).2.1], .int .i64 (spSub (al, ah) (bl, bh)).2.2]) ∧ Below w.heap.size w w' := by
  rcases spAll_or (al, ah) (bl, bh) with h | h
  · have hs : Hid (spSub (al, ah) (bl, bh) = spTold (al - bh) (ah - bl)) := by unfold Hid spSub; rw [if_pos h]
    have ra := spChk_ok (spAll_ok h).1; have rb := spChk_ok (spAll_ok h).2
    obtain ⟨ra1, ra2, ra3⟩ := ra; obtain ⟨rb1, rb2, rb3⟩ := rb
    simp only at ra1 ra2 ra3 rb1 rb2 rb3
    have h' : (spAll (al, ah) (bl, bh) != 0) = false := by simp [h]
    have H := Lib.hid h; clear h
    go_enter Try.func87, Try.ntmps87
    go_wp2_with (first | (go_at_call 109; refine (c_spanAll al ah bl bh _ _ ?_ ?_ ?_ ?_).mono ?_; go_simp; go_simp; go_simp; go_simp; rintro e w1 ⟨rfl, hb1⟩; (obtain ⟨hc1, hf1⟩ := bcell hb1; have hs1 := hb1.size; (try simp only [World.size_alloc, World.drew_heap, World.heap_drewN, World.size_setCell] at hs1); try (have z1_0 : w.heap.size < w1.heap.size := (by omega)); try (have z1_1 : w.heap.size + 1 < w1.heap.size := (by omega)); try (have z1_2 : w.heap.size + 1 + 1 < w1.heap.size := (by omega)); try (have z1_3 : w.heap.size + 1 + 1 + 1 < w1.heap.size := (by omega)); try (have z1_4 : w.heap.size + 1 + 1 + 1 + 1 < w1.heap.size := (by omega)); try (have z1_5 : w.heap.size + 1 + 1 + 1 + 1 + 1 < w1.heap.size := (by omega)))) | (go_at_call 113; refine (c_spanTold _ _ _).mono ?_; rintro e w2 ⟨rfl, hb2⟩; (obtain ⟨hc2, hf2⟩ := bcell hb2; have hs2 := hb2.size; (try simp only [World.size_alloc, World.drew_heap, World.heap_drewN, World.size_setCell] at hs2); try (have z2_0 : w.heap.size < w2.heap.size := (by omega)); try (have z2_1 : w.heap.size + 1 < w2.heap.size := (by omega)); try (have z2_2 : w.heap.size + 1 + 1 < w2.heap.size := (by omega)); try (have z2_3 : w.heap.size + 1 + 1 + 1 < w2.heap.size := (by omega)); try (have z2_4 : w.heap.size + 1 + 1 + 1 + 1 < w2.heap.size := (by omega)); try (have z2_5 : w.heap.size + 1 + 1 + 1 + 1 + 1 < w2.heap.size := (by omega)))))
    refine bodyPost_ret (v := .tuple #[.agg #[.int .i64 (spTold (al - bh) (ah - bl)).1, .int .i64 (spTold (al - bh) (ah - bl)).2.1], .int .i64 (spTold (al - bh) (ah - bl)).2.2]) (by simp [results, Try.results87, go_sem, *]) rfl ⟨by rw [hs.out], by (repeat' (first | (with_reducible exact Below.refl _ _) | assumption | (with_reducible refine Below.setCell ?_ ?_ _) | (with_reducible refine Below.alloc ?_ ?_ _) | (with_reducible refine Below.drew ?_) | (with_reducible refine below_drewN ?_ _) | (with_reducible refine Below.trans ?_ (Below.mono (by assumption) ?_)) | omega | (simp; done) | (simp; omega) | (simp [World.setCell]; omega)))⟩
  · have hs : Hid (spSub (al, ah) (bl, bh) = (0, 0, 20)) := by unfold Hid spSub; rw [if_neg (by omega)]
    have h' : (spAll (al, ah) (bl, bh) != 0) = true := by simp [h]
    go_enter Try.func87, Try.ntmps87
    go_wp2_with (first | (go_at_call 109; refine (c_spanAll al ah bl bh _ _ ?_ ?_ ?_ ?_).mono ?_; go_simp; go_simp; go_simp; go_simp; rintro e w1 ⟨rfl, hb1⟩; (obtain ⟨hc1, hf1⟩ := bcell hb1; have hs1 := hb1.size; (try simp only [World.size_alloc, World.drew_heap, World.heap_drewN, World.size_setCell] at hs1); try (have z1_0 : w.heap.size < w1.heap.size := (by omega)); try (have z1_1 : w.heap.size + 1 < w1.heap.size := (by omega)); try (have z1_2 : w.heap.size + 1 + 1 < w1.heap.size := (by omega)); try (have z1_3 : w.heap.size + 1 + 1 + 1 < w1.heap.size := (by omega)); try (have z1_4 : w.heap.size + 1 + 1 + 1 + 1 < w1.heap.size := (by omega)); try (have z1_5 : w.heap.size + 1 + 1 + 1 + 1 + 1 < w1.heap.size := (by omega)))))
    refine bodyPost_ret (v := .tuple #[.agg #[.int .i64 0, .int .i64 0], .int .i64 20]) (by simp [results, Try.results87, go_sem, *]) rfl ⟨by rw [hs.out], by (repeat' (first | (with_reducible exact Below.refl _ _) | assumption | (with_reducible refine Below.setCell ?_ ?_ _) | (with_reducible refine Below.alloc ?_ ?_ _) | (with_reducible refine Below.drew ?_) | (with_reducible refine below_drewN ?_ _) | (with_reducible refine Below.trans ?_ (Below.mono (by assumption) ?_)) | omega | (simp; done) | (simp; omega) | (simp [World.setCell]; omega)))⟩

set_option maxHeartbeats 400000 in
theorem c_spanNeg (al ah : Int) (w : World) :
    Calls Try.prog 122 #[.agg #[.int .i64 al, .int .i64 ah]] w fun e w' => e = .returned (.tuple #[.agg #[.int .i64 (spNeg (al, ah)).1, .int .i64 (spNeg (al, ah)).2.1], .int .i64 (spNeg (al, ah)).2.2]) ∧ Below w.heap.size w w' := by
  rcases spChk_or (al, ah) with h | h
  · have hs : Hid (spNeg (al, ah) = spTold (-ah) (-al)) := by unfold Hid spNeg; rw [if_pos h]
    obtain ⟨ra1, ra2, ra3⟩ := spChk_ok h
    simp only at ra1 ra2 ra3
    have h' : (spChk (al, ah) != 0) = false := by simp [h]
    have H := Lib.hid h; clear h
    go_enter Try.func122, Try.ntmps122
    go_wp2_with (first | (go_at_call 76; refine (c_spanCheck al ah _).mono ?_; rintro e w1 ⟨rfl, hb1⟩; (obtain ⟨hc1, hf1⟩ := bcell hb1; have hs1 := hb1.size; (try simp only [World.size_alloc, World.drew_heap, World.heap_drewN, World.size_setCell] at hs1); try (have z1_0 : w.heap.size < w1.heap.size := (by omega)); try (have z1_1 : w.heap.size + 1 < w1.heap.size := (by omega)); try (have z1_2 : w.heap.size + 1 + 1 < w1.heap.size := (by omega)); try (have z1_3 : w.heap.size + 1 + 1 + 1 < w1.heap.size := (by omega)); try (have z1_4 : w.heap.size + 1 + 1 + 1 + 1 < w1.heap.size := (by omega)); try (have z1_5 : w.heap.size + 1 + 1 + 1 + 1 + 1 < w1.heap.size := (by omega)))) | (go_at_call 113; refine (c_spanTold _ _ _).mono ?_; rintro e w2 ⟨rfl, hb2⟩; (obtain ⟨hc2, hf2⟩ := bcell hb2; have hs2 := hb2.size; (try simp only [World.size_alloc, World.drew_heap, World.heap_drewN, World.size_setCell] at hs2); try (have z2_0 : w.heap.size < w2.heap.size := (by omega)); try (have z2_1 : w.heap.size + 1 < w2.heap.size := (by omega)); try (have z2_2 : w.heap.size + 1 + 1 < w2.heap.size := (by omega)); try (have z2_3 : w.heap.size + 1 + 1 + 1 < w2.heap.size := (by omega)); try (have z2_4 : w.heap.size + 1 + 1 + 1 + 1 < w2.heap.size := (by omega)); try (have z2_5 : w.heap.size + 1 + 1 + 1 + 1 + 1 < w2.heap.size := (by omega)))))
    refine bodyPost_ret (v := .tuple #[.agg #[.int .i64 (spTold (-ah) (-al)).1, .int .i64 (spTold (-ah) (-al)).2.1], .int .i64 (spTold (-ah) (-al)).2.2]) (by simp [results, Try.results122, go_sem, *]) rfl ⟨by rw [hs.out], by (repeat' (first | (with_reducible exact Below.refl _ _) | assumption | (with_reducible refine Below.setCell ?_ ?_ _) | (with_reducible refine Below.alloc ?_ ?_ _) | (with_reducible refine Below.drew ?_) | (with_reducible refine below_drewN ?_ _) | (with_reducible refine Below.trans ?_ (Below.mono (by assumption) ?_)) | omega | (simp; done) | (simp; omega) | (simp [World.setCell]; omega)))⟩
  · have hs : Hid (spNeg (al, ah) = (0, 0, 20)) := by unfold Hid spNeg; rw [if_neg (by omega)]
    have h' : (spChk (al, ah) != 0) = true := by simp [h]
    go_enter Try.func122, Try.ntmps122
    go_wp2_with (first | (go_at_call 76; refine (c_spanCheck al ah _).mono ?_; rintro e w1 ⟨rfl, hb1⟩; (obtain ⟨hc1, hf1⟩ := bcell hb1; have hs1 := hb1.size; (try simp only [World.size_alloc, World.drew_heap, World.heap_drewN, World.size_setCell] at hs1); try (have z1_0 : w.heap.size < w1.heap.size := (by omega)); try (have z1_1 : w.heap.size + 1 < w1.heap.size := (by omega)); try (have z1_2 : w.heap.size + 1 + 1 < w1.heap.size := (by omega)); try (have z1_3 : w.heap.size + 1 + 1 + 1 < w1.heap.size := (by omega)); try (have z1_4 : w.heap.size + 1 + 1 + 1 + 1 < w1.heap.size := (by omega)); try (have z1_5 : w.heap.size + 1 + 1 + 1 + 1 + 1 < w1.heap.size := (by omega)))))
    refine bodyPost_ret (v := .tuple #[.agg #[.int .i64 0, .int .i64 0], .int .i64 20]) (by simp [results, Try.results122, go_sem, *]) rfl ⟨by rw [hs.out], by (repeat' (first | (with_reducible exact Below.refl _ _) | assumption | (with_reducible refine Below.setCell ?_ ?_ _) | (with_reducible refine Below.alloc ?_ ?_ _) | (with_reducible refine Below.drew ?_) | (with_reducible refine below_drewN ?_ _) | (with_reducible refine Below.trans ?_ (Below.mono (by assumption) ?_)) | omega | (simp; done) | (simp; omega) | (simp [World.setCell]; omega)))⟩

end Go.Proofs.Ytpdaigenffecmaa
