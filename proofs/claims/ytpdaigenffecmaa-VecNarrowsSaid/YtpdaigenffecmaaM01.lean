/-
  '==' at intervals and vectors. The plain numbers behind the fixed-point functions: no program in sight. Rounding, the test of a fixed-point number, the quotient of a number of 128 bits. A loop of a known number of rounds, walked round by round.
-/
import Derived.Test.YtpdaigenffecmaaChecked
import Derived.WalkKit
import Derived.Laws.StructEq
import Derived.KernelRfl
set_option linter.all false
namespace Go.Proofs.Ytpdaigenffecmaa
open Go

section
variable (w : World)
theorem equalIn_span (n : Nat) (a b c d : Int) : (Op.equalIn (n + 2) 23 (.agg #[.int .i64 a, .int .i64 b]) (.agg #[.int .i64 c, .int .i64 d])).run Try.prog w = .ok ((a == c) && (b == d)) w := by
  have u3 := Try.underlying3
  have a3 := Try.isAgg3
  have z3 := Try.sizeOf3
  have hS : Try.prog.underlying 23 = some (.struct (Try.prog.fieldsOf 23)) := by kernel_rfl
  have hp : Try.prog.stoodInHeld 23 = false := by kernel_rfl
  rw [run_equalIn_agg w (n + 1) 23 _ _ hS hp]
  simp only [Program.fieldsOf, Try.underlying23]
  go_simp
  by_cases h1 : a = c <;> by_cases h2 : b = d <;> simp [h1, h2]
@[go_sem] theorem neq_span (a b c d : Int) : (binOp .neq 23 (.agg #[.int .i64 a, .int .i64 b]) (.agg #[.int .i64 c, .int .i64 d])).run Try.prog w = .ok (.bool (!((a == c) && (b == d)))) w := by
  rw [run_neq_struct, show (10000 : Nat) = 9998 + 2 from rfl, equalIn_span]; rfl
@[go_sem] theorem eql_span (a b c d : Int) : (binOp .eql 23 (.agg #[.int .i64 a, .int .i64 b]) (.agg #[.int .i64 c, .int .i64 d])).run Try.prog w = .ok (.bool ((a == c) && (b == d))) w := by
  rw [run_eql_struct, show (10000 : Nat) = 9998 + 2 from rfl, equalIn_span]; rfl
@[go_sem] theorem guard_span (op : BinOp) (x y : Operand) (xs ys : Array Value) : (eqGuard op 23 x y (.agg xs) (.agg ys)).run Try.prog w = .ok () w :=
  run_eqGuard_agg w op _ x y xs ys (by kernel_rfl)

theorem equalIn_vec (n : Nat) (x0 x1 x2 x3 x4 x5 y0 y1 y2 y3 y4 y5 : Int) : (Op.equalIn (n + 3) 25 (.agg #[.int .i64 x0, .int .i64 x1, .int .i64 x2, .int .i64 x3, .int .i64 x4, .int .i64 x5]) (.agg #[.int .i64 y0, .int .i64 y1, .int .i64 y2, .int .i64 y3, .int .i64 y4, .int .i64 y5])).run Try.prog w =
    .ok (((x0 == y0) && (x1 == y1)) && (((x2 == y2) && (x3 == y3)) && ((x4 == y4) && (x5 == y5)))) w := by
  have u : Try.prog.underlying 25 = some (.array 3 23) := by kernel_rfl
  have e := fun a b c d => equalIn_span w n a b c d
  rw [Op.equalIn]
  simp only [Sem.run_bind, run_underlying u, Result.andThen_ok]
  simp [List.range', Try.sizeOf23, Try.isAgg23, part, go_sem, e]
  by_cases h0 : x0 = y0 <;> by_cases h1 : x1 = y1 <;> by_cases h2 : x2 = y2 <;> by_cases h3 : x3 = y3 <;> by_cases h4 : x4 = y4 <;> by_cases h5 : x5 = y5 <;> simp [h0, h1, h2, h3, h4, h5]
theorem neq_vec (x0 x1 x2 x3 x4 x5 y0 y1 y2 y3 y4 y5 : Int) : (binOp .neq 25 (.agg #[.int .i64 x0, .int .i64 x1, .int .i64 x2, .int .i64 x3, .int .i64 x4, .int .i64 x5]) (.agg #[.int .i64 y0, .int .i64 y1, .int .i64 y2, .int .i64 y3, .int .i64 y4, .int .i64 y5])).run Try.prog w =
    .ok (.bool (!(((x0 == y0) && (x1 == y1)) && (((x2 == y2) && (x3 == y3)) && ((x4 == y4) && (x5 == y5)))))) w := by
  rw [run_neq_struct, show (10000 : Nat) = 9997 + 3 from rfl, equalIn_vec]; rfl
theorem eql_vec (x0 x1 x2 x3 x4 x5 y0 y1 y2 y3 y4 y5 : Int) : (binOp .eql 25 (.agg #[.int .i64 x0, .int .i64 x1, .int .i64 x2, .int .i64 x3, .int .i64 x4, .int .i64 x5]) (.agg #[.int .i64 y0, .int .i64 y1, .int .i64 y2, .int .i64 y3, .int .i64 y4, .int .i64 y5])).run Try.prog w =
    .ok (.bool (((x0 == y0) && (x1 == y1)) && (((x2 == y2) && (x3 == y3)) && ((x4 == y4) && (x5 == y5))))) w := by
  rw [run_eql_struct, show (10000 : Nat) = 9997 + 3 from rfl, equalIn_vec]; rfl
@[go_sem] theorem guard_vec (op : BinOp) (x y : Operand) (xs ys : Array Value) : (eqGuard op 25 x y (.agg xs) (.agg ys)).run Try.prog w = .ok () w :=
  run_eqGuard_agg w op _ x y xs ys (by kernel_rfl)
/-- Indexing a vector. -/
@[go_sem] theorem idxV_0 (x0 x1 x2 x3 x4 x5 : Int) : (Instr.index 25 (.agg #[.int .i64 x0, .int .i64 x1, .int .i64 x2, .int .i64 x3, .int .i64 x4, .int .i64 x5]) (.int .i64 0)).run Try.prog w = .ok (.agg #[.int .i64 x0, .int .i64 x1]) w := by
  have u : Try.prog.underlying 25 = some (.array 3 23) := by kernel_rfl
  simp only [Instr.index, asIntOf, Sem.run_bind, run_underlying u, Sem.run_pure, Result.andThen_ok]
  simp [part, Try.sizeOf23, Try.isAgg23, go_sem]
/-- Indexing a vector. -/
@[go_sem] theorem idxV_1 (x0 x1 x2 x3 x4 x5 : Int) : (Instr.index 25 (.agg #[.int .i64 x0, .int .i64 x1, .int .i64 x2, .int .i64 x3, .int .i64 x4, .int .i64 x5]) (.int .i64 1)).run Try.prog w = .ok (.agg #[.int .i64 x2, .int .i64 x3]) w := by
  have u : Try.prog.underlying 25 = some (.array 3 23) := by kernel_rfl
  simp only [Instr.index, asIntOf, Sem.run_bind, run_underlying u, Sem.run_pure, Result.andThen_ok]
  simp [part, Try.sizeOf23, Try.isAgg23, go_sem]
/-- Indexing a vector. -/
@[go_sem] theorem idxV_2 (x0 x1 x2 x3 x4 x5 : Int) : (Instr.index 25 (.agg #[.int .i64 x0, .int .i64 x1, .int .i64 x2, .int .i64 x3, .int .i64 x4, .int .i64 x5]) (.int .i64 2)).run Try.prog w = .ok (.agg #[.int .i64 x4, .int .i64 x5]) w := by
  have u : Try.prog.underlying 25 = some (.array 3 23) := by kernel_rfl
  simp only [Instr.index, asIntOf, Sem.run_bind, run_underlying u, Sem.run_pure, Result.andThen_ok]
  simp [part, Try.sizeOf23, Try.isAgg23, go_sem]
end

end Go.Proofs.Ytpdaigenffecmaa

namespace Go.Proofs.Ytpdaigenffecmaa

/-- 0 for a fixed-point number, else ErrArg. -/
def fxChk (a : Int) : Int := if a < -4503599627370496 ∨ 4503599627370496 < a then 2 else 0
theorem fxChk_ok {a : Int} (h : fxChk a = 0) : -4503599627370496 ≤ a ∧ a ≤ 4503599627370496 := by
  unfold fxChk at h; split at h <;> omega
theorem fxChk_mk {a : Int} (h1 : -4503599627370496 ≤ a) (h2 : a ≤ 4503599627370496) : fxChk a = 0 := by
  unfold fxChk; rw [if_neg (by omega)]
/-- The first error of two numbers. -/
def fxAll (a b : Int) : Int := if fxChk a = 0 then fxChk b else fxChk a

/-- The two words of a number of 128 bits. -/
def hi64 (n : Nat) : Nat := n / 18446744073709551616
def lo64 (n : Nat) : Nat := n % 18446744073709551616
theorem hilo (n : Nat) : hi64 n * 18446744073709551616 + lo64 n = n := by unfold hi64 lo64; omega
theorem lo64_lt (n : Nat) : lo64 n < 18446744073709551616 := by unfold lo64; omega

/-- n / d for d above 0, rounded up or down. -/
def rnd (n d : Int) (up : Bool) : Int := if up then -((-n) / d) else n / d
/-- A result that fits, or ErrBig. -/
def fit (r : Int) : Int × Int := if r < -4503599627370496 ∨ 4503599627370496 < r then (0, 6) else (r, 0)

/-- The quotient of N and d, rounded away from 0 where 'away' says so; false if it is too great. -/
def quoN (N d : Nat) (away : Bool) : Nat × Bool :=
  if 4503599627370496 < N / d then (0, false) else (N / d + (if away = true ∧ 0 < N % d then 1 else 0), true)
/-- What 'signed' makes of a size and whether it fits. -/
def sgnd (neg : Bool) (n : Nat) (fits : Bool) : Int × Int :=
  if fits = false ∨ 4503599627370496 < n then (0, 6) else (if neg then -(n : Int) else n, 0)

/-- The product of two numbers, rounded; then the errors. -/
def fxMul (a b : Int) (up : Bool) : Int × Int :=
  if fxAll a b = 0 then fit (rnd (a * b) 4294967296 up) else (0, 2)
def fxDiv (a b : Int) (up : Bool) : Int × Int :=
  if fxAll a b = 0 then (if b = 0 then (0, 7) else fit (rnd (if b < 0 then -(a * 4294967296) else a * 4294967296) b.natAbs up)) else (0, 2)

theorem ediv_of {x d q r : Int} (hd : 0 < d) (h : x = d * q + r) (h0 : 0 ≤ r) (h1 : r < d) : x / d = q := by
  have := (Int.ediv_emod_unique (a := x) (b := d) (r := r) (q := q) hd).2 ⟨by omega, h0, h1⟩
  exact this.1
/-- What is found by its size alone is the rounded number. -/
theorem sgnd_quoN (n d : Nat) (hd : 0 < d) (neg up : Bool) :
    sgnd neg (quoN n d (!(up == neg))).1 (quoN n d (!(up == neg))).2 = fit (rnd (if neg then -(n : Int) else n) d up) := by
  have h1 := Nat.div_add_mod n d
  have h2 := Nat.mod_lt n hd
  generalize hq : n / d = q at h1
  generalize hr : n % d = r at h1 h2
  have hn : (n : Int) = (d : Int) * (q : Int) + (r : Int) := by rw [← h1]; simp
  have hdi : (0 : Int) < (d : Int) := by omega
  have e1 : (n : Int) / (d : Int) = (q : Int) := ediv_of hdi hn (by omega) (by omega)
  have e2 : r = 0 → (-(n : Int)) / (d : Int) = -(q : Int) := fun h => ediv_of (r := 0) hdi (by rw [hn, h, Int.mul_neg]; simp) (by omega) hdi
  have e3 : 0 < r → (-(n : Int)) / (d : Int) = -(q : Int) - 1 := fun h => ediv_of (r := (d : Int) - r) hdi (by rw [hn, Int.mul_sub, Int.mul_neg]; omega) (by omega) (by omega)
  unfold quoN
  rw [hq, hr]
  rcases Nat.lt_or_ge 4503599627370496 q with hb | hb
  · rw [if_pos hb]
    have : sgnd neg (0, false).1 (0, false).2 = (0, 6) := by unfold sgnd; simp
    rw [this]
    unfold fit rnd
    rw [if_pos]
    rcases Nat.eq_zero_or_pos r with h0 | h0
    · have := e2 h0
      cases neg <;> cases up <;> simp only [if_true, if_false, Bool.false_eq_true, Int.neg_neg, e1, this] <;> omega
    · have := e3 h0
      cases neg <;> cases up <;> simp only [if_true, if_false, Bool.false_eq_true, Int.neg_neg, e1, this] <;> omega
  · rw [if_neg (by omega)]
    unfold sgnd fit rnd
    rcases Nat.eq_zero_or_pos r with h0 | h0
    · have := e2 h0
      cases neg <;> cases up <;> simp [e1, this, h0] <;> (repeat' split) <;> first | rfl | omega | (simp; omega)
    · have := e3 h0
      cases neg <;> cases up <;> simp [e1, this, h0] <;> (repeat' split) <;> first | rfl | omega | (simp; omega)
theorem sign_mul (a b : Int) : (if (!(decide (a < 0) == decide (b < 0))) = true then -((a.natAbs * b.natAbs : Nat) : Int) else ((a.natAbs * b.natAbs : Nat) : Int)) = a * b := by
  rw [Int.natCast_mul]
  rcases Int.lt_or_le a 0 with h1 | h1 <;> rcases Int.lt_or_le b 0 with h2 | h2
  · have e1 : (a.natAbs : Int) = -a := by omega
    have e2 : (b.natAbs : Int) = -b := by omega
    rw [e1, e2]; simp [h1, h2, Int.neg_mul, Int.mul_neg]
  · have e1 : (a.natAbs : Int) = -a := by omega
    have e2 : (b.natAbs : Int) = b := by omega
    have h3 : ¬ b < 0 := by omega
    rw [e1, e2]; simp [h1, h3, Int.neg_mul, Int.mul_neg]
  · have e1 : (a.natAbs : Int) = a := by omega
    have e2 : (b.natAbs : Int) = -b := by omega
    have h3 : ¬ a < 0 := by omega
    rw [e1, e2]; simp [h2, h3, Int.neg_mul, Int.mul_neg]
  · have e1 : (a.natAbs : Int) = a := by omega
    have e2 : (b.natAbs : Int) = b := by omega
    have h3 : ¬ a < 0 := by omega
    have h4 : ¬ b < 0 := by omega
    rw [e1, e2]; simp [h4, h3]
theorem sgnd_mul (a b : Int) (up : Bool) :
    sgnd (!(decide (a < 0) == decide (b < 0))) (quoN (a.natAbs * b.natAbs) 4294967296 (!(up == !(decide (a < 0) == decide (b < 0))))).1 (quoN (a.natAbs * b.natAbs) 4294967296 (!(up == !(decide (a < 0) == decide (b < 0))))).2 = fit (rnd (a * b) 4294967296 up) := by
  have := sgnd_quoN (a.natAbs * b.natAbs) 4294967296 (by omega) (!(decide (a < 0) == decide (b < 0))) up
  rw [sign_mul] at this
  exact this
theorem sgnd_div (a b : Int) (up : Bool) (hb : b ≠ 0) :
    sgnd (!(decide (a < 0) == decide (b < 0))) (quoN (a.natAbs * 4294967296) b.natAbs (!(up == !(decide (a < 0) == decide (b < 0))))).1 (quoN (a.natAbs * 4294967296) b.natAbs (!(up == !(decide (a < 0) == decide (b < 0))))).2 =
      fit (rnd (if b < 0 then -(a * 4294967296) else a * 4294967296) b.natAbs up) := by
  have := sgnd_quoN (a.natAbs * 4294967296) b.natAbs (by omega) (!(decide (a < 0) == decide (b < 0))) up
  rw [this]
  congr 1
  congr 1
  rcases Int.lt_or_le a 0 with h1 | h1 <;> rcases Int.lt_or_le b 0 with h2 | h2
  · simp [h1, h2]; omega
  · have h3 : ¬ b < 0 := by omega
    simp [h1, h3]; omega
  · have h3 : ¬ a < 0 := by omega
    simp [h2, h3]; omega
  · have h3 : ¬ a < 0 := by omega
    have h4 : ¬ b < 0 := by omega
    simp [h4, h3]; omega
theorem quoN_lt (n d : Nat) (away : Bool) : (quoN n d away).1 < 18446744073709551616 := by
  unfold quoN; split
  · simp
  · simp only; split <;> omega
/-- The square root of a fixed-point number, rounded. -/
def fxRootOk (a : Int) : Bool := decide (0 ≤ a) && decide (a ≤ 4503599627370496)

end Go.Proofs.Ytpdaigenffecmaa

namespace Go.Proofs.Ytpdaigenffecmaa
open Go Go.RowKit

/-- At most n rounds of c, and then Q: said by unrolling. -/
def Rounds (P : Program) (c : Code) (Q : Exit → Act → World → Prop) : Nat → Act → World → Prop
  | 0 => fun _ _ => False
  | n + 1 => fun a w => c.wp P (Exit.then (Rounds P c Q n) Q) a w

theorem wp_rounds {P : Program} {c : Code} {Q : Exit → Act → World → Prop} {a : Act} {w : World} (n : Nat)
    (h : Rounds P c Q n a w) : (Code.loop c).wp P Q a w := by
  classical
  let I : Act → World → Prop := fun a w => ∃ n, Rounds P c Q n a w
  -- the measure: the least number of rounds
  have least : ∀ a w, I a w → ∃ n, Rounds P c Q n a w ∧ ∀ m, Rounds P c Q m a w → n ≤ m := by
    intro a w ⟨n, hn⟩
    induction n using Nat.strongRecOn with
    | _ n ih =>
      by_cases h : ∃ m, m < n ∧ Rounds P c Q m a w
      · obtain ⟨m, hm, hr⟩ := h
        exact ih m hm hr
      · refine ⟨n, hn, fun m hm => ?_⟩
        rcases Nat.lt_or_ge m n with hlt | hge
        · exact absurd ⟨m, hlt, hm⟩ h
        · exact hge
  let μ : Act → World → Nat := fun a w => if h : I a w then (least a w h).choose else 0
  refine wp_loop I μ ⟨n, h⟩ ?_
  intro a w hI
  obtain ⟨h1, h2⟩ := (least a w hI).choose_spec
  have hμ : μ a w = (least a w hI).choose := by simp only [μ, dif_pos hI]
  generalize hk : (least a w hI).choose = k at h1 h2 hμ
  match k, h1 with
  | 0, h1 => exact h1.elim
  | k + 1, h1 =>
    refine Code.wp_mono (fun e a' w' q => ?_) h1
    cases e with
    | normal =>
      have hI' : I a' w' := ⟨k, q⟩
      refine ⟨hI', ?_⟩
      have h3 := (least a' w' hI').choose_spec.2 k q
      have hμ' : μ a' w' = (least a' w' hI').choose := by simp only [μ, dif_pos hI']
      omega
    | _ => exact q

/-- One round more; what follows is a variable to the walk. -/
theorem rounds_step {P : Program} {c : Code} {Q : Exit → Act → World → Prop} {a : Act} {w : World} (n : Nat)
    (h : ∀ K : Act → World → Prop, (∀ a w, Rounds P c Q n a w → K a w) → c.wp P (Exit.then K Q) a w) : Rounds P c Q (n + 1) a w :=
  h _ fun _ _ h => h

/-- At most n rounds of c, and then Q: said by unrolling. -/
def RoundsIn (F : Fence) (n : Nat) (P : Program) (c : Code) (Q : Exit → Act → World → Prop) : Nat → Act → World → Prop
  | 0 => fun _ _ => False
  | k + 1 => fun a w => c.wpIn F n P (Exit.then (RoundsIn F n P c Q k) Q) a w

theorem wpIn_rounds {F : Fence} {n : Nat} {P : Program} {c : Code} {Q : Exit → Act → World → Prop} {a : Act} {w : World} (k : Nat)
    (h : RoundsIn F n P c Q k a w) : (Code.loop c).wpIn F n P Q a w := by
  classical
  let I : Act → World → Prop := fun a w => ∃ k, RoundsIn F n P c Q k a w
  -- the measure: the least number of rounds
  have least : ∀ a w, I a w → ∃ k, RoundsIn F n P c Q k a w ∧ ∀ m, RoundsIn F n P c Q m a w → k ≤ m := by
    intro a w ⟨k, hn⟩
    induction k using Nat.strongRecOn with
    | _ k ih =>
      by_cases h : ∃ m, m < k ∧ RoundsIn F n P c Q m a w
      · obtain ⟨m, hm, hr⟩ := h
        exact ih m hm hr
      · refine ⟨k, hn, fun m hm => ?_⟩
        rcases Nat.lt_or_ge m k with hlt | hge
        · exact absurd ⟨m, hlt, hm⟩ h
        · exact hge
  let μ : Act → World → Nat := fun a w => if h : I a w then (least a w h).choose else 0
  refine wpIn_loop I μ ⟨k, h⟩ ?_
  intro a w hI
  obtain ⟨h1, h2⟩ := (least a w hI).choose_spec
  have hμ : μ a w = (least a w hI).choose := by simp only [μ, dif_pos hI]
  generalize hk : (least a w hI).choose = k at h1 h2 hμ
  match k, h1 with
  | 0, h1 => exact h1.elim
  | k + 1, h1 =>
    refine wpIn_mono h1 (fun e a' w' q => ?_)
    cases e with
    | normal =>
      have hI' : I a' w' := ⟨k, q⟩
      refine ⟨hI', ?_⟩
      have h3 := (least a' w' hI').choose_spec.2 k q
      have hμ' : μ a' w' = (least a' w' hI').choose := by simp only [μ, dif_pos hI']
      omega
    | _ => exact q

/-- One round more; what follows is a variable to the walk. -/
theorem roundsIn_step {F : Fence} {n : Nat} {P : Program} {c : Code} {Q : Exit → Act → World → Prop} {a : Act} {w : World} (k : Nat)
    (h : ∀ K : Act → World → Prop, (∀ a w, RoundsIn F n P c Q k a w → K a w) → c.wpIn F n P (Exit.then K Q) a w) : RoundsIn F n P c Q (k + 1) a w :=
  h _ fun _ _ h => h

/-- What the old blocks hold behind a call that leaves them alone. -/
theorem bcell {n : Nat} {W w1 : World} (hb : Below n W w1) : (∀ b o, b < n → w1.cell? ⟨b, o, none⟩ = W.cell? ⟨b, o, none⟩) ∧ (∀ b o, b < n → w1.frozen? ⟨b, o, none⟩ = W.frozen? ⟨b, o, none⟩) :=
  ⟨fun b o h => hb.cell (p := ⟨b, o, none⟩) h, fun b o h => hb.frozen (p := ⟨b, o, none⟩) h⟩
theorem World.drew_heap (w : World) : w.drew.heap = w.heap := rfl
theorem ret_bool {a b : Bool} (h : a = b) : Ending.returned (.bool a) = Ending.returned (.bool b) := by rw [h]
theorem ret_int {k : IntKind} {a b : Int} (h : a = b) : Ending.returned (.int k a) = Ending.returned (.int k b) := by rw [h]

end Go.Proofs.Ytpdaigenffecmaa
