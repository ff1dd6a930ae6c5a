/-
  From the statement's condition on package fix's table of powers to its cells; a world that meets the condition. The plain numbers behind the fixed-point functions: no program in sight. Rounding, the test of a fixed-point number, the quotient of a number of 128 bits.
-/
import Derived.Test.YtpdaigenffecmaaDoorRows
import Derived.ProofKit
import Derived.OpenShut
import Derived.LaidLaws
import Derived.LaidHandle
import Derived.MakeChecks
import Derived.Lib.LaidTab
import Derived.LaidMore
import Derived.Test.YtpdaigenffecmaaDoorM07
set_option linter.all false
namespace Go.Proofs.YtpdaigenffecmaaDoor
open Go Go.RowKit Go.ChangeShapes Go.WideShapes

abbrev laidP : List (String × DataW Unit) := [("monocle/fix.powers", Rows.laid_monocle_fix_powers)]
def tens : List Int := [1, 10, 100, 1000, 10000, 100000, 1000000, 10000000, 100000000, 1000000000, 10000000000, 100000000000, 1000000000000]
theorem pow_of_laid {W : World} (h : laidMetH Tryd.prog laidP W) : Pow10 W := by
  have h' : laidMet Tryd.prog [("monocle/fix.powers", Lib.tabData .u64 tens)] W := h
  have hg : Tryd.prog.globalNamed "monocle/fix.powers" = some 0 := by kernel_rfl
  have ht := Lib.tabIs_of_head (t := 91) (e := 48) (n := 13) hg (by kernel_rfl) (by kernel_rfl) (by kernel_rfl) (by kernel_rfl) (by kernel_rfl) h'
  intro j hj
  rw [ht.cell hg j (by simpa [tens] using hj)]
  match j, hj with
  | 0, _ | 1, _ | 2, _ | 3, _ | 4, _ | 5, _ | 6, _ | 7, _ | 8, _ | 9, _ | 10, _ | 11, _ | 12, _ => rfl
theorem door_met (os : Os) (args : Array Value) : laidMetH Tryd.prog laidP ((World.doorLaid Tryd.prog 400 os).forCall (fun _ _ => 0) ⟨#[], args, []⟩).memory :=
  laidMetH_of_parts3 (fuel := 8) (laidMet_of_run' 8 (by kernel_rfl) (by kernel_rfl)) (by kernel_rfl) (by kernel_rfl)
theorem own : ownKnob Tryd.prog.godebug = Option.none := by kernel_rfl

end Go.Proofs.YtpdaigenffecmaaDoor

namespace Go.Proofs.YtpdaigenffecmaaDoor

/-- 0 for a fixed-point number, else ErrArg. -/
def fxChk (a : Int) : Int := if a < -4503599627370496 ∨ 4503599627370496 < a then 2 else 0
theorem fxChk_ok {a : Int} (h : fxChk a = 0) : -4503599627370496 ≤ a ∧ a ≤ 4503599627370496 := by
  unfold fxChk at h; split at h <;> omega
theorem fxChk_mk {a : Int} (h1 : -4503599627370496 ≤ a) (h2 : a ≤ 4503599627370496) : fxChk a = 0 := by
  unfold fxChk; rw [if_neg (by omega)]
/-- The first error of two numbers. -/
def fxAll (a b : Int) : Int := if fxChk a = 0 then fxChk b else fxChk a

/-- The two words of a number of 128 bits. -/
def hi64 (n : Nat) : Nat := n / 18446744073709551616
def lo64 (n : Nat) : Nat := n % 18446744073709551616
theorem hilo (n : Nat) : hi64 n * 18446744073709551616 + lo64 n = n := by unfold hi64 lo64; omega
theorem lo64_lt (n : Nat) : lo64 n < 18446744073709551616 := by unfold lo64; omega

/-- n / d for d above 0, rounded up or down. -/
def rnd (n d : Int) (up : Bool) : Int := if up then -((-n) / d) else n / d
/-- A result that fits, or ErrBig. -/
def fit (r : Int) : Int × Int := if r < -4503599627370496 ∨ 4503599627370496 < r then (0, 6) else (r, 0)

/-- The quotient of N and d, rounded away from 0 where 'away' says so; false if it is too great. -/
def quoN (N d : Nat) (away : Bool) : Nat × Bool :=
  if 4503599627370496 < N / d then (0, false) else (N / d + (if away = true ∧ 0 < N % d then 1 else 0), true)
/-- What 'signed' makes of a size and whether it fits. -/
def sgnd (neg : Bool) (n : Nat) (fits : Bool) : Int × Int :=
  if fits = false ∨ 4503599627370496 < n then (0, 6) else (if neg then -(n : Int) else n, 0)

/-- The product of two numbers, rounded; then the errors. -/
def fxMul (a b : Int) (up : Bool) : Int × Int :=
  if fxAll a b = 0 then fit (rnd (a * b) 4294967296 up) else (0, 2)
def fxDiv (a b : Int) (up : Bool) : Int × Int :=
  if fxAll a b = 0 then (if b = 0 then (0, 7) else fit (rnd (if b < 0 then -(a * 4294967296) else a * 4294967296) b.natAbs up)) else (0, 2)

theorem ediv_of {x d q r : Int} (hd : 0 < d) (h : x = d * q + r) (h0 : 0 ≤ r) (h1 : r < d) : x / d = q := by
  have := (Int.ediv_emod_unique (a := x) (b := d) (r := r) (q := q) hd).2 ⟨by omega, h0, h1⟩
  exact this.1
/-- What is found by its size alone is the rounded number. -/
theorem sgnd_quoN (n d : Nat) (hd : 0 < d) (neg up : Bool) :
    sgnd neg (quoN n d (!(up == neg))).1 (quoN n d (!(up == neg))).2 = fit (rnd (if neg then -(n : Int) else n) d up) := by
  have h1 := Nat.div_add_mod n d
  have h2 := Nat.mod_lt n hd
  generalize hq : n / d = q at h1
  generalize hr : n % d = r at h1 h2
  have hn : (n : Int) = (d : Int) * (q : Int) + (r : Int) := by rw [← h1]; simp
  have hdi : (0 : Int) < (d : Int) := by omega
  have e1 : (n : Int) / (d : Int) = (q : Int) := ediv_of hdi hn (by omega) (by omega)
  have e2 : r = 0 → (-(n : Int)) / (d : Int) = -(q : Int) := fun h => ediv_of (r := 0) hdi (by rw [hn, h, Int.mul_neg]; simp) (by omega) hdi
  have e3 : 0 < r → (-(n : Int)) / (d : Int) = -(q : Int) - 1 := fun h => ediv_of (r := (d : Int) - r) hdi (by rw [hn, Int.mul_sub, Int.mul_neg]; omega) (by omega) (by omega)
  unfold quoN
  rw [hq, hr]
  rcases Nat.lt_or_ge 4503599627370496 q with hb | hb
  · rw [if_pos hb]
    have : sgnd neg (0, false).1 (0, false).2 = (0, 6) := by unfold sgnd; simp
    rw [this]
    unfold fit rnd
    rw [if_pos]
    rcases Nat.eq_zero_or_pos r with h0 | h0
    · have := e2 h0
      cases neg <;> cases up <;> simp only [if_true, if_false, Bool.false_eq_true, Int.neg_neg, e1, this] <;> omega
    · have := e3 h0
      cases neg <;> cases up <;> simp only [if_true, if_false, Bool.false_eq_true, Int.neg_neg, e1, this] <;> omega
  · rw [if_neg (by omega)]
    unfold sgnd fit rnd
    rcases Nat.eq_zero_or_pos r with h0 | h0
    · have := e2 h0
      cases neg <;> cases up <;> simp [e1, this, h0] <;> (repeat' split) <;> first | rfl | omega | (simp; omega)
    · have := e3 h0
      cases neg <;> cases up <;> simp [e1, this, h0] <;> (repeat' split) <;> first | rfl | omega | (simp; omega)
theorem sign_mul (a b : Int) : (if (!(decide (a < 0) == decide (b < 0))) = true then -((a.natAbs * b.natAbs : Nat) : Int) else ((a.natAbs * b.natAbs : Nat) : Int)) = a * b := by
  rw [Int.natCast_mul]
  rcases Int.lt_or_le a 0 with h1 | h1 <;> rcases Int.lt_or_le b 0 with h2 | h2
  · have e1 : (a.natAbs : Int) = -a := by omega
    have e2 : (b.natAbs : Int) = -b := by omega
    rw [e1, e2]; simp [h1, h2, Int.neg_mul, Int.mul_neg]
  · have e1 : (a.natAbs : Int) = -a := by omega
    have e2 : (b.natAbs : Int) = b := by omega
    have h3 : ¬ b < 0 := by omega
    rw [e1, e2]; simp [h1, h3, Int.neg_mul, Int.mul_neg]
  · have e1 : (a.natAbs : Int) = a := by omega
    have e2 : (b.natAbs : Int) = -b := by omega
    have h3 : ¬ a < 0 := by omega
    rw [e1, e2]; simp [h2, h3, Int.neg_mul, Int.mul_neg]
  · have e1 : (a.natAbs : Int) = a := by omega
    have e2 : (b.natAbs : Int) = b := by omega
    have h3 : ¬ a < 0 := by omega
    have h4 : ¬ b < 0 := by omega
    rw [e1, e2]; simp [h4, h3]
theorem sgnd_mul (a b : Int) (up : Bool) :
    sgnd (!(decide (a < 0) == decide (b < 0))) (quoN (a.natAbs * b.natAbs) 4294967296 (!(up == !(decide (a < 0) == decide (b < 0))))).1 (quoN (a.natAbs * b.natAbs) 4294967296 (!(up == !(decide (a < 0) == decide (b < 0))))).2 = fit (rnd (a * b) 4294967296 up) := by
  have := sgnd_quoN (a.natAbs * b.natAbs) 4294967296 (by omega) (!(decide (a < 0) == decide (b < 0))) up
  rw [sign_mul] at this
  exact this
theorem sgnd_div (a b : Int) (up : Bool) (hb : b ≠ 0) :
    sgnd (!(decide (a < 0) == decide (b < 0))) (quoN (a.natAbs * 4294967296) b.natAbs (!(up == !(decide (a < 0) == decide (b < 0))))).1 (quoN (a.natAbs * 4294967296) b.natAbs (!(up == !(decide (a < 0) == decide (b < 0))))).2 =
      fit (rnd (if b < 0 then -(a * 4294967296) else a * 4294967296) b.natAbs up) := by
  have := sgnd_quoN (a.natAbs * 4294967296) b.natAbs (by omega) (!(decide (a < 0) == decide (b < 0))) up
  rw [this]
  congr 1
  congr 1
  rcases Int.lt_or_le a 0 with h1 | h1 <;> rcases Int.lt_or_le b 0 with h2 | h2
  · simp [h1, h2]; omega
  · have h3 : ¬ b < 0 := by omega
    simp [h1, h3]; omega
  · have h3 : ¬ a < 0 := by omega
    simp [h2, h3]; omega
  · have h3 : ¬ a < 0 := by omega
    have h4 : ¬ b < 0 := by omega
    simp [h4, h3]; omega
theorem quoN_lt (n d : Nat) (away : Bool) : (quoN n d away).1 < 18446744073709551616 := by
  unfold quoN; split
  · simp
  · simp only; split <;> omega
/-- The square root of a fixed-point number, rounded. -/
def fxRootOk (a : Int) : Bool := decide (0 ≤ a) && decide (a ≤ 4503599627370496)

end Go.Proofs.YtpdaigenffecmaaDoor
