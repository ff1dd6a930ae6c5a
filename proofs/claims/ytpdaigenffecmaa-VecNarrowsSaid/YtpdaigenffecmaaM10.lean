/-
  The walk of slices.Clone at digits; the law of math/bits.Add64's call; a row of digits. The walk of (digits).times. Plain laws: a power by its digits, its high part.
-/
import Derived.WalkKit
import Derived.Laws.OwnMore
import Derived.Lib.SliceRun
import Derived.Lib.SmallJoins
import Derived.Laws.Externs
import Derived.Lib.Hide
import Derived.Test.YtpdaigenffecmaaM03
import Derived.Test.YtpdaigenffecmaaM09
set_option linter.all false
namespace Go.Proofs.Ytpdaigenffecmaa
open Go.RowKit

/-- The cells of n digits. -/
def cellsOf (f : Nat → Nat) (n : Nat) : List Value := (List.range n).map fun j => Value.int .u64 ((f j : Nat) : Int)

theorem cellsOf_length (f : Nat → Nat) (n : Nat) : (cellsOf f n).length = n := by simp [cellsOf]

theorem cellsOf_get (f : Nat → Nat) (n j : Nat) (h : j < n) : (cellsOf f n)[j]? = some (Value.int .u64 ((f j : Nat) : Int)) := by simp [cellsOf, h]

theorem cellsOf_congr {f g : Nat → Nat} {n : Nat} (h : ∀ j, j < n → f j = g j) : cellsOf f n = cellsOf g n := by
  unfold cellsOf
  refine List.map_congr_left ?_
  intro j hj
  rw [h j (by simpa using hj)]

theorem cellsOf_set (f : Nat → Nat) (n k u : Nat) (hk : k < n) : (cellsOf f n).set k (Value.int .u64 ((u : Nat) : Int)) = cellsOf (fun j => if j = k then u else f j) n := by
  apply List.ext_getElem?
  intro j
  by_cases hj : j < n
  · rw [List.getElem?_set]
    by_cases e : k = j
    · subst e; rw [if_pos rfl, if_pos (by rw [cellsOf_length]; exact hk), cellsOf_get _ _ _ hk, if_pos rfl]
    · rw [cellsOf_get _ _ _ hj, if_neg e, cellsOf_get _ _ _ hj, if_neg (fun h => e h.symm)]
  · rw [List.getElem?_eq_none (by rw [List.length_set, cellsOf_length]; omega), List.getElem?_eq_none (by rw [cellsOf_length]; omega)]

theorem cellsOf_snoc (f : Nat → Nat) (n : Nat) : cellsOf f (n + 1) = cellsOf f n ++ [Value.int .u64 ((f n : Nat) : Int)] := by
  simp [cellsOf, List.range_succ]

theorem info_u64 : (Try.prog.info? 33).map (fun i => (i.zero, i.size, i.bytes)) = some (some (.int .u64 0), 1, 8) := by kernel_rfl

theorem und_digits : Try.prog.underlying 167 = some (.slice 33) := by kernel_rfl

theorem c_Add64 (x y : Nat) (hx : x < 18446744073709551616) (hy : y < 18446744073709551616) (w : World) :
    (callFunc 155 #[.int .u64 x, .int .u64 y, .int .u64 0]).run Try.prog w =
      .ok (.value (.tuple #[.int .u64 (((x + y) % 18446744073709551616 : Nat) : Int), .int .u64 (((x + y) / 18446744073709551616 : Nat) : Int)])) w := by
  rw [run_callFunc_extern Try.func155 (by kernel_rfl) (by kernel_rfl) (by kernel_rfl) (e := add64Entry) (by kernel_rfl), run_add64 x y 0 (by omega) (by omega) (by omega) (by omega)]
  simp only [Result.andThen]
  congr 5 <;> omega

set_option maxHeartbeats 2000000 in
set_option maxRecDepth 100000 in
theorem c_Clone (base : Nat) (v : Value) (n : Nat) (f : Nat → Nat) (w : World) (hn : 0 < n) (hn2 : n ≤ 100) (ho : w.ownsRow base 33 1 v n (cellsOf f n)) :
    Calls Try.prog 153 #[v] w fun e w' => ∃ v', e = .returned v' ∧ w'.ownsRow w.heap.size 33 1 v' n (cellsOf f n) ∧ Below w.heap.size w w' := by
  obtain ⟨g, cap, rfl⟩ := Joins.ownsRow_form ho hn
  have hc : ∀ j, j < n → w.cell? ⟨g, j, none⟩ = some (Value.int .u64 ((f j : Nat) : Int)) := by
    intro j hj
    rw [ho.cellAt j (by omega), cellsOf_get _ _ _ hj]
  clear ho
  obtain ⟨i0, hi, hz0, hz1, hz2⟩ := info_parts info_u64
  have A := Lib.hid hc; clear hc
  have q : ∀ (w : World) (a : Option Addr) (n c n' c' : Nat), (binOp .eql 167 (.slice a n c) (.slice none n' c')).run Try.prog w = .ok (.bool a.isNone) w := fun w a n c n' c' => Lib.run_eql_slice_nil w _ _ a n c n' c' und_digits
  go_enter Try.func153, Try.ntmps153
  go_wp2_with (at_builtin; refine wpList_append_own _ rfl _ _ 167 rfl w.heap.size 33 i0 (.int .u64 0) 1 8 und_digits hi hz0 hz1 hz2 rfl (by decide) _ _ _ rfl (World.ownsRow_made w #[] 0 (Nat.le_refl _) (Nat.zero_le _) rfl) ⟨g, 0, none⟩ n cap (cellsOf f n) rfl ?qc1 ?qc2 ?qc3 ?qc4 ?qc5 ?qc6 ?_)
  case qc1 => simp [cellsOf_length]
  case qc2 =>
    intro j u hj
    have hjn : j < n := by
      have := (List.getElem?_eq_some_iff.1 hj).1
      simpa [cellsOf_length] using this
    rw [Addr.add_lit]
    refine Lib.cell?_alloc_some _ ?_
    rw [Nat.zero_add, A.out j hjn]
    rw [cellsOf_get _ _ _ hjn] at hj
    exact hj
  case qc3 => intro u hu; unfold cellsOf at hu; obtain ⟨x, _, rfl⟩ := List.mem_map.1 hu; rfl
  case qc4 => unfold maxLen; omega
  case qc5 => omega
  case qc6 => simp
  intro v' w1 hown hgrow hnil
  go_wp2
  go_ret
  refine ⟨v', rfl, by simpa using hown, ?_⟩
  exact ((Below.refl _ w).alloc (Nat.le_refl _) _).grown hgrow (by simp) (by intro k hk; simp [Value.ownBlock] at hk; omega)

end Go.Proofs.Ytpdaigenffecmaa

namespace Go.Proofs.Ytpdaigenffecmaa
open Go.RowKit

/-- The digits when k of them have been multiplied. -/
def mixd (f : Nat → Nat) (m k : Nat) : Nat → Nat := fun j => if j < k then dg f m j else f j

theorem mixd_zero (f : Nat → Nat) (m : Nat) : mixd f m 0 = f := by funext j; simp [mixd]

theorem mixd_at (f : Nat → Nat) (m k : Nat) : mixd f m k k = f k := by simp [mixd]

theorem mixd_succ (f : Nat → Nat) (m k n : Nat) (hk : k < n) : (cellsOf (mixd f m k) n).set k (Value.int .u64 ((dg f m k : Nat) : Int)) = cellsOf (mixd f m (k + 1)) n := by
  rw [cellsOf_set _ _ _ _ hk]
  refine cellsOf_congr ?_
  intro j hj
  unfold mixd
  by_cases e : j = k
  · subst e; simp
  · by_cases h : j < k
    · simp [e, h, show j < k + 1 by omega]
    · simp [e, h, show ¬ j < k + 1 by omega]

theorem mixd_end (f : Nat → Nat) (m n : Nat) : cellsOf (mixd f m n) n ++ [Value.int .u64 ((cr f m n : Nat) : Int)] = cellsOf (stp f m n) (n + 1) := by
  rw [cellsOf_snoc, show stp f m n n = cr f m n by simp [stp]]
  congr 1
  refine cellsOf_congr ?_
  intro j hj
  simp [mixd, stp, hj]

/-- What the round reckons. -/
theorem dg_of (f : Nat → Nat) (m k : Nat) (hf : f k < B64) (hm : m < B64) :
    dg f m k = (f k * m % 18446744073709551616 + cr f m k) % 18446744073709551616 := by
  unfold dg; simp only [B64]; omega

theorem cr_of (f : Nat → Nat) (m k : Nat) (hf : f k < B64) (hm : m < B64) :
    cr f m (k + 1) = f k * m / 18446744073709551616 + (f k * m % 18446744073709551616 + cr f m k) / 18446744073709551616 := by
  show (f k * m + cr f m k) / B64 = _
  simp only [B64]; omega

theorem c_Mul64' (x y hi lo : Nat) (hx : x < 18446744073709551616) (hy : y < 18446744073709551616) (h1 : hi = x * y / 18446744073709551616) (h2 : lo = x * y % 18446744073709551616) (w : World) :
    Calls Try.prog 154 #[.int .u64 x, .int .u64 y] w fun e w' => e = .returned (.tuple #[.int .u64 (hi : Int), .int .u64 (lo : Int)]) ∧ w' = w := by
  subst h1; subst h2; exact c_Mul64 x y hx hy w

theorem c_Add64' (x y s o : Nat) (hx : x < 18446744073709551616) (hy : y < 18446744073709551616) (h1 : s = (x + y) % 18446744073709551616) (h2 : o = (x + y) / 18446744073709551616) (w : World) :
    (callFunc 155 #[.int .u64 x, .int .u64 y, .int .u64 0]).run Try.prog w =
      .ok (.value (.tuple #[.int .u64 (s : Int), .int .u64 (o : Int)])) w := by
  subst h1; subst h2; exact c_Add64 x y hx hy w

set_option maxHeartbeats 1000000 in
theorem c_times (base : Nat) (v : Value) (n m : Nat) (f : Nat → Nat) (w : World) (hn : 0 < n) (hn2 : n ≤ 40) (hf : ∀ j, f j < B64) (hm : m < B64) (ho : w.ownsRow base 33 1 v n (cellsOf f n)) :
    Calls Try.prog 141 #[v, .int .u64 m] w fun e w' => ∃ v', e = .returned v' ∧ w'.ownsRow w.heap.size 33 1 v' (n + 1) (cellsOf (stp f m n) (n + 1)) ∧ Below w.heap.size w w' := by
  have HF := Lib.hid hf; clear hf
  have HO := Lib.hid ho; clear ho
  have HM := Lib.hid hm; clear hm
  obtain ⟨i0, hi, hz0, hz1, hz2⟩ := info_parts info_u64
  have I := Lib.hid hi; clear hi
  go_enter Try.func141, Try.ntmps141
  go_wp2_with (go_at_call 153; refine (c_Clone base v n f _ hn (by omega) HO.out).mono ?_; rintro e w1 ⟨v1, rfl, hown, hb1⟩; obtain ⟨g, cap, rfl⟩ := Joins.ownsRow_form hown hn)
  have HW := Lib.hid hown; clear hown
  have HB := Lib.hid hb1; clear hb1
  go_loopw [6, 17] (fun c i wr => ∃ k : Nat, k ≤ n ∧ i = .int .i64 (k : Int) ∧ c = .int .u64 ((cr f m k : Nat) : Int) ∧ wr.ownsRow w.heap.size 33 1 (.slice (some ⟨g, 0, none⟩) n cap) n (cellsOf (mixd f m k) n) ∧ Below w.heap.size w wr) (fun _ i _ => n - (intOf i).toNat)
  case atStart => exact ⟨0, Nat.zero_le _, rfl, rfl, by rw [mixd_zero]; exact HW.out, HB.out⟩
  case round =>
    obtain ⟨k, hk, rfl, rfl, hown, hbe⟩ := hrel
    have HR := Lib.hid hown; clear hown
    have HE := Lib.hid hbe; clear hbe
    rcases Nat.lt_or_ge k n with hlt | hge
    · have t1 : decide ((k : Int) < (n : Int)) = true := by simp; omega
      have hcx : wr.cell? ⟨g, k, none⟩ = some (.int .u64 ((f k : Nat) : Int)) := by rw [HR.out.cellAt k (by omega), cellsOf_get _ _ _ hlt, mixd_at]
      have hfx : wr.frozen? ⟨g, k, none⟩ = false := HR.out.frozenAt k
      obtain ⟨x, hx⟩ : ∃ x, x = f k := ⟨_, rfl⟩
      obtain ⟨c, hc⟩ : ∃ c, c = cr f m k := ⟨_, rfl⟩
      obtain ⟨h, hh⟩ : ∃ h, h = x * m / 18446744073709551616 := ⟨_, rfl⟩
      obtain ⟨l, hl⟩ : ∃ l, l = x * m % 18446744073709551616 := ⟨_, rfl⟩
      obtain ⟨s, hs⟩ : ∃ s, s = (l + c) % 18446744073709551616 := ⟨_, rfl⟩
      obtain ⟨o, hoo⟩ : ∃ o, o = (l + c) / 18446744073709551616 := ⟨_, rfl⟩
      have e1 : dg f m k = s := by rw [dg_of f m k (HF.out k) HM.out, ← hx, ← hc, ← hl, hs]
      have e2 : cr f m (k + 1) = h + o := by rw [cr_of f m k (HF.out k) HM.out, ← hx, ← hc, ← hl, ← hh, hoo]
      have b1 : h + o < 18446744073709551616 := by rw [← e2]; exact cr_lt f m HF.out HM.out (k + 1)
      have b2 : c < 18446744073709551616 := by rw [hc]; exact cr_lt f m HF.out HM.out k
      have b3 : x < 18446744073709551616 := by rw [hx]; exact HF.out k
      have b4 : l < 18446744073709551616 := by rw [hl]; omega
      have b5 : m < 18446744073709551616 := HM.out
      rw [← hx] at hcx
      rw [← hc]
      have E1 := Lib.hid e1; clear e1
      have E2 := Lib.hid e2; clear e2
      have HX := Lib.hid hx; clear hx
      have HC := Lib.hid hc; clear hc
      have HH := Lib.hid hh; clear hh
      have HL := Lib.hid hl; clear hl
      have HS := Lib.hid hs; clear hs
      have HOO := Lib.hid hoo; clear hoo
      go_wp2_with (first | (go_at_call 154; refine (c_Mul64' x m h l b3 b5 HH.out HL.out _).mono ?_; rintro e w3 ⟨rfl, rfl⟩) | (simp only [c_Add64' l c s o b4 b2 HS.out HOO.out]))
      go_roundw
      case rel =>
        refine ⟨k + 1, hlt, by simp, ?_, ?_, ?_⟩
        · rw [E2.out]; simp
        · rw [← mixd_succ f m k n hlt, E1.out]; exact (HR.out.stored k _).1
        · exact HE.out.setCell (by have := HR.out.lt g rfl; simpa using this.1) _
      case measure => simp [intOf]; omega
    · have hkn : k = n := by omega
      subst hkn
      have hgw : g < wr.heap.size := (HR.out.lt g rfl).2
      have hwg : w.heap.size ≤ g := (HR.out.lt g rfl).1
      have hws : w.heap.size ≤ wr.heap.size := by omega
      go_wp2_with (at_builtin; refine wpList_append_own _ rfl _ _ 167 rfl w.heap.size 33 i0 (.int .u64 0) 1 8 und_digits I.out hz0 hz1 hz2 rfl (by decide) _ _ _ rfl (HR.out.alloc _) ⟨wr.heap.size, 0, none⟩ 1 1 [.int .u64 ((cr f m k : Nat) : Int)] rfl ?qc1 ?qc2 ?qc3 ?qc4 ?qc5 ?qc6 ?_)
      case qc1 => rfl
      case qc2 =>
        intro j u hj
        match j, hj with
        | 0, hj => simp at hj; subst hj; simp [Addr.add]
      case qc3 => intro u hu; simp at hu; subst hu; rfl
      case qc4 => unfold maxLen; omega
      case qc5 => omega
      case qc6 => simp; omega
      intro v' w2 hown' hgrow _
      go_wp2
      go_ret
      refine ⟨v', rfl, ?_, ?_⟩
      · rw [← mixd_end f m k]; exact hown'
      · exact (HE.out.alloc hws _).grown hgrow (by simp; omega) (by intro q hq; simp [Value.ownBlock] at hq; omega)

end Go.Proofs.Ytpdaigenffecmaa

namespace Go.Proofs.Ytpdaigenffecmaa

theorem valTo_ext (g : Nat → Nat) (L : Nat) (hz : ∀ j, L ≤ j → g j = 0) : ∀ k, valTo g (L + k) = valTo g L
  | 0 => rfl
  | k + 1 => by
    show valTo g (L + k) + g (L + k) * B64 ^ (L + k) = _
    rw [valTo_ext g L hz k, hz (L + k) (by omega)]; simp

/-- What stands above the digit s + 1. -/
def topOf (g : Nat → Nat) (s L : Nat) : Nat := valTo (fun j => g (s + (1 + (1 + j)))) L

theorem valTo_parts (g : Nat → Nat) (s L : Nat) (hg : ∀ j, g j < B64) (hz : ∀ j, L ≤ j → g j = 0) :
    valTo g L / B64 ^ s = g s + (g (s + 1) + topOf g s L * B64) * B64 ∧ valTo g L % B64 ^ s = valTo g s := by
  have e : valTo g L = valTo g s + (g s + (g (s + 1) + topOf g s L * B64) * B64) * B64 ^ s := by
    rw [← valTo_ext g L hz (s + 2), show L + (s + 2) = s + (L + 1 + 1) by omega, valTo_split, valTo_one_add, valTo_one_add]
    rfl
  have hl := valTo_lt g hg s
  have hp : 0 < B64 ^ s := Nat.pow_pos (by decide)
  rw [e]
  constructor
  · rw [Nat.add_mul_div_right _ _ hp, Nat.div_eq_of_lt hl, Nat.zero_add]
  · rw [Nat.add_mul_mod_self_right, Nat.mod_eq_of_lt hl]

theorem topOf_zero (g : Nat → Nat) (s L : Nat) (h : ∀ j, s + 2 ≤ j → g j = 0) : topOf g s L = 0 :=
  (valTo_zero _ _).2 fun j _ => h _ (by omega)

theorem topOf_pos (g : Nat → Nat) (s L j : Nat) (hz : ∀ j, L ≤ j → g j = 0) (h1 : s + 2 ≤ j) (h2 : g j ≠ 0) : 1 ≤ topOf g s L := by
  rcases Nat.eq_zero_or_pos (topOf g s L) with e | e
  · exfalso
    have := (valTo_zero _ _).1 e (j - s - 2) (by rcases Nat.lt_or_ge j L with h | h; · omega
                                                 · exact absurd (hz j h) h2)
    rw [show s + (1 + (1 + (j - s - 2))) = j by omega] at this
    exact h2 this
  · exact e

theorem high0_fits (g : Nat → Nat) (s L : Nat) (hg : ∀ j, g j < B64) (hz : ∀ j, L ≤ j → g j = 0) (h1 : g (s + 1) = 0) (h2 : ∀ j, s + 2 ≤ j → g j = 0) :
    valTo g L / B64 ^ s = g s ∧ valTo g L % B64 ^ s = valTo g s := by
  obtain ⟨a, b⟩ := valTo_parts g s L hg hz
  rw [topOf_zero g s L h2, h1] at a
  exact ⟨by simpa using a, b⟩

theorem high0_big (g : Nat → Nat) (s L : Nat) (hg : ∀ j, g j < B64) (hz : ∀ j, L ≤ j → g j = 0) (h : g (s + 1) ≠ 0 ∨ ∃ j, s + 2 ≤ j ∧ g j ≠ 0) :
    B64 ≤ valTo g L / B64 ^ s := by
  obtain ⟨a, _⟩ := valTo_parts g s L hg hz
  rw [a]
  rcases h with h | ⟨j, hj, h⟩
  · simp only [B64] at *; omega
  · have := topOf_pos g s L j hz hj h
    simp only [B64] at *; omega

theorem high32_fits (g : Nat → Nat) (s L : Nat) (hg : ∀ j, g j < B64) (hz : ∀ j, L ≤ j → g j = 0) (h2 : ∀ j, s + 2 ≤ j → g j = 0) :
    valTo g L / (B64 ^ s * 4294967296) = g s / 4294967296 + g (s + 1) * 4294967296 ∧ (valTo g L % (B64 ^ s * 4294967296) = 0 ↔ valTo g s = 0 ∧ g s % 4294967296 = 0) := by
  obtain ⟨a, b⟩ := valTo_parts g s L hg hz
  rw [topOf_zero g s L h2] at a
  constructor
  · rw [← Nat.div_div_eq_div_mul, a]; simp only [B64]; omega
  · rw [Nat.mod_mul, a, b]
    have hp : 0 < B64 ^ s := Nat.pow_pos (by decide)
    have e : (g s + (g (s + 1) + 0 * B64) * B64) % 4294967296 = g s % 4294967296 := by simp only [B64]; omega
    rw [e]
    constructor
    · intro h
      refine ⟨by omega, ?_⟩
      have h2 : B64 ^ s * (g s % 4294967296) = 0 := by omega
      rcases Nat.mul_eq_zero.1 h2 with h | h
      · omega
      · exact h
    · rintro ⟨h, h'⟩; rw [h, h']; simp

theorem high32_big (g : Nat → Nat) (s L : Nat) (hg : ∀ j, g j < B64) (hz : ∀ j, L ≤ j → g j = 0) (h : 4294967296 ≤ g (s + 1) ∨ ∃ j, s + 2 ≤ j ∧ g j ≠ 0) :
    B64 ≤ valTo g L / (B64 ^ s * 4294967296) := by
  obtain ⟨a, _⟩ := valTo_parts g s L hg hz
  rw [← Nat.div_div_eq_div_mul, a]
  rcases h with h | ⟨j, hj, h⟩
  · simp only [B64] at *; omega
  · have := topOf_pos g s L j hz hj h
    simp only [B64] at *; omega

/-- A power of a fixed-point number, rounded down and up. -/
def pwS (v : Int) (n : Nat) : Int × Int × Int :=
  let P := v.natAbs ^ n
  let D := 4294967296 ^ (n - 1)
  if 4503599627370496 < P / D then (0, 0, 6) else
  let q : Int := ((P / D : Nat) : Int)
  let u : Int := if P % D = 0 then q else q + 1
  if v < 0 ∧ n % 2 = 1 then (-u, -q, 0) else (q, u, 0)

theorem pwS_big (v : Int) (n : Nat) (h : 4503599627370496 < v.natAbs ^ n / 4294967296 ^ (n - 1)) : pwS v n = (0, 0, 6) := by
  unfold pwS; simp only; rw [if_pos h]

theorem pwS_fits (v : Int) (n q : Nat) (r sg : Bool) (hq : q = v.natAbs ^ n / 4294967296 ^ (n - 1)) (h : q ≤ 4503599627370496) (hr : r = decide (v.natAbs ^ n % 4294967296 ^ (n - 1) ≠ 0)) (hs : sg = decide (v < 0 ∧ n % 2 = 1)) :
    pwS v n = if sg then (-(if r then (q : Int) + 1 else q), -(q : Int), 0) else ((q : Int), (if r then (q : Int) + 1 else q), 0) := by
  unfold pwS; simp only; rw [← hq, if_neg (by omega)]
  subst hs; subst hr
  by_cases h1 : v < 0 ∧ n % 2 = 1 <;> by_cases h2 : v.natAbs ^ n % 4294967296 ^ (n - 1) = 0 <;> simp [h1, h2]

theorem D_even (s : Nat) : 4294967296 ^ (2 * s) = B64 ^ s := by rw [Nat.pow_mul]
theorem D_odd (s : Nat) : 4294967296 ^ (2 * s + 1) = B64 ^ s * 4294967296 := by rw [Nat.pow_succ, Nat.pow_mul]

end Go.Proofs.Ytpdaigenffecmaa
