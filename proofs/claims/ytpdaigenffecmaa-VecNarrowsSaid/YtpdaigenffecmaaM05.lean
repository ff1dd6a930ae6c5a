/-
  The walks of package fix, the second part: the quotient, the sign, products and quotients.
-/
import Derived.Deep.RegionHeld3
import Derived.Test.YtpdaigenffecmaaM04
set_option linter.all false
namespace Go.Proofs.Ytpdaigenffecmaa
open Go.RowKit

theorem quoN_big {N d : Nat} (hd : 0 < d) (h : d ≤ hi64 N) (away : Bool) : quoN N d away = (0, false) := by
  unfold quoN
  rw [if_pos]
  have h1 := hilo N
  have h2 : d * 18446744073709551616 ≤ N := by
    have := Nat.mul_le_mul_right 18446744073709551616 h
    omega
  have h3 : 18446744073709551616 ≤ N / d := by
    rw [Nat.le_div_iff_mul_le hd, Nat.mul_comm]; exact h2
  omega

set_option maxHeartbeats 1000000 in
theorem c_quotient (N d : Nat) (away : Bool) (w : World) (hd : 0 < d) (hd2 : d < 18446744073709551616) :
    Calls Try.prog 149 #[.agg #[.int .u64 (hi64 N), .int .u64 (lo64 N)], .int .u64 d, .bool away] w fun e w' =>
      e = .returned (.tuple #[.int .u64 ((quoN N d away).1 : Int), .bool (quoN N d away).2]) ∧ Below w.heap.size w w' := by
  rcases Nat.lt_or_ge (hi64 N) d with h | h
  · have hq : Calls Try.prog 161 #[.int .u64 (hi64 N), .int .u64 (lo64 N), .int .u64 d] (w.alloc (.cells #[.int .u64 (hi64 N), .int .u64 (lo64 N)] 177)) fun e w' => e = .returned (.tuple #[.int .u64 ((N / d : Nat) : Int), .int .u64 ((N % d : Nat) : Int)]) ∧ Below (w.heap.size + 1) (w.alloc (.cells #[.int .u64 (hi64 N), .int .u64 (lo64 N)] 177)) w' := by
      have := c_Div64 (hi64 N) (lo64 N) d (w.alloc (.cells #[.int .u64 (hi64 N), .int .u64 (lo64 N)] 177)) (lo64_lt N) h hd2
      rw [hilo] at this
      simpa using this
    have Hq := Lib.hid hq; clear hq
    obtain ⟨q, hq⟩ : ∃ q, q = N / d := ⟨_, rfl⟩
    obtain ⟨r, hr⟩ : ∃ r, r = N % d := ⟨_, rfl⟩
    rw [← hq, ← hr] at Hq
    have hl : ¬ (d : Int) ≤ (hi64 N : Int) := by omega
    have hs : Hid (quoN N d away = if 4503599627370496 < q then (0, false) else (q + (if away = true ∧ 0 < r then 1 else 0), true)) := by unfold Hid quoN; rw [← hq, ← hr]
    clear hq hr h
    have H2 := Lib.hid hd; clear hd hd2
    rcases Nat.lt_or_ge 4503599627370496 q with h3 | h3
    · have h3' : decide ((4503599627370496 : Int) < (q : Int)) = true := by simp; omega
      have hs' : Hid (quoN N d away = (0, false)) := by unfold Hid; rw [hs.out, if_pos h3]
      clear h3 hs
      go_enter Try.func149, Try.ntmps149
      go_wp2_with (go_at_call 161; refine Hq.out.mono ?_; rintro e w1 ⟨rfl, hb1⟩)
      go_ret2
      exact ⟨by rw [hs'.out]; rfl, ((Below.refl _ _).alloc (Nat.le_refl _) _).trans (hb1.mono (by omega))⟩
    · have h3' : decide ((4503599627370496 : Int) < (q : Int)) = false := by simp; omega
      have h3'' : (q : Int) ≤ 4503599627370496 := by omega
      have hs0 : Hid (quoN N d away = (q + (if away = true ∧ 0 < r then 1 else 0), true)) := by unfold Hid; rw [hs.out, if_neg (by omega)]
      clear h3 hs
      cases away with
      | false =>
        have hs' : Hid (quoN N d false = (q, true)) := by unfold Hid; rw [hs0.out]; simp
        go_enter Try.func149, Try.ntmps149
        go_wp2_with (go_at_call 161; refine Hq.out.mono ?_; rintro e w1 ⟨rfl, hb1⟩)
        go_ret2
        exact ⟨by rw [hs'.out]; rfl, ((Below.refl _ _).alloc (Nat.le_refl _) _).trans (hb1.mono (by omega))⟩
      | true =>
        rcases Nat.eq_zero_or_pos r with h4 | h4
        · have h4' : decide ((0 : Int) < (r : Int)) = false := by simp; omega
          have h4n : decide (0 < r) = false := by simp; omega
          have hs' : Hid (quoN N d true = (q, true)) := by unfold Hid; rw [hs0.out, if_neg (by omega)]; rfl
          have H4 := Lib.hid h4; clear h4
          go_enter Try.func149, Try.ntmps149
          go_wp2_with (go_at_call 161; refine Hq.out.mono ?_; rintro e w1 ⟨rfl, hb1⟩)
          go_ret2
          exact ⟨by rw [hs'.out]; rfl, ((Below.refl _ _).alloc (Nat.le_refl _) _).trans (hb1.mono (by omega))⟩
        · have h4' : decide ((0 : Int) < (r : Int)) = true := by simp; omega
          have h4n : decide (0 < r) = true := by simp; omega
          have hs' : Hid (quoN N d true = (q + 1, true)) := by unfold Hid; rw [hs0.out, if_pos ⟨rfl, h4⟩]
          go_enter Try.func149, Try.ntmps149
          go_wp2_with (go_at_call 161; refine Hq.out.mono ?_; rintro e w1 ⟨rfl, hb1⟩)
          go_ret2
          exact ⟨by rw [hs'.out]; simp, ((Below.refl _ _).alloc (Nat.le_refl _) _).trans (hb1.mono (by omega))⟩
  · have hs' : Hid (quoN N d away = (0, false)) := quoN_big hd h away
    have h' : (d : Int) ≤ (hi64 N : Int) := by omega
    clear hd2
    go_enter Try.func149, Try.ntmps149
    go_wp2
    go_ret2
    exact ⟨by rw [hs'.out]; rfl, (Below.refl _ _).alloc (Nat.le_refl _) _⟩

set_option maxHeartbeats 400000 in
theorem c_signed (k : Nat) (caps : Array Value) (neg up fits : Bool) (n : Nat) (w : World)
    (he : ∀ args w, (callFunc k args).run Try.prog w = .ok (.enter k args) w)
    (hcall : Calls Try.prog k (#[.bool (!(up == neg))] ++ caps) w fun e w' => e = .returned (.tuple #[.int .u64 n, .bool fits]) ∧ Below w.heap.size w w') :
    Calls Try.prog 147 #[.bool neg, .bool up, .func (.func k) #[] caps] w fun e w' =>
      e = .returned (.tuple #[.int .i64 (sgnd neg n fits).1, .int .i64 (sgnd neg n fits).2]) ∧ Below w.heap.size w w' := by
  have H := Lib.hid hcall; clear hcall
  cases fits with
  | false =>
    have hs : Hid (sgnd neg n false = (0, 6)) := by unfold Hid sgnd; simp
    go_enter Try.func147, Try.ntmps147
    go_wp2_with ((with_reducible refine H.out.mono ?_); rintro e w1 ⟨rfl, hb1⟩)

    go_ret2
    exact ⟨by rw [hs.out]; rfl, hb1⟩
  | true =>
    rcases Nat.lt_or_ge 4503599627370496 n with h3 | h3
    · have h3' : decide ((4503599627370496 : Int) < (n : Int)) = true := by simp; omega
      have hs : Hid (sgnd neg n true = (0, 6)) := by unfold Hid sgnd; rw [if_pos (.inr h3)]
      clear h3
      go_enter Try.func147, Try.ntmps147
      go_wp2_with ((with_reducible refine H.out.mono ?_); rintro e w1 ⟨rfl, hb1⟩)
      go_ret2
      exact ⟨by rw [hs.out]; rfl, hb1⟩
    · have h3' : decide ((4503599627370496 : Int) < (n : Int)) = false := by simp; omega
      have h3'' : (n : Int) ≤ 4503599627370496 := by omega
      have hs : Hid (sgnd neg n true = (if neg then -(n : Int) else n, 0)) := by unfold Hid sgnd; rw [if_neg (by simp; omega)]
      clear h3
      go_enter Try.func147, Try.ntmps147
      go_wp2_with ((with_reducible refine H.out.mono ?_); rintro e w1 ⟨rfl, hb1⟩)
      all_goals (go_ret2; exact ⟨by rw [hs.out]; simp_all, hb1⟩)

theorem c_signed2 (k : Nat) (p q : Value) (neg up fits : Bool) (n : Nat) (w : World)
    (he : ∀ args w, (callFunc k args).run Try.prog w = .ok (.enter k args) w)
    (hcall : Calls Try.prog k #[.bool (!(up == neg)), p, q] w fun e w' => e = .returned (.tuple #[.int .u64 n, .bool fits]) ∧ Below w.heap.size w w') :
    Calls Try.prog 147 #[.bool neg, .bool up, .func (.func k) #[] #[p, q]] w fun e w' =>
      e = .returned (.tuple #[.int .i64 (sgnd neg n fits).1, .int .i64 (sgnd neg n fits).2]) ∧ Below w.heap.size w w' :=
  c_signed k #[p, q] neg up fits n w he (by simpa using hcall)
theorem c_signed1 (k : Nat) (p : Value) (neg up fits : Bool) (n : Nat) (w : World)
    (he : ∀ args w, (callFunc k args).run Try.prog w = .ok (.enter k args) w)
    (hcall : Calls Try.prog k #[.bool (!(up == neg)), p] w fun e w' => e = .returned (.tuple #[.int .u64 n, .bool fits]) ∧ Below w.heap.size w w') :
    Calls Try.prog 147 #[.bool neg, .bool up, .func (.func k) #[] #[p]] w fun e w' =>
      e = .returned (.tuple #[.int .i64 (sgnd neg n fits).1, .int .i64 (sgnd neg n fits).2]) ∧ Below w.heap.size w w' :=
  c_signed k #[p] neg up fits n w he (by simpa using hcall)

end Go.Proofs.Ytpdaigenffecmaa
