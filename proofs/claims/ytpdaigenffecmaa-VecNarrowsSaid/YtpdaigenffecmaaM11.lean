/-
  The walk of (digits).high and of its closure.
-/
import Derived.Deep.QuietTactic
import Derived.BigQuiet
import Derived.Lib.EndianBits
import Derived.Test.YtpdaigenffecmaaM10
set_option linter.all false
namespace Go.Proofs.Ytpdaigenffecmaa
open Go.RowKit

/-- Digit i; 0 behind the last. -/
def atd (f : Nat → Nat) (n i : Nat) : Nat := if i < n then f i else 0

theorem atd_lt (f : Nat → Nat) (n i : Nat) (hf : ∀ j, f j < B64) : atd f n i < B64 := by
  unfold atd; split
  · exact hf i
  · decide

set_option maxHeartbeats 400000 in
theorem c_at (pb base : Nat) (v : Value) (n i : Nat) (I : Int) (hI : I = (i : Int)) (f : Nat → Nat) (x : Nat) (hx : x = atd f n i) (w : World) (hn : 0 < n) (hc : w.cell? ⟨pb, 0, none⟩ = some v) (ho : w.ownsRow base 33 1 v n (cellsOf f n)) :
    Calls Try.prog 156 #[.int .i64 I, .pointer (some ⟨pb, 0, none⟩)] w fun e w' => e = .returned (.int .u64 (x : Int)) ∧ w' = w := by
  subst hI
  have HXX := Lib.hid hx; clear hx
  obtain ⟨g, cap, rfl⟩ := Joins.ownsRow_form ho hn
  have HO := Lib.hid ho; clear ho
  rcases Nat.lt_or_ge i n with hlt | hge
  · have t1 : decide ((i : Int) < (n : Int)) = true := by simp; omega
    have hx : w.cell? ⟨g, i, none⟩ = some (.int .u64 ((f i : Nat) : Int)) := by rw [HO.out.cellAt i (by omega), cellsOf_get _ _ _ hlt]
    have e : x = f i := by rw [HXX.out]; simp [atd, hlt]
    have E := Lib.hid e; clear e
    go_enter Try.func156, Try.ntmps156
    go_wp2
    go_ret
    exact ⟨by show Ending.returned (Value.int .u64 ((f i : Nat) : Int)) = _; rw [E.out], rfl⟩
  · have t1 : decide ((i : Int) < (n : Int)) = false := by simp; omega
    have e : x = 0 := by rw [HXX.out]; unfold atd; rw [if_neg (by omega)]
    have E := Lib.hid e; clear e
    go_enter Try.func156, Try.ntmps156
    go_wp2
    go_ret
    exact ⟨by rw [E.out]; rfl, rfl⟩

/-- What (digits).high answers at 64 s + 32 bits. -/
def High32 (f : Nat → Nat) (n s : Nat) (w : World) (e : Ending) (w' : World) : Prop :=
  Below w.heap.size w w' ∧ ∃ (q : Nat) (r ft : Bool), e = .returned (.tuple #[.int .u64 (q : Int), .bool r, .bool ft]) ∧
    (ft = true → atd f n (s + 1) < 4294967296 ∧ (∀ j, s + 2 ≤ j → atd f n j = 0) ∧ q = atd f n s / 4294967296 + atd f n (s + 1) * 4294967296 ∧ r = (decide (valTo (atd f n) s ≠ 0) || decide (atd f n s % 4294967296 ≠ 0))) ∧
    (ft = false → 4294967296 ≤ atd f n (s + 1) ∨ ∃ j, s + 2 ≤ j ∧ atd f n j ≠ 0)

set_option maxHeartbeats 1000000 in
theorem c_high32 (base : Nat) (v : Value) (n s : Nat) (N : Int) (f : Nat → Nat) (w : World) (hn : 0 < n) (hn2 : n ≤ 40) (hs : s ≤ 40) (hN : N = 64 * (s : Int) + 32) (hf : ∀ j, f j < B64) (hbl : base ≤ w.heap.size) (ho : w.ownsRow base 33 1 v n (cellsOf f n)) :
    Calls Try.prog 142 #[v, .int .i64 N] w (High32 f n s w) := by
  obtain ⟨g, cap, rfl⟩ := Joins.ownsRow_form ho hn
  have HF := Lib.hid hf; clear hf
  have HO := Lib.hid ho; clear ho
  have n3 : N / 64 = (s : Int) := by omega
  have n4 : N % 64 = 32 := by omega
  have n5 : 0 ≤ N := by omega
  have HN := Lib.hid hN; clear hN
  go_enter Try.func142, Try.ntmps142
  go_wp2
  rw [n3, n4]
  clear n3 n4 n5
  have HB : Hid (Below w.heap.size w (w.alloc (Obj.cells #[Value.slice (some { block := g, off := 0 }) n cap] 167))) := (Below.refl _ w).alloc (Nat.le_refl _) _
  have HC : (w.alloc (Obj.cells #[Value.slice (some { block := g, off := 0 }) n cap] 167)).cell? ⟨w.heap.size, 0, none⟩ = some (Value.slice (some { block := g, off := 0 }) n cap) := by simp [go_sem]
  have HW : Hid ((w.alloc (Obj.cells #[Value.slice (some { block := g, off := 0 }) n cap] 167)).ownsRow base 33 1 (Value.slice (some { block := g, off := 0 }) n cap) n (cellsOf f n)) := HO.out.alloc _
  generalize w.alloc (Obj.cells #[Value.slice (some { block := g, off := 0 }) n cap] 167) = W at HB HC HW ⊢
  go_loop [5, 18] (fun r i => ∃ k : Nat, k ≤ s ∧ i = .int .i64 (k : Int) ∧ r = .bool (decide (valTo (atd f n) k ≠ 0))) (fun _ i => s - (intOf i).toNat)
  case atStart => exact ⟨0, Nat.zero_le _, rfl, rfl⟩
  case round =>
    obtain ⟨k, hk, rfl, rfl⟩ := hrel
    rcases Nat.lt_or_ge k s with hlt | hge
    · have t1 : decide ((k : Int) < (s : Int)) = true := by simp; omega
      obtain ⟨x, hx⟩ : ∃ x, x = atd f n k := ⟨_, rfl⟩
      obtain ⟨b, hb⟩ : ∃ b, b = decide (valTo (atd f n) k ≠ 0) := ⟨_, rfl⟩
      have hv : valTo (atd f n) (k + 1) = valTo (atd f n) k + x * B64 ^ k := by rw [hx]; rfl
      rw [← hb]
      have hp : 0 < B64 ^ k := Nat.pow_pos (by decide)
      have hr : decide (valTo (atd f n) (k + 1) ≠ 0) = (b || decide ((0 : Int) < (x : Int))) := by
        rw [hv, hb]
        rcases Nat.eq_zero_or_pos x with e | e
        · subst e; simp
        · have : 0 < x * B64 ^ k := Nat.mul_pos e hp
          simp [e]; omega
      have HR := Lib.hid hr
      have HX := Lib.hid hx
      clear hr hx hv hb hp
      cases b
      all_goals go_wp2_with (go_at_call 156; refine (c_at w.heap.size base _ n k _ (by omega) f x HX.out _ hn HC HW.out).mono ?_; rintro e w3 ⟨rfl, rfl⟩)
      all_goals go_round
      all_goals first
        | (exact ⟨k + 1, hlt, by simp, by rw [HR.out]; first | rfl | simp⟩)
        | (refine ⟨k + 1, hlt, by simp, ?_⟩; rw [HR.out]; simp; done)
        | (simp [intOf]; done)
        | (simp [intOf]; omega)
        | (fail)
    · have hks : k = s := by omega
      subst hks
      obtain ⟨x, hx⟩ : ∃ x, x = atd f n k := ⟨_, rfl⟩
      obtain ⟨y, hy⟩ : ∃ y, y = atd f n (k + 1) := ⟨_, rfl⟩
      obtain ⟨b, hb⟩ : ∃ b, b = decide (valTo (atd f n) k ≠ 0) := ⟨_, rfl⟩
      have bx : x < 18446744073709551616 := by rw [hx]; exact atd_lt f n k HF.out
      have bY : y < 18446744073709551616 := by rw [hy]; exact atd_lt f n _ HF.out
      obtain ⟨m, hm⟩ : ∃ m, m = x % 4294967296 := ⟨_, rfl⟩
      obtain ⟨z, hz⟩ : ∃ z, z = y * 4294967296 % 18446744073709551616 := ⟨_, rfl⟩
      obtain ⟨q, hq⟩ : ∃ q, q = x / 4294967296 + z := ⟨_, rfl⟩
      have a1 : bits .and .u64 (x : Int) 4294967295 = (m : Int) := by
        have := bits_mask .u64 64 (by decide) wraps_u64 32 (by decide) (x : Int) (by omega) (by omega)
        rw [show ((2 : Int) ^ 32 - 1) = 4294967295 by decide] at this
        rw [this, hm, show ((2 : Int) ^ 32) = 4294967296 by decide]; omega
      have s1 : IntKind.u64.wrap ((y : Int) * 4294967296) = (z : Int) := by
        rw [hz]; simp [IntKind.wrap, IntKind.bits, IntKind.signed]
      have o1 : bits .or .u64 ((x : Int) / 4294967296) (z : Int) = (q : Int) := by
        rw [bits_join_low .u64 64 (by decide) wraps_u64 32 ((x : Int) / 4294967296) (z : Int) (by omega) (by rw [show ((2 : Int) ^ 32) = 4294967296 by decide]; omega) (by rw [show ((2 : Int) ^ 64) = 18446744073709551616 by decide]; omega) (by omega) (by rw [show ((2 : Int) ^ 32) = 4294967296 by decide, hz]; omega) (by rw [show ((2 : Int) ^ 64) = 18446744073709551616 by decide, hz]; omega), hq]; omega
      have em : decide (0 < m) = decide (x % 4294967296 ≠ 0) := by rw [hm]; exact decide_eq_decide.2 (by omega)
      rw [← hb]
      have HX := Lib.hid hx
      have HY := Lib.hid hy
      have HV := Lib.hid hb
      have HM := Lib.hid em
      have HQ : Hid (y < 4294967296 → q = x / 4294967296 + y * 4294967296) := by intro h; rw [hq, hz]; omega
      clear hx hy hb hm hz hq em
      have t1 : decide ((k : Int) < (k : Int)) = false := by simp
      rcases Nat.lt_or_ge y 4294967296 with hy | hy
      · have ty : decide ((0 : Int) < (y : Int) / 4294967296) = false := by simp; omega
        cases b
        all_goals go_wp2_with (first | (go_quiet (first | (go_at_call 156; refine Calls.quiet_of_same (c_at w.heap.size base _ n k _ (by omega) f x HX.out _ hn (by simpa using HC) HW.out)) | (go_at_call 156; refine Calls.quiet_of_same (c_at w.heap.size base _ n (k + 1) _ (by omega) f y HY.out _ hn (by simpa using HC) HW.out))); (have HC : (W.drewN nq).cell? ⟨w.heap.size, 0, none⟩ = some (Value.slice (some { block := g, off := 0 }) n cap) := (by simpa using HC)); (have HW : Hid ((W.drewN nq).ownsRow base 33 1 (Value.slice (some { block := g, off := 0 }) n cap) n (cellsOf f n)) := HW.out); (have HB : Hid (Below w.heap.size w (W.drewN nq)) := (below_drewN HB.out _)); generalize W.drewN nq = W at HC HW HB ⊢) | (go_at_call 156; refine (c_at w.heap.size base _ n (k + 1) _ (by omega) f y HY.out _ hn (by simpa using HC) HW.out).mono ?_; rintro e w3 ⟨rfl, rfl⟩))
        · go_loop [4, 5, 11] (fun u4 u5 i => u4 = .int .u64 (q : Int) ∧ u5 = .bool (decide (0 < m)) ∧ ∃ j : Nat, i = .int .i64 (j : Int) ∧ k + 2 ≤ j ∧ j ≤ n + k + 2 ∧ Hid (∀ t, k + 2 ≤ t → t < j → atd f n t = 0)) (fun _ _ i => n + k + 2 - (intOf i).toNat)
          case atStart => exact ⟨rfl, rfl, k + 2, by congr 1, Nat.le_refl _, by omega, fun t h1 h2 => by omega⟩
          obtain ⟨rfl, rfl, j, rfl, hj1, hj2, hj3⟩ := hrel
          rcases Nat.lt_or_ge j n with hjn | hjn
          · have t2 : decide ((j : Int) < (n : Int)) = true := by simp; omega
            obtain ⟨gx, hgx⟩ : ∃ gx, gx = f j := ⟨_, rfl⟩
            have hxj : w3.cell? ⟨g, j, none⟩ = some (.int .u64 (gx : Int)) := by rw [hgx, HW.out.cellAt j (by omega), cellsOf_get _ _ _ hjn]
            have eaj : atd f n j = gx := by rw [hgx]; simp [atd, hjn]
            have EA := Lib.hid eaj; clear eaj
            clear hgx
            rcases Nat.eq_zero_or_pos gx with hfj | hfj
            · subst hfj
              go_wp2
              go_round
              case rel =>
                refine ⟨rfl, rfl, j + 1, by simp, by omega, by omega, ?_⟩
                intro t h1 h2
                rcases Nat.lt_or_ge t j with h | h
                · exact hj3.out t h1 h
                · rw [show t = j by omega]; exact EA.out
              case measure => simp [intOf]; omega
            · have t3 : decide ((0 : Int) < (gx : Int)) = true := by simp; omega
              have HG := Lib.hid hfj
              go_wp2
              refine bodyPost_ret (v := .tuple #[.int .u64 0, .bool false, .bool false]) (by simp [results, Try.results142, go_sem, *]) rfl ⟨HB.out, 0, false, false, rfl, nofun, fun _ => .inr ⟨j, hj1, by rw [EA.out]; have := HG.out; omega⟩⟩
          · have t2 : decide ((j : Int) < (n : Int)) = false := by simp; omega
            have hz : ∀ t, k + 2 ≤ t → atd f n t = 0 := by
              intro t ht
              rcases Nat.lt_or_ge t j with h | h
              · exact hj3.out t ht h
              · unfold atd; rw [if_neg (by omega)]
            have HZ := Lib.hid hz; clear hz
            go_wp2
            refine bodyPost_ret (v := .tuple #[.int .u64 (q : Int), .bool (decide (0 < m)), .bool true]) (by simp [results, Try.results142, go_sem, *]) rfl ⟨HB.out, q, decide (0 < m), true, rfl, fun _ => ⟨by rw [← HY.out]; exact hy, HZ.out, by rw [← HY.out, ← HX.out]; exact HQ.out hy, by rw [← HV.out]; rw [HM.out, ← HX.out]; rfl⟩, fun h => by cases h⟩
        · go_loop [4, 5, 11] (fun u4 u5 i => u4 = .int .u64 (q : Int) ∧ u5 = .bool (true) ∧ ∃ j : Nat, i = .int .i64 (j : Int) ∧ k + 2 ≤ j ∧ j ≤ n + k + 2 ∧ Hid (∀ t, k + 2 ≤ t → t < j → atd f n t = 0)) (fun _ _ i => n + k + 2 - (intOf i).toNat)
          case atStart => exact ⟨rfl, rfl, k + 2, by congr 1, Nat.le_refl _, by omega, fun t h1 h2 => by omega⟩
          obtain ⟨rfl, rfl, j, rfl, hj1, hj2, hj3⟩ := hrel
          rcases Nat.lt_or_ge j n with hjn | hjn
          · have t2 : decide ((j : Int) < (n : Int)) = true := by simp; omega
            obtain ⟨gx, hgx⟩ : ∃ gx, gx = f j := ⟨_, rfl⟩
            have hxj : w3.cell? ⟨g, j, none⟩ = some (.int .u64 (gx : Int)) := by rw [hgx, HW.out.cellAt j (by omega), cellsOf_get _ _ _ hjn]
            have eaj : atd f n j = gx := by rw [hgx]; simp [atd, hjn]
            have EA := Lib.hid eaj; clear eaj
            clear hgx
            rcases Nat.eq_zero_or_pos gx with hfj | hfj
            · subst hfj
              go_wp2
              go_round
              case rel =>
                refine ⟨rfl, rfl, j + 1, by simp, by omega, by omega, ?_⟩
                intro t h1 h2
                rcases Nat.lt_or_ge t j with h | h
                · exact hj3.out t h1 h
                · rw [show t = j by omega]; exact EA.out
              case measure => simp [intOf]; omega
            · have t3 : decide ((0 : Int) < (gx : Int)) = true := by simp; omega
              have HG := Lib.hid hfj
              go_wp2
              refine bodyPost_ret (v := .tuple #[.int .u64 0, .bool false, .bool false]) (by simp [results, Try.results142, go_sem, *]) rfl ⟨HB.out, 0, false, false, rfl, nofun, fun _ => .inr ⟨j, hj1, by rw [EA.out]; have := HG.out; omega⟩⟩
          · have t2 : decide ((j : Int) < (n : Int)) = false := by simp; omega
            have hz : ∀ t, k + 2 ≤ t → atd f n t = 0 := by
              intro t ht
              rcases Nat.lt_or_ge t j with h | h
              · exact hj3.out t ht h
              · unfold atd; rw [if_neg (by omega)]
            have HZ := Lib.hid hz; clear hz
            go_wp2
            refine bodyPost_ret (v := .tuple #[.int .u64 (q : Int), .bool (true), .bool true]) (by simp [results, Try.results142, go_sem, *]) rfl ⟨HB.out, q, true, true, rfl, fun _ => ⟨by rw [← HY.out]; exact hy, HZ.out, by rw [← HY.out, ← HX.out]; exact HQ.out hy, by rw [← HV.out]; rfl⟩, fun h => by cases h⟩
      · have ty : decide ((0 : Int) < (y : Int) / 4294967296) = true := by simp; omega
        cases b
        all_goals go_wp2_with (first | (go_quiet (first | (go_at_call 156; refine Calls.quiet_of_same (c_at w.heap.size base _ n k _ (by omega) f x HX.out _ hn (by simpa using HC) HW.out)) | (go_at_call 156; refine Calls.quiet_of_same (c_at w.heap.size base _ n (k + 1) _ (by omega) f y HY.out _ hn (by simpa using HC) HW.out))); (have HC : (W.drewN nq).cell? ⟨w.heap.size, 0, none⟩ = some (Value.slice (some { block := g, off := 0 }) n cap) := (by simpa using HC)); (have HW : Hid ((W.drewN nq).ownsRow base 33 1 (Value.slice (some { block := g, off := 0 }) n cap) n (cellsOf f n)) := HW.out); (have HB : Hid (Below w.heap.size w (W.drewN nq)) := (below_drewN HB.out _)); generalize W.drewN nq = W at HC HW HB ⊢) | (go_at_call 156; refine (c_at w.heap.size base _ n (k + 1) _ (by omega) f y HY.out _ hn (by simpa using HC) HW.out).mono ?_; rintro e w3 ⟨rfl, rfl⟩))
        all_goals (refine bodyPost_ret (v := .tuple #[.int .u64 0, .bool false, .bool false]) (by simp [results, Try.results142, go_sem, *]) rfl ⟨HB.out, 0, false, false, rfl, nofun, fun _ => .inl (by rw [← HY.out]; exact hy)⟩)

end Go.Proofs.Ytpdaigenffecmaa
