/-
  The walk of (digits).high at a multiple of 64 bits.
-/
import Derived.Test.YtpdaigenffecmaaM11
set_option linter.all false
namespace Go.Proofs.Ytpdaigenffecmaa
open Go.RowKit

/-- What (digits).high answers at 64 s bits. -/
def High0 (f : Nat → Nat) (n s : Nat) (w : World) (e : Ending) (w' : World) : Prop :=
  Below w.heap.size w w' ∧ ∃ (q : Nat) (r ft : Bool), e = .returned (.tuple #[.int .u64 (q : Int), .bool r, .bool ft]) ∧
    (ft = true → atd f n (s + 1) = 0 ∧ (∀ j, s + 2 ≤ j → atd f n j = 0) ∧ q = atd f n s ∧ r = decide (valTo (atd f n) s ≠ 0)) ∧
    (ft = false → atd f n (s + 1) ≠ 0 ∨ ∃ j, s + 2 ≤ j ∧ atd f n j ≠ 0)

set_option maxHeartbeats 1000000 in
theorem c_high0 (base : Nat) (v : Value) (n s : Nat) (N : Int) (f : Nat → Nat) (w : World) (hn : 0 < n) (hn2 : n ≤ 40) (hs : s ≤ 40) (hN : N = 64 * (s : Int)) (hf : ∀ j, f j < B64) (hbl : base ≤ w.heap.size) (ho : w.ownsRow base 33 1 v n (cellsOf f n)) :
    Calls Try.prog 142 #[v, .int .i64 N] w (High0 f n s w) := by
  obtain ⟨g, cap, rfl⟩ := Joins.ownsRow_form ho hn
  have HF := Lib.hid hf; clear hf
  have HO := Lib.hid ho; clear ho
  have n3 : N / 64 = (s : Int) := by omega
  have n4 : N % 64 = 0 := by omega
  have n5 : 0 ≤ N := by omega
  have HN := Lib.hid hN; clear hN
  go_enter Try.func142, Try.ntmps142
  go_wp2
  rw [n3, n4]
  clear n3 n4 n5
  have HB : Hid (Below w.heap.size w (w.alloc (Obj.cells #[Value.slice (some { block := g, off := 0 }) n cap] 167))) := (Below.refl _ w).alloc (Nat.le_refl _) _
  have HC : (w.alloc (Obj.cells #[Value.slice (some { block := g, off := 0 }) n cap] 167)).cell? ⟨w.heap.size, 0, none⟩ = some (Value.slice (some { block := g, off := 0 }) n cap) := by simp [go_sem]
  have HW : Hid ((w.alloc (Obj.cells #[Value.slice (some { block := g, off := 0 }) n cap] 167)).ownsRow base 33 1 (Value.slice (some { block := g, off := 0 }) n cap) n (cellsOf f n)) := HO.out.alloc _
  generalize w.alloc (Obj.cells #[Value.slice (some { block := g, off := 0 }) n cap] 167) = W at HB HC HW ⊢
  go_loop [5, 18] (fun r i => ∃ k : Nat, k ≤ s ∧ i = .int .i64 (k : Int) ∧ r = .bool (decide (valTo (atd f n) k ≠ 0))) (fun _ i => s - (intOf i).toNat)
  case atStart => exact ⟨0, Nat.zero_le _, rfl, rfl⟩
  case round =>
    obtain ⟨k, hk, rfl, rfl⟩ := hrel
    rcases Nat.lt_or_ge k s with hlt | hge
    · have t1 : decide ((k : Int) < (s : Int)) = true := by simp; omega
      obtain ⟨x, hx⟩ : ∃ x, x = atd f n k := ⟨_, rfl⟩
      obtain ⟨b, hb⟩ : ∃ b, b = decide (valTo (atd f n) k ≠ 0) := ⟨_, rfl⟩
      have hv : valTo (atd f n) (k + 1) = valTo (atd f n) k + x * B64 ^ k := by rw [hx]; rfl
      rw [← hb]
      have hp : 0 < B64 ^ k := Nat.pow_pos (by decide)
      have hr : decide (valTo (atd f n) (k + 1) ≠ 0) = (b || decide ((0 : Int) < (x : Int))) := by
        rw [hv, hb]
        rcases Nat.eq_zero_or_pos x with e | e
        · subst e; simp
        · have : 0 < x * B64 ^ k := Nat.mul_pos e hp
          simp [e]; omega
      have HR := Lib.hid hr
      have HX := Lib.hid hx
      clear hr hx hv hb hp
      cases b
      all_goals go_wp2_with (go_at_call 156; refine (c_at w.heap.size base _ n k _ (by omega) f x HX.out _ hn HC HW.out).mono ?_; rintro e w3 ⟨rfl, rfl⟩)
      all_goals go_round
      all_goals first
        | (exact ⟨k + 1, hlt, by simp, by rw [HR.out]; first | rfl | simp⟩)
        | (refine ⟨k + 1, hlt, by simp, ?_⟩; rw [HR.out]; simp; done)
        | (simp [intOf]; done)
        | (simp [intOf]; omega)
        | (fail)
    · have hks : k = s := by omega
      subst hks
      obtain ⟨x, hx⟩ : ∃ x, x = atd f n k := ⟨_, rfl⟩
      obtain ⟨y, hy⟩ : ∃ y, y = atd f n (k + 1) := ⟨_, rfl⟩
      obtain ⟨b, hb⟩ : ∃ b, b = decide (valTo (atd f n) k ≠ 0) := ⟨_, rfl⟩
      have bx : x < 18446744073709551616 := by rw [hx]; exact atd_lt f n k HF.out
      have bY : y < 18446744073709551616 := by rw [hy]; exact atd_lt f n _ HF.out
      have a1 : bits .and .u64 (x : Int) 0 = 0 := by
        have := bits_mask .u64 64 (by decide) wraps_u64 0 (by decide) (x : Int) (by omega) (by omega)
        rw [show ((2 : Int) ^ 0 - 1) = 0 by decide] at this
        rw [this, show ((2 : Int) ^ 0) = 1 by decide]; omega
      have s1 : IntKind.u64.wrap ((y : Int) * 18446744073709551616) = 0 := by
        simp [IntKind.wrap, IntKind.bits, IntKind.signed]
      have o1 : bits .or .u64 (x : Int) 0 = (x : Int) := by
        have := bits_join_low .u64 64 (by decide) wraps_u64 64 (x : Int) 0 (by omega) (by rw [show ((2 : Int) ^ 64) = 18446744073709551616 by decide]; omega) (by rw [show ((2 : Int) ^ 64) = 18446744073709551616 by decide]; omega) (by omega) (by omega) (by decide)
        rw [this]; omega
      rw [← hb]
      have HX := Lib.hid hx
      have HY := Lib.hid hy
      have HV := Lib.hid hb
      clear hx hy hb
      have t1 : decide ((k : Int) < (k : Int)) = false := by simp
      cases b
      all_goals go_wp2_with (first | (go_quiet (first | (go_at_call 156; refine Calls.quiet_of_same (c_at w.heap.size base _ n k _ (by omega) f x HX.out _ hn (by simpa using HC) HW.out)) | (go_at_call 156; refine Calls.quiet_of_same (c_at w.heap.size base _ n (k + 1) _ (by omega) f y HY.out _ hn (by simpa using HC) HW.out))); (have HC : (W.drewN nq).cell? ⟨w.heap.size, 0, none⟩ = some (Value.slice (some { block := g, off := 0 }) n cap) := (by simpa using HC)); (have HW : Hid ((W.drewN nq).ownsRow base 33 1 (Value.slice (some { block := g, off := 0 }) n cap) n (cellsOf f n)) := HW.out); (have HB : Hid (Below w.heap.size w (W.drewN nq)) := (below_drewN HB.out _)); generalize W.drewN nq = W at HC HW HB ⊢) | (go_at_call 156; refine (c_at w.heap.size base _ n (k + 1) _ (by omega) f y HY.out _ hn (by simpa using HC) HW.out).mono ?_; rintro e w3 ⟨rfl, rfl⟩))
      · go_loop [4, 5, 11] (fun u4 u5 i => u4 = .int .u64 (x : Int) ∧ u5 = .bool false ∧ ∃ j : Nat, i = .int .i64 (j : Int) ∧ k + 2 ≤ j ∧ j ≤ n + k + 2 ∧ Hid (∀ t, k + 2 ≤ t → t < j → atd f n t = 0)) (fun _ _ i => n + k + 2 - (intOf i).toNat)
        case atStart => exact ⟨rfl, rfl, k + 2, by congr 1, Nat.le_refl _, by omega, fun t h1 h2 => by omega⟩
        obtain ⟨rfl, rfl, j, rfl, hj1, hj2, hj3⟩ := hrel
        rcases Nat.lt_or_ge j n with hjn | hjn
        · have t2 : decide ((j : Int) < (n : Int)) = true := by simp; omega
          obtain ⟨gx, hgx⟩ : ∃ gx, gx = f j := ⟨_, rfl⟩
          have hxj : W.cell? ⟨g, j, none⟩ = some (.int .u64 (gx : Int)) := by rw [hgx, HW.out.cellAt j (by omega), cellsOf_get _ _ _ hjn]
          have eaj : atd f n j = gx := by rw [hgx]; simp [atd, hjn]
          have EA := Lib.hid eaj; clear eaj
          clear hgx
          rcases Nat.eq_zero_or_pos gx with hfj | hfj
          · subst hfj
            go_wp2
            go_round
            case rel =>
              refine ⟨rfl, rfl, j + 1, by simp, by omega, by omega, ?_⟩
              intro t h1 h2
              rcases Nat.lt_or_ge t j with h | h
              · exact hj3.out t h1 h
              · rw [show t = j by omega]; exact EA.out
            case measure => simp [intOf]; omega
          · have t3 : decide ((0 : Int) < (gx : Int)) = true := by simp; omega
            have HG := Lib.hid hfj
            go_wp2
            refine bodyPost_ret (v := .tuple #[.int .u64 0, .bool false, .bool false]) (by simp [results, Try.results142, go_sem, *]) rfl ⟨HB.out, 0, false, false, rfl, nofun, fun _ => .inr ⟨j, hj1, by rw [EA.out]; have := HG.out; omega⟩⟩
        · have t2 : decide ((j : Int) < (n : Int)) = false := by simp; omega
          have hz : ∀ t, k + 2 ≤ t → atd f n t = 0 := by
            intro t ht
            rcases Nat.lt_or_ge t j with h | h
            · exact hj3.out t ht h
            · unfold atd; rw [if_neg (by omega)]
          have HZ := Lib.hid hz; clear hz
          rcases Nat.eq_zero_or_pos y with hy0 | hy0
          · subst hy0
            go_wp2_with (go_at_call 156; refine (c_at w.heap.size base _ n (k + 1) _ (by omega) f 0 HY.out _ hn (by simpa using HC) HW.out).mono ?_; rintro e w4 ⟨rfl, rfl⟩)
            refine bodyPost_ret (v := .tuple #[.int .u64 (x : Int), .bool false, .bool true]) (by simp [results, Try.results142, go_sem, *]) rfl ⟨HB.out, x, false, true, rfl, fun _ => ⟨HY.out.symm, HZ.out, HX.out, HV.out⟩, nofun⟩
          · have e1 : ((y : Int) == 0) = false := by simp; omega
            have e2 : decide ((y : Int) = 0) = false := by simp; omega
            have e3 : ¬ y = 0 := by omega
            have H0 := Lib.hid hy0; clear hy0
            go_wp2_with (go_at_call 156; refine (c_at w.heap.size base _ n (k + 1) _ (by omega) f y HY.out _ hn (by simpa using HC) HW.out).mono ?_; rintro e w4 ⟨rfl, rfl⟩)
            refine bodyPost_ret (v := .tuple #[.int .u64 (x : Int), .bool false, .bool false]) (by simp [results, Try.results142, go_sem, *]) rfl ⟨HB.out, x, false, false, rfl, nofun, fun _ => .inl (by rw [← HY.out]; have := H0.out; omega)⟩
      · go_loop [4, 5, 11] (fun u4 u5 i => u4 = .int .u64 (x : Int) ∧ u5 = .bool true ∧ ∃ j : Nat, i = .int .i64 (j : Int) ∧ k + 2 ≤ j ∧ j ≤ n + k + 2 ∧ Hid (∀ t, k + 2 ≤ t → t < j → atd f n t = 0)) (fun _ _ i => n + k + 2 - (intOf i).toNat)
        case atStart => exact ⟨rfl, rfl, k + 2, by congr 1, Nat.le_refl _, by omega, fun t h1 h2 => by omega⟩
        obtain ⟨rfl, rfl, j, rfl, hj1, hj2, hj3⟩ := hrel
        rcases Nat.lt_or_ge j n with hjn | hjn
        · have t2 : decide ((j : Int) < (n : Int)) = true := by simp; omega
          obtain ⟨gx, hgx⟩ : ∃ gx, gx = f j := ⟨_, rfl⟩
          have hxj : W.cell? ⟨g, j, none⟩ = some (.int .u64 (gx : Int)) := by rw [hgx, HW.out.cellAt j (by omega), cellsOf_get _ _ _ hjn]
          have eaj : atd f n j = gx := by rw [hgx]; simp [atd, hjn]
          have EA := Lib.hid eaj; clear eaj
          clear hgx
          rcases Nat.eq_zero_or_pos gx with hfj | hfj
          · subst hfj
            go_wp2
            go_round
            case rel =>
              refine ⟨rfl, rfl, j + 1, by simp, by omega, by omega, ?_⟩
              intro t h1 h2
              rcases Nat.lt_or_ge t j with h | h
              · exact hj3.out t h1 h
              · rw [show t = j by omega]; exact EA.out
            case measure => simp [intOf]; omega
          · have t3 : decide ((0 : Int) < (gx : Int)) = true := by simp; omega
            have HG := Lib.hid hfj
            go_wp2
            refine bodyPost_ret (v := .tuple #[.int .u64 0, .bool false, .bool false]) (by simp [results, Try.results142, go_sem, *]) rfl ⟨HB.out, 0, false, false, rfl, nofun, fun _ => .inr ⟨j, hj1, by rw [EA.out]; have := HG.out; omega⟩⟩
        · have t2 : decide ((j : Int) < (n : Int)) = false := by simp; omega
          have hz : ∀ t, k + 2 ≤ t → atd f n t = 0 := by
            intro t ht
            rcases Nat.lt_or_ge t j with h | h
            · exact hj3.out t ht h
            · unfold atd; rw [if_neg (by omega)]
          have HZ := Lib.hid hz; clear hz
          rcases Nat.eq_zero_or_pos y with hy0 | hy0
          · subst hy0
            go_wp2_with (go_at_call 156; refine (c_at w.heap.size base _ n (k + 1) _ (by omega) f 0 HY.out _ hn (by simpa using HC) HW.out).mono ?_; rintro e w4 ⟨rfl, rfl⟩)
            refine bodyPost_ret (v := .tuple #[.int .u64 (x : Int), .bool true, .bool true]) (by simp [results, Try.results142, go_sem, *]) rfl ⟨HB.out, x, true, true, rfl, fun _ => ⟨HY.out.symm, HZ.out, HX.out, HV.out⟩, nofun⟩
          · have e1 : ((y : Int) == 0) = false := by simp; omega
            have e2 : decide ((y : Int) = 0) = false := by simp; omega
            have e3 : ¬ y = 0 := by omega
            have H0 := Lib.hid hy0; clear hy0
            go_wp2_with (go_at_call 156; refine (c_at w.heap.size base _ n (k + 1) _ (by omega) f y HY.out _ hn (by simpa using HC) HW.out).mono ?_; rintro e w4 ⟨rfl, rfl⟩)
            refine bodyPost_ret (v := .tuple #[.int .u64 (x : Int), .bool true, .bool false]) (by simp [results, Try.results142, go_sem, *]) rfl ⟨HB.out, x, true, false, rfl, nofun, fun _ => .inl (by rw [← HY.out]; have := H0.out; omega)⟩

end Go.Proofs.Ytpdaigenffecmaa
