/-
  The walk of the reference's 'power'.
-/
import Derived.Test.YtpdaigenffecmaaDoorM25
set_option linter.all false
namespace Go.Proofs.YtpdaigenffecmaaDoor
open Go.RowKit

theorem rest_eq (f : Nat → Nat) (hf : ∀ j, f j < W16) (L s j : Nat) (h1 : j ≤ s) (h2 : j ≤ L) (h3 : s ≤ j ∨ L ≤ j) : v16 f L % W16 ^ s = v16 f j := by
  rcases Nat.lt_or_ge L s with h | h
  · have e : j = L := by omega
    subst e
    exact Nat.mod_eq_of_lt (Nat.lt_of_lt_of_le (v16_lt f hf j) (Nat.pow_le_pow_right (by decide) (by omega)))
  · have e : j = s := by omega
    subst e
    exact v16_top f hf L j h

theorem top_eq (P L s t : Nat) (hP : P < W16 ^ L) (h1 : s ≤ t ∨ t = L) (h2 : t ≤ s) : P / W16 ^ s = P / W16 ^ t := by
  rcases h1 with h | h
  · rw [show s = t by omega]
  · subst h
    rw [Nat.div_eq_of_lt hP, Nat.div_eq_of_lt (Nat.lt_of_lt_of_le hP (Nat.pow_le_pow_right (by decide) h2))]

theorem top_big (P s t : Nat) (hst : s < t) (h : 68719476736 < P / W16 ^ t) : 4503599627370496 < P / W16 ^ s := by
  have h1 : P / W16 ^ t = P / W16 ^ s / W16 ^ (t - s) := by rw [Nat.div_div_eq_div_mul, ← Nat.pow_add, show s + (t - s) = t by omega]
  have h2 : P / W16 ^ s / W16 ^ (t - s) ≤ P / W16 ^ s / W16 ^ 1 := Nat.div_le_div_left (Nat.pow_le_pow_right (by decide) (by omega)) (by decide)
  rw [Nat.pow_one] at h2
  simp only [W16] at *
  omega

/-- What is owned stays owned behind a call. -/
theorem ownsRow_below {w w' : World} {base : Nat} {e : TypeId} {size : Nat} {v : Value} {n : Nat} {xs : List Value} (h : w.ownsRow base e size v n xs) (hb : Below w.heap.size w w') : w'.ownsRow base e size v n xs := by
  obtain ⟨h1, h2⟩ := h
  refine ⟨h1, ?_⟩
  rcases h2 with h2 | ⟨g, cap, cur, e1, e2, e3, e4⟩
  · exact .inl h2
  · exact .inr ⟨g, cap, cur, e1, e2, by rw [hb.block g (Array.getElem?_eq_some_iff.1 e3).1]; exact e3, e4⟩

/-- What the reference's power answers. -/
def Power16 (v m : Nat) (up : Bool) (w : World) (e : Ending) (w' : World) : Prop :=
  Below w.heap.size w w' ∧ ∃ (x : Int) (ft : Bool), e = .returned (.tuple #[.int .i64 x, .bool ft]) ∧ ft = decide (rpw v m up ≤ 4503599627370496) ∧ (ft = true → x = (rpw v m up : Int)) ∧ (-9007199254740992 ≤ x ∧ x ≤ 9007199254740992)

set_option maxHeartbeats 1000000 in
theorem c_power16 (v m : Nat) (up : Bool) (w : World) (hv : v ≤ 4503599627370496) (hm : m ≤ 15) :
    Calls Tryd.prog 102 #[.int .i64 (v : Int), .int .i64 ((m : Int) + 1), .bool up] w (Power16 v m up w) := by
  go_enter Tryd.func102, Tryd.ntmps102
  go_wp2
  have HO : Hid ((w.alloc (Obj.cells #[Value.int .i64 1] 3)).ownsRow w.heap.size 3 1 (.slice (some ⟨w.heap.size, 0, none⟩) 1 1) 1 (cellsI (fun _ => 1) 1)) :=
    ⟨rfl, .inr ⟨w.heap.size, 1, #[Value.int .i64 1], rfl, Nat.le_refl _, heap_alloc_new w _, Nat.le_refl _, by decide, rfl, rfl⟩⟩
  have HB : Hid (Below w.heap.size w (w.alloc (Obj.cells #[Value.int .i64 1] 3))) := (Below.refl _ w).alloc (Nat.le_refl _) _
  go_loopw [8, 9] (fun lv iv wr => ∃ (k L : Nat) (f : Nat → Nat), iv = .int .i64 (k : Int) ∧ k ≤ m + 1 ∧ Hid (wr.ownsRow w.heap.size 3 1 lv L (cellsI f L)) ∧ Hid (∀ j, f j < W16) ∧ Hid (v16 f L = v ^ k) ∧ 1 ≤ L ∧ L ≤ 1 + 4 * k ∧ Hid (Below w.heap.size w wr)) (fun _ iv _ => m + 1 - (intOf iv).toNat)
  case atStart => exact ⟨0, 1, fun _ => 1, rfl, by omega, HO.out, fun _ => (by decide : (1 : Nat) < W16), by unfold Hid; simp [v16], by omega, by omega, HB.out⟩
  case round =>
    clear HO HB
    obtain ⟨k, L, f, rfl, hk, ho, hd, hP, hL1, hL2, hbe⟩ := hrel
    rcases Nat.lt_or_ge k (m + 1) with hlt | hge
    · have t1 : decide ((k : Int) < (m : Int) + 1) = true := by (simp <;> omega)
      have t1' : (k : Int) < (m : Int) + 1 := by omega
      go_wp2_with (first | (go_at_call 116; refine (c_parts v _ hv).mono ?_; rintro e w3 ⟨v3, n3, rfl, ho3, hn3, hd3, hb3⟩; (have HO3 := Lib.hid ho3); (have HD3 := Lib.hid hd3); (have HB3 := Lib.hid hb3); clear ho3 hd3 hb3) | (go_at_call 115; refine (c_product16 w.heap.size _ _ _ L n3 f (dig v) _ hL1 (by omega) (by omega) hd.out (dig_lt v) (ownsRow_below ho.out HB3.out) HO3.out).mono ?_; rintro e w4 ⟨v4, h4, rfl, ho4, hd4, hv4, hb4⟩; (have HO4 := Lib.hid ho4); (have HD4 := Lib.hid hd4); (have HV4 := Lib.hid hv4); (have HB4 := Lib.hid hb4); clear ho4 hd4 hv4 hb4))
      go_roundw
      case rel =>
        have h1 := hbe.out.size
        have h2 := HB3.out.size
        refine ⟨k + 1, L + n3, h4, by simp, hlt, Joins.ownsRow_le HO4.out (by omega), HD4.out, ?_, by omega, by omega, ?_⟩
        · unfold Hid; rw [HV4.out, hP.out, HD3.out, Nat.pow_succ]
        · exact (hbe.out.trans (HB3.out.mono h1)).trans (HB4.out.mono (by omega))
      case measure => simp [intOf]; omega
    · have hkm : k = m + 1 := by omega
      subst hkm
      have t1 : decide (((m + 1 : Nat) : Int) < (m : Int) + 1) = false := by (simp <;> omega)
      obtain ⟨g, cap, rfl⟩ := Joins.ownsRow_form ho.out (by omega)
      have hcells : Hid (∀ j, j < L → wr.cell? ⟨g, j, none⟩ = some (.int .i64 ((f j : Nat) : Int))) := fun j hj => by rw [ho.out.cellAt j (by omega), cellsI_get _ _ _ hj]
      have hPL : Hid (v ^ (m + 1) < W16 ^ L) := by unfold Hid; rw [← hP.out]; exact v16_lt f hd.out L
      go_wp2
      go_loop [10, 11] (fun r iv => ∃ j : Nat, iv = .int .i64 (j : Int) ∧ r = .bool (decide (v16 f j ≠ 0)) ∧ j ≤ 2 * m ∧ j ≤ L) (fun _ iv => L - (intOf iv).toNat)
      case atStart => exact ⟨0, rfl, rfl, by omega, by omega⟩
      case round =>
        obtain ⟨j, rfl, rfl, hj1, hj2⟩ := hrel
        obtain ⟨b, hb⟩ : ∃ b, b = decide (v16 f j ≠ 0) := ⟨_, rfl⟩
        rw [← hb]
        by_cases hx : j < 2 * m ∧ j < L
        · obtain ⟨hx1, hx2⟩ := hx
          have t2 : decide ((j : Int) < 2 * (m : Int)) = true := by (simp <;> omega)
          have t3 : decide ((j : Int) < (L : Int)) = true := by (simp <;> omega)
          obtain ⟨x, hxx⟩ : ∃ x, x = f j := ⟨_, rfl⟩
          have c1 : wr.cell? ⟨g, j, none⟩ = some (.int .i64 (x : Int)) := by rw [hxx]; exact hcells.out j hx2
          have hr : decide (v16 f (j + 1) ≠ 0) = (b || decide (0 < x)) := by
            show decide (v16 f j + f j * W16 ^ j ≠ 0) = _
            rw [← hxx, hb]
            have hp : 0 < W16 ^ j := Nat.pow_pos (by decide)
            rcases Nat.eq_zero_or_pos x with e | e
            · subst e; simp
            · have : 0 < x * W16 ^ j := Nat.mul_pos e hp
              simp [e]; omega
          have HR := Lib.hid hr
          clear hr hxx hb
          have x3 : (0 : Int) ≤ (j : Int) := by omega
          have x5 : (j : Int) < (L : Int) := by omega
          cases b
          all_goals go_wp2
          all_goals go_round
          all_goals first
            | (exact ⟨j + 1, by simp, by rw [HR.out]; simp, hx1, hx2⟩)
            | (simp [intOf]; omega)
        · have hrest : Hid (b = decide (v ^ (m + 1) % W16 ^ (2 * m) ≠ 0)) := by
            unfold Hid; rw [hb, ← hP.out, rest_eq f hd.out L (2 * m) j hj1 hj2 (by omega)]
          clear hb
          have hjcase : 2 * m ≤ j ∨ (j < 2 * m ∧ j = L) := by omega
          have HL3 : Hid (∀ (wz : World) (e : Exit), True) := fun _ _ => trivial
          rcases hjcase with hj3 | ⟨hj3, hj4⟩
          · have tt : decide ((j : Int) < 2 * (m : Int)) = false := by (simp <;> omega)
            go_wp2
            go_loop [12, 13] (fun ov iv => ∃ (t O : Nat) (I : Int), iv = .int .i64 I ∧ I = (t : Int) - 1 ∧ ov = .int .i64 (O : Int) ∧ O ≤ 4503599627436031 ∧ t ≤ L ∧ (2 * m ≤ t ∨ t = L) ∧ Hid (O = v ^ (m + 1) / W16 ^ t)) (fun _ iv => (intOf iv + 1).toNat)
            case atStart => exact ⟨L, 0, _, rfl, rfl, rfl, by omega, Nat.le_refl _, .inr rfl, by unfold Hid; rw [Nat.div_eq_of_lt hPL.out]⟩
            case round =>
              obtain ⟨t, O, I, rfl, hI, rfl, hO, ht1, ht2, hOO⟩ := hrel
              rcases Nat.lt_or_ge (2 * m) t with hts | hts
              · obtain ⟨q, rfl⟩ : ∃ q, t = q + 1 := ⟨t - 1, by omega⟩
                have hI' : I = (q : Int) := by omega
                subst hI'
                clear hI
                have t5 : decide (2 * (m : Int) ≤ (q : Int)) = true := by (simp <;> omega)
                rcases Nat.lt_or_ge 68719476736 O with hbig | hbig
                · have t6 : decide ((68719476736 : Int) < (O : Int)) = true := by (simp <;> omega)
                  have hft : Hid (decide (rpw v m up ≤ 4503599627370496) = false) := by
                    unfold Hid rpw
                    have := top_big (v ^ (m + 1)) (2 * m) (q + 1) (by omega) (by rw [← hOO.out]; exact hbig)
                    exact decide_eq_false (by omega)
                  go_wp2
                  refine bodyPost_ret (v := .tuple #[.int .i64 0, .bool false]) (by simp [results, Tryd.results102, go_sem, *]) rfl ⟨hbe.out, 0, false, rfl, hft.out.symm, nofun, by omega⟩
                · have t6 : decide ((68719476736 : Int) < (O : Int)) = false := by (simp <;> omega)
                  have t6' : ¬ (68719476736 : Int) < (O : Int) := by omega
                  obtain ⟨x, hxx⟩ : ∃ x, x = f q := ⟨_, rfl⟩
                  have bx : x < 65536 := by rw [hxx]; exact hd.out q
                  have c1 : wr.cell? ⟨g, q, none⟩ = some (.int .i64 (x : Int)) := by rw [hxx]; exact hcells.out q (by omega)
                  have HN : Hid (O * 65536 + x = v ^ (m + 1) / W16 ^ q) := by
                    unfold Hid; rw [hOO.out, hxx, ← hP.out, v16_div f hd.out L q (by omega)]
                  clear hxx
                  have x3 : (0 : Int) ≤ (q : Int) := by omega
                  have x5 : (q : Int) < (L : Int) := by omega
                  go_wp2
                  go_round
                  case rel => exact ⟨q, O * 65536 + x, _, rfl, by omega, by (congr 1 <;> omega), by omega, by omega, by omega, HN⟩
                  case measure => simp [intOf]
              · have t5 : decide (2 * (m : Int) ≤ I) = false := by (simp <;> omega)
                have hq : Hid (O = v ^ (m + 1) / W16 ^ (2 * m)) := by
                  unfold Hid; rw [top_eq _ L (2 * m) t hPL.out ht2 hts]; exact hOO.out
                have hr0 : Hid (up = false → rpw v m up = O) := by
                  intro h; unfold rpw; rw [← hq.out, h]; simp
                have hr1 : Hid (b = false → rpw v m up = O) := by
                  intro h; unfold rpw; rw [← hq.out, if_neg]; · simp
                  · have := hrest.out; rw [h] at this; simp only [ne_eq] at this ⊢; intro hh; exact absurd (of_decide_eq_false this.symm) (by simpa using hh.2)
                have hr2 : Hid (up = true → b = true → rpw v m up = O + 1) := by
                  intro h1 h2; unfold rpw; rw [← hq.out, if_pos]
                  refine ⟨h1, ?_⟩
                  have := hrest.out; rw [h2] at this; exact of_decide_eq_true this.symm
                clear hI
                cases up
                · have r0 : Hid (rpw v m false = O) := hr0.out rfl
                  go_wp2
                  refine bodyPost_ret (v := .tuple #[.int .i64 (O : Int), .bool (decide (O ≤ 4503599627370496))]) (by simp [results, Tryd.results102, go_sem, *] <;> omega) rfl ⟨hbe.out, (O : Int), decide (O ≤ 4503599627370496), rfl, by rw [r0.out], fun _ => by rw [r0.out], by omega⟩
                · cases b
                  · have r1 : Hid (rpw v m true = O) := hr1.out rfl
                    go_wp2
                    refine bodyPost_ret (v := .tuple #[.int .i64 (O : Int), .bool (decide (O ≤ 4503599627370496))]) (by simp [results, Tryd.results102, go_sem, *] <;> omega) rfl ⟨hbe.out, (O : Int), decide (O ≤ 4503599627370496), rfl, by rw [r1.out], fun _ => by rw [r1.out], by omega⟩
                  · have r2 : Hid (rpw v m true = O + 1) := hr2.out rfl rfl
                    go_wp2
                    refine bodyPost_ret (v := .tuple #[.int .i64 ((O : Int) + 1), .bool (decide (O + 1 ≤ 4503599627370496))]) (by simp [results, Tryd.results102, go_sem, *] <;> omega) rfl ⟨hbe.out, (O : Int) + 1, decide (O + 1 ≤ 4503599627370496), rfl, by rw [r2.out], fun _ => by rw [r2.out]; simp, by omega⟩
          · subst hj4
            have tt : decide ((j : Int) < 2 * (m : Int)) = true := by (simp <;> omega)
            go_wp2
            go_loop [12, 13] (fun ov iv => ∃ (t O : Nat) (I : Int), iv = .int .i64 I ∧ I = (t : Int) - 1 ∧ ov = .int .i64 (O : Int) ∧ O ≤ 4503599627436031 ∧ t ≤ j ∧ (2 * m ≤ t ∨ t = j) ∧ Hid (O = v ^ (m + 1) / W16 ^ t)) (fun _ iv => (intOf iv + 1).toNat)
            case atStart => exact ⟨j, 0, _, rfl, rfl, rfl, by omega, Nat.le_refl _, .inr rfl, by unfold Hid; rw [Nat.div_eq_of_lt hPL.out]⟩
            case round =>
              obtain ⟨t, O, I, rfl, hI, rfl, hO, ht1, ht2, hOO⟩ := hrel
              rcases Nat.lt_or_ge (2 * m) t with hts | hts
              · obtain ⟨q, rfl⟩ : ∃ q, t = q + 1 := ⟨t - 1, by omega⟩
                have hI' : I = (q : Int) := by omega
                subst hI'
                clear hI
                have t5 : decide (2 * (m : Int) ≤ (q : Int)) = true := by (simp <;> omega)
                rcases Nat.lt_or_ge 68719476736 O with hbig | hbig
                · have t6 : decide ((68719476736 : Int) < (O : Int)) = true := by (simp <;> omega)
                  have hft : Hid (decide (rpw v m up ≤ 4503599627370496) = false) := by
                    unfold Hid rpw
                    have := top_big (v ^ (m + 1)) (2 * m) (q + 1) (by omega) (by rw [← hOO.out]; exact hbig)
                    exact decide_eq_false (by omega)
                  go_wp2
                  refine bodyPost_ret (v := .tuple #[.int .i64 0, .bool false]) (by simp [results, Tryd.results102, go_sem, *]) rfl ⟨hbe.out, 0, false, rfl, hft.out.symm, nofun, by omega⟩
                · have t6 : decide ((68719476736 : Int) < (O : Int)) = false := by (simp <;> omega)
                  have t6' : ¬ (68719476736 : Int) < (O : Int) := by omega
                  obtain ⟨x, hxx⟩ : ∃ x, x = f q := ⟨_, rfl⟩
                  have bx : x < 65536 := by rw [hxx]; exact hd.out q
                  have c1 : wr.cell? ⟨g, q, none⟩ = some (.int .i64 (x : Int)) := by rw [hxx]; exact hcells.out q (by omega)
                  have HN : Hid (O * 65536 + x = v ^ (m + 1) / W16 ^ q) := by
                    unfold Hid; rw [hOO.out, hxx, ← hP.out, v16_div f hd.out j q (by omega)]
                  clear hxx
                  have x3 : (0 : Int) ≤ (q : Int) := by omega
                  have x5 : (q : Int) < (j : Int) := by omega
                  go_wp2
                  go_round
                  case rel => exact ⟨q, O * 65536 + x, _, rfl, by omega, by (congr 1 <;> omega), by omega, by omega, by omega, HN⟩
                  case measure => simp [intOf]
              · have t5 : decide (2 * (m : Int) ≤ I) = false := by (simp <;> omega)
                have hq : Hid (O = v ^ (m + 1) / W16 ^ (2 * m)) := by
                  unfold Hid; rw [top_eq _ j (2 * m) t hPL.out ht2 hts]; exact hOO.out
                have hr0 : Hid (up = false → rpw v m up = O) := by
                  intro h; unfold rpw; rw [← hq.out, h]; simp
                have hr1 : Hid (b = false → rpw v m up = O) := by
                  intro h; unfold rpw; rw [← hq.out, if_neg]; · simp
                  · have := hrest.out; rw [h] at this; simp only [ne_eq] at this ⊢; intro hh; exact absurd (of_decide_eq_false this.symm) (by simpa using hh.2)
                have hr2 : Hid (up = true → b = true → rpw v m up = O + 1) := by
                  intro h1 h2; unfold rpw; rw [← hq.out, if_pos]
                  refine ⟨h1, ?_⟩
                  have := hrest.out; rw [h2] at this; exact of_decide_eq_true this.symm
                clear hI
                cases up
                · have r0 : Hid (rpw v m false = O) := hr0.out rfl
                  go_wp2
                  refine bodyPost_ret (v := .tuple #[.int .i64 (O : Int), .bool (decide (O ≤ 4503599627370496))]) (by simp [results, Tryd.results102, go_sem, *] <;> omega) rfl ⟨hbe.out, (O : Int), decide (O ≤ 4503599627370496), rfl, by rw [r0.out], fun _ => by rw [r0.out], by omega⟩
                · cases b
                  · have r1 : Hid (rpw v m true = O) := hr1.out rfl
                    go_wp2
                    refine bodyPost_ret (v := .tuple #[.int .i64 (O : Int), .bool (decide (O ≤ 4503599627370496))]) (by simp [results, Tryd.results102, go_sem, *] <;> omega) rfl ⟨hbe.out, (O : Int), decide (O ≤ 4503599627370496), rfl, by rw [r1.out], fun _ => by rw [r1.out], by omega⟩
                  · have r2 : Hid (rpw v m true = O + 1) := hr2.out rfl rfl
                    go_wp2
                    refine bodyPost_ret (v := .tuple #[.int .i64 ((O : Int) + 1), .bool (decide (O + 1 ≤ 4503599627370496))]) (by simp [results, Tryd.results102, go_sem, *] <;> omega) rfl ⟨hbe.out, (O : Int) + 1, decide (O + 1 ≤ 4503599627370496), rfl, by rw [r2.out], fun _ => by rw [r2.out]; simp, by omega⟩

end Go.Proofs.YtpdaigenffecmaaDoor
