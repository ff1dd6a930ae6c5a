/-
  The walk of the reference's 'product' of digits.
-/
import Derived.Deep.QuietTactic
import Derived.BigQuiet
import Derived.OwnWalk
import Derived.Test.YtpdaigenffecmaaGreatM24
set_option linter.all false
namespace Go.Proofs.YtpdaigenffecmaaGreat
open Go.RowKit

/-- One digit more of a product: V is what is laid, c the carry at place p, h0 the digit that stood there. -/
theorem prod_digit {V V' c d q h0 F G p T : Nat} (hq : h0 + F * G + c = d + 65536 * q) (hu : V' + h0 * W16 ^ p = V + d * W16 ^ p) (hT : V + c * W16 ^ p = T) :
    V' + q * W16 ^ (p + 1) = T + F * G * W16 ^ p := by
  rw [Nat.pow_succ]
  have e : q * (W16 ^ p * W16) = 65536 * q * W16 ^ p := by simp only [W16]; ac_rfl
  rw [e]
  have h1 : (h0 + F * G + c) * W16 ^ p = (d + 65536 * q) * W16 ^ p := by rw [hq]
  rw [Nat.add_mul, Nat.add_mul, Nat.add_mul] at h1
  omega

theorem dgt_bound {a b c d : Nat} (ha : a < 65536) (hb : b < 65536) (hc : c < 65536) (hd : d < 65536) : d + a * b + c < 4294967296 := by
  have : a * b ≤ 65535 * 65535 := Nat.mul_le_mul (by omega) (by omega)
  omega

theorem madeCells_int (n : Nat) : (madeCells (Value.int .i64 0).cells (n * 1)).toList = cellsI (fun _ => 0) n := by
  apply List.ext_getElem?
  intro j
  by_cases hj : j < n
  · rw [cellsI_get _ _ _ hj]
    simp [madeCells, Value.cells, hj, Nat.mod_one]
  · rw [List.getElem?_eq_none (by simp [madeCells]; omega), List.getElem?_eq_none (by rw [cellsI_length]; omega)]

set_option maxHeartbeats 1000000 in
theorem c_product16 (ba bb : Nat) (va vb : Value) (n m : Nat) (f g : Nat → Nat) (w : World) (hn : 1 ≤ n) (hn2 : n ≤ 100) (hm2 : m ≤ 100) (hf : ∀ j, f j < W16) (hg : ∀ j, g j < W16)
    (hoa : w.ownsRow ba 3 1 va n (cellsI f n)) (hob : w.ownsRow bb 3 1 vb m (cellsI g m)) :
    Calls Tryz.prog 189 #[va, vb] w fun e w' => ∃ v' h, e = .returned v' ∧ w'.ownsRow w.heap.size 3 1 v' (n + m) (cellsI h (n + m)) ∧ (∀ j, h j < W16) ∧ v16 h (n + m) = v16 f n * v16 g m ∧ Below w.heap.size w w' := by
  obtain ⟨i0, hi, hz0, hz1, hz2⟩ := info_parts info_int
  have I := Lib.hid hi; clear hi
  have HF := Lib.hid hf; clear hf
  have HG := Lib.hid hg; clear hg
  have OA := Lib.hid hoa
  have OB := Lib.hid hob
  obtain ⟨ga, ca, rfl⟩ := Joins.ownsRow_form hoa (by omega)
  have hgb : ∃ pb cb, vb = .slice pb m cb := by
    rcases Joins.ownsRow_forms hob with ⟨e, e2⟩ | ⟨gb, cb, e⟩
    · subst e2; exact ⟨none, 0, e⟩
    · exact ⟨_, cb, e⟩
  obtain ⟨pb, cb, rfl⟩ := hgb
  clear hoa hob
  go_enter Tryz.func189, Tryz.ntmps189
  go_wp2_with (first | (refine wpList_make_full _ rfl _ _ 195 rfl w.heap.size 3 i0 (.int .i64 0) 1 und_ints I.out hz0 hz1 .i64 .i64 _ _ (n + m) rfl rfl (by simp) (by simp) (by rw [hz2]; omega) (by unfold maxLen; omega) (Nat.le_refl _) ?_; intro w1 hown hgrow; (have HO := Lib.hid hown); (have HGR := Lib.hid hgrow); clear hown hgrow))
  have HO0 : Hid (w1.ownsRow w.heap.size 3 1 (Value.slice (some { block := w.heap.size, off := 0 }) (n + m) (n + m)) (n + m) (cellsI (fun _ => 0) (n + m))) := by
    have := HO.out; rw [madeCells_int] at this; exact this
  clear HO
  have HB0 : Hid (Below w.heap.size w w1) := (Below.refl _ w).grown HGR.out (Nat.le_refl _) (by intro x hx; cases hx)
  clear HGR
  have HFin : Hid (∀ j, j < n → w.cell? ⟨ga, j, none⟩ = some (.int .i64 ((f j : Nat) : Int))) := fun j hj => by rw [OA.out.cellAt j (by omega), cellsI_get _ _ _ hj]
  have hga : ga < w.heap.size := (OA.out.lt ga rfl).2
  have HGin : Hid (∀ j, j < m → ∃ gb, pb = some ⟨gb, 0, none⟩ ∧ gb < w.heap.size ∧ w.cell? ⟨gb, j, none⟩ = some (.int .i64 ((g j : Nat) : Int))) := fun j hj => by
    obtain ⟨gb, cb', e⟩ := Joins.ownsRow_form OB.out (by omega)
    injection e with e1 e2 e3
    subst e1
    subst e3
    exact ⟨gb, rfl, (OB.out.lt gb rfl).2, by rw [OB.out.cellAt j (by omega), cellsI_get _ _ _ hj]⟩
  clear OA OB
  go_loopw [6] (fun iv wr => ∃ (i : Nat) (h : Nat → Nat), iv = .int .i64 (i : Int) ∧ i ≤ n ∧ Hid (wr.ownsRow w.heap.size 3 1 (Value.slice (some { block := w.heap.size, off := 0 }) (n + m) (n + m)) (n + m) (cellsI h (n + m))) ∧
    Hid (∀ j, h j < W16) ∧ Hid (v16 h (n + m) = v16 f i * v16 g m) ∧ Hid (∀ j, i + m ≤ j → h j = 0) ∧ Hid (Below w.heap.size w wr)) (fun iv _ => n - (intOf iv).toNat)
  case atStart => exact ⟨0, fun _ => 0, rfl, by omega, HO0.out, fun _ => (by decide : (0 : Nat) < W16), by unfold Hid; rw [v16_zero]; simp [v16], fun _ _ => rfl, HB0.out⟩
  case round =>
    obtain ⟨i, h, rfl, hi, ho, hd, hv, hz, hbe⟩ := hrel
    rcases Nat.lt_or_ge i n with hlt | hge
    · have t1 : decide ((i : Int) < (n : Int)) = true := by (simp <;> omega)
      go_wp2
      go_loopw [7, 8] (fun cv kv wx => ∃ (k c : Nat) (h : Nat → Nat), cv = .int .i64 (c : Int) ∧ kv = .int .i64 (k : Int) ∧ k ≤ m ∧ c < 65536 ∧ Hid (wx.ownsRow w.heap.size 3 1 (Value.slice (some { block := w.heap.size, off := 0 }) (n + m) (n + m)) (n + m) (cellsI h (n + m))) ∧
        Hid (∀ j, h j < W16) ∧ Hid (v16 h (n + m) + c * W16 ^ (i + k) = v16 f i * v16 g m + f i * v16 g k * W16 ^ i) ∧ Hid (∀ j, i + m ≤ j → h j = 0) ∧ Hid (Below w.heap.size w wx)) (fun _ kv _ => m - (intOf kv).toNat)
      case atStart => exact ⟨0, 0, h, rfl, rfl, by omega, by omega, ho, hd, by unfold Hid; rw [hv.out]; simp [v16], hz, hbe⟩
      case round =>
        clear ho hd hv hz hbe h
        obtain ⟨k, c, h, rfl, rfl, hk, hc, ho, hd, hv, hz, hbe⟩ := hrel
        rcases Nat.lt_or_ge k m with hkm | hkm
        · have t2 : decide ((k : Int) < (m : Int)) = true := by (simp <;> omega)
          obtain ⟨gb, rfl, hgb, hgc⟩ := HGin.out k hkm
          obtain ⟨F, hF⟩ : ∃ F, F = f i := ⟨_, rfl⟩
          obtain ⟨G, hG⟩ : ∃ G, G = g k := ⟨_, rfl⟩
          obtain ⟨D, hD⟩ : ∃ D, D = h (i + k) := ⟨_, rfl⟩
          obtain ⟨P, hP⟩ : ∃ P, P = F * G := ⟨_, rfl⟩
          have bF : F < 65536 := by rw [hF]; exact HF.out i
          have bG : G < 65536 := by rw [hG]; exact HG.out k
          have bD : D < 65536 := by rw [hD]; exact hd.out _
          have bP : D + P + c < 4294967296 := by rw [hP]; exact dgt_bound bF bG hc bD
          have gP : (F : Int) * (G : Int) = (P : Int) := by rw [hP]; simp
          have c1 : wr.cell? ⟨w.heap.size, i + k, none⟩ = some (.int .i64 (D : Int)) := by rw [hD, ho.out.cellAt (i + k) (by omega), cellsI_get _ _ _ (by omega)]
          have c2 : wr.cell? ⟨ga, i, none⟩ = some (.int .i64 (F : Int)) := by rw [hF, (bcell hbe.out).1 _ _ hga]; exact HFin.out i hlt
          have c3 : wr.cell? ⟨gb, k, none⟩ = some (.int .i64 (G : Int)) := by rw [hG, (bcell hbe.out).1 _ _ hgb]; exact hgc
          have c4 : wr.frozen? ⟨w.heap.size, i + k, none⟩ = false := ho.out.frozenAt _
          obtain ⟨d, hdd⟩ : ∃ d, d = (D + P + c) % 65536 := ⟨_, rfl⟩
          obtain ⟨q, hq⟩ : ∃ q, q = (D + P + c) / 65536 := ⟨_, rfl⟩
          have e3 : ((D : Int) + (P : Int) + (c : Int)).tmod 65536 = (d : Int) := by rw [Int.tmod_eq_emod_of_nonneg (by omega)]; omega
          have e4 : ((D : Int) + (P : Int) + (c : Int)).tdiv 65536 = (q : Int) := by rw [Int.tdiv_eq_ediv_of_nonneg (by omega)]; omega
          have e5 : ((D : Int) + (P : Int) + (c : Int)) % 65536 = (d : Int) := by omega
          have e6 : ((D : Int) + (P : Int) + (c : Int)) / 65536 = (q : Int) := by omega
          have bd : d < 65536 := by omega
          have bq : q < 65536 := by omega
          have HN : Hid (v16 (upd h (i + k) d) (n + m) + q * W16 ^ (i + (k + 1)) = v16 f i * v16 g m + f i * v16 g (k + 1) * W16 ^ i) := by
            unfold Hid
            have hu := v16_upd h (i + k) d (n + m) (by omega)
            have := prod_digit (h0 := D) (F := F) (G := G) (c := c) (d := d) (q := q) (p := i + k) (V := v16 h (n + m)) (V' := v16 (upd h (i + k) d) (n + m)) (T := v16 f i * v16 g m + f i * v16 g k * W16 ^ i) (by rw [← hP]; omega) (by rw [hD]; exact hu) hv.out
            rw [← Nat.add_assoc, this]
            show _ = _ + f i * (v16 g k + g k * W16 ^ k) * W16 ^ i
            rw [Nat.mul_add, Nat.add_mul, Nat.pow_add, ← hF, ← hG]
            have : F * G * (W16 ^ i * W16 ^ k) = F * (G * W16 ^ k) * W16 ^ i := by ac_rfl
            omega
          clear hF hG hD hP hdd hq hgc
          have x1 : (i : Int) + (k : Int) < (n : Int) + (m : Int) := by omega
          have x2 : (0 : Int) ≤ (i : Int) + (k : Int) := by omega
          have x3 : (0 : Int) ≤ (i : Int) := by omega
          have x4 : (0 : Int) ≤ (k : Int) := by omega
          have x5 : (i : Int) < (n : Int) := by omega
          have x6 : (k : Int) < (m : Int) := by omega
          go_wp2_with (first | (go_quiet (fail)))
          go_roundw
          case rel =>
            refine ⟨k + 1, q, upd h (i + k) d, rfl, by simp, hkm, bq, ?_, ?_, HN.out, ?_, ?_⟩
            · have := (ho.out.stored (i + k) (.int .i64 (d : Int))).1
              rw [cellsI_set _ _ _ _ (by omega)] at this
              exact this
            · intro j; unfold upd; split
              · exact bd
              · exact hd.out j
            · intro j hj; unfold upd; rw [if_neg (by omega)]; exact hz.out j hj
            · exact (below_drewN hbe.out _).setCell (Nat.le_refl _) _
          case measure => simp [intOf]; omega
        · have hkm2 : k = m := by omega
          subst hkm2
          have t2 : decide ((k : Int) < (k : Int)) = false := by simp
          have t2' : ¬ (k : Int) < (k : Int) := by omega
          have c1 : wr.cell? ⟨w.heap.size, i + k, none⟩ = some (.int .i64 0) := by rw [ho.out.cellAt (i + k) (by omega), cellsI_get _ _ _ (by omega), hz.out (i + k) (Nat.le_refl _)]; rfl
          have c4 : wr.frozen? ⟨w.heap.size, i + k, none⟩ = false := ho.out.frozenAt _
          have HN : Hid (v16 (upd h (i + k) c) (n + k) = v16 f (i + 1) * v16 g k) := by
            unfold Hid
            have hu := v16_upd h (i + k) c (n + k) (by omega)
            rw [hz.out (i + k) (Nat.le_refl _)] at hu
            have h1 := hv.out
            show _ = (v16 f i + f i * W16 ^ i) * v16 g k
            rw [Nat.add_mul]
            have : f i * W16 ^ i * v16 g k = f i * v16 g k * W16 ^ i := by ac_rfl
            omega
          have x1 : (i : Int) + (k : Int) < (n : Int) + (k : Int) := by omega
          have x2 : (0 : Int) ≤ (i : Int) + (k : Int) := by omega
          go_wp2
          go_roundw
          case rel =>
            refine ⟨i + 1, upd h (i + k) c, by simp, hlt, ?_, ?_, HN.out, ?_, ?_⟩
            · have := (ho.out.stored (i + k) (.int .i64 (c : Int))).1
              rw [cellsI_set _ _ _ _ (by omega)] at this
              exact this
            · intro j; unfold upd; split
              · exact hc
              · exact hd.out j
            · intro j hj; unfold upd; rw [if_neg (by omega)]; exact hz.out j (by omega)
            · exact hbe.out.setCell (Nat.le_refl _) _
          case measure => simp [intOf]; omega
    · have hin : i = n := by omega
      subst hin
      have t1 : decide ((i : Int) < (i : Int)) = false := by simp
      have t1' : ¬ (i : Int) < (i : Int) := by omega
      go_wp2
      go_ret
      exact ⟨_, rfl, h, ho.out, hd.out, hv.out, hbe.out⟩

end Go.Proofs.YtpdaigenffecmaaGreat
