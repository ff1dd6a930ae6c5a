/-
  The walk of span.between: the least lower and the greatest upper end of an operation at the four pairs of ends.
-/
import Derived.Laws.EntriesVeiled
import Derived.Test.YtpdaigenffecmaaM07
set_option linter.all false
namespace Go.Proofs.Ytpdaigenffecmaa
open Go.RowKit Go.Shelf
attribute [local go_sem] Oper.semAt_some

theorem spFour_of_fold {f : Int → Int → Bool → Int × Int} {al ah bl bh : Int} (h : ∀ p ∈ four4 al ah bl bh, (f p.1 p.2 false).2 = 0 ∧ (f p.1 p.2 true).2 = 0) :
    spFour f (al, ah) (bl, bh) = spTold ((btFold f (four4 al ah bl bh)).getD (0, 0)).1 ((btFold f (four4 al ah bl bh)).getD (0, 0)).2 := by
  have h1 := h (al, bl) (by simp); have h2 := h (al, bh) (by simp); have h3 := h (ah, bl) (by simp); have h4 := h (ah, bh) (by simp)
  simp only at h1 h2 h3 h4
  unfold spFour
  rw [if_neg (by simp [h1, h2, h3, h4])]
  have e1 : ∀ a b : Int, (if b < a then b else a) = min a b := by intro a b; rw [Int.min_def]; split <;> split <;> omega
  have e2 : ∀ a b : Int, (if a < b then b else a) = max a b := by intro a b; rw [Int.max_def]; split <;> split <;> omega
  simp [btFold, btStep, four4, e1, e2]
theorem spFour_of_err {f : Int → Int → Bool → Int × Int} {al ah bl bh : Int} {pre : List (Int × Int)} (hp : pre <+: four4 al ah bl bh) (h : ∃ p ∈ pre, (f p.1 p.2 false).2 ≠ 0 ∨ (f p.1 p.2 true).2 ≠ 0) :
    spFour f (al, ah) (bl, bh) = (0, 0, 6) := by
  obtain ⟨p, hm, he⟩ := h
  have hm4 : p ∈ four4 al ah bl bh := hp.subset hm
  unfold spFour
  rw [if_pos]
  simp only [four4, List.mem_cons, List.not_mem_nil, or_false] at hm4
  rcases hm4 with rfl | rfl | rfl | rfl <;> simp only at he <;> rcases he with he | he <;> simp [he]

set_option maxRecDepth 100000 in
set_option maxHeartbeats 4000000 in
theorem c_between (fd fu : Nat) (f : Int → Int → Bool → Int × Int) (al ah bl bh : Int) (w : World)
    (ed : ∀ args w, (callFunc fd args).run Try.prog w = .ok (.enter fd args) w) (eu : ∀ args w, (callFunc fu args).run Try.prog w = .ok (.enter fu args) w)
    (hd : ∀ a b w, Calls Try.prog fd #[.int .i64 a, .int .i64 b] w fun e w' => e = .returned (.tuple #[.int .i64 (f a b false).1, .int .i64 (f a b false).2]) ∧ Below w.heap.size w w')
    (hu : ∀ a b w, Calls Try.prog fu #[.int .i64 a, .int .i64 b] w fun e w' => e = .returned (.tuple #[.int .i64 (f a b true).1, .int .i64 (f a b true).2]) ∧ Below w.heap.size w w') :
    Calls Try.prog 110 #[.agg #[.int .i64 al, .int .i64 ah], .agg #[.int .i64 bl, .int .i64 bh], .agg #[.func (.func fd) #[] #[], .func (.func fu) #[] #[]]] w fun e w' =>
      e = .returned (.tuple #[.agg #[.int .i64 (spFour f (al, ah) (bl, bh)).1, .int .i64 (spFour f (al, ah) (bl, bh)).2.1], .int .i64 (spFour f (al, ah) (bl, bh)).2.2]) ∧ Below w.heap.size w w' := by
  have HD := Lib.hid hd; have HU := Lib.hid hu; clear hd hu
  refine (callsIn_wide (n := 9)).1 ?_
  refine callsIn_of_wp_marks Try.func110 rfl trivial ?_ rfl
  simp only [Try.ntmps110, List.size_toArray, List.length_cons, List.length_nil, Nat.reduceAdd, Nat.reduceSub, Array.replicate_succ, Array.replicate_zero, List.push_toArray, List.append_toArray, List.nil_append, List.cons_append]
  gi_wp2_with (refine ⟨trivial, ?_⟩; gi_at_call 136; refine (callsIn_wide.2 (c_corners _ _ _ _ _)).mono ?_; rintro e w' ⟨rfl, rfl⟩)
  obtain ⟨W0, hW0⟩ : ∃ W0, W0 = ((((((((((w.alloc (.cells #[.int .i64 al, .int .i64 ah] 23)).alloc (.cells #[.int .i64 bl, .int .i64 bh] 23)).alloc
    (.cells #[.func (.func fd) #[] #[], .func (.func fu) #[] #[]] 142)).alloc (.cells #[.int .i64 0, .int .i64 0] 23)).alloc (.cells #[.int .i64 0] 44)).alloc
    (.cells #[.int .i64 0, .int .i64 0] 96)).alloc (.cells #[.bool false] 4)).alloc
    (.cells #[.func (.func 135) #[] #[.pointer (some ⟨w.heap.size + 1 + 1 + 1 + 1 + 1 + 1, 0, none⟩), .pointer (some ⟨w.heap.size + 1 + 1 + 1 + 1 + 1, 0, none⟩)]] 161)).alloc (.cells #[.int .i64 al, .int .i64 ah] 23)).alloc (.cells #[.int .i64 bl, .int .i64 bh] 23)) := ⟨_, rfl⟩
  rw [← hW0]
  have hsz : W0.heap.size = w.heap.size + 10 := by rw [hW0]; simp
  have hbw : Below w.heap.size w W0 := by rw [hW0]; exact (by (repeat' (first | (with_reducible exact Below.refl _ _) | assumption | (with_reducible refine Below.setCell ?_ ?_ _) | (with_reducible refine Below.alloc ?_ ?_ _) | (with_reducible refine Below.drew ?_) | (with_reducible refine below_drewN ?_ _) | (with_reducible refine Below.trans ?_ (Below.mono (by assumption) ?_)) | omega | (simp; done) | (simp; omega) | (simp [World.setCell]; omega))))
  have k20 : W0.cell? ⟨w.heap.size + 1 + 1, 0, none⟩ = some (.func (.func fd) #[] #[]) := by rw [hW0]; go_simp
  have k21 : W0.cell? ⟨w.heap.size + 1 + 1, 1, none⟩ = some (.func (.func fu) #[] #[]) := by rw [hW0]; go_simp
  have k30 : W0.cell? ⟨w.heap.size + 1 + 1 + 1, 0, none⟩ = some (.int .i64 0) := by rw [hW0]; go_simp
  have k31 : W0.cell? ⟨w.heap.size + 1 + 1 + 1, 1, none⟩ = some (.int .i64 0) := by rw [hW0]; go_simp
  have k40 : W0.cell? ⟨w.heap.size + 1 + 1 + 1 + 1, 0, none⟩ = some (.int .i64 0) := by rw [hW0]; go_simp
  have k50 : W0.cell? ⟨w.heap.size + 1 + 1 + 1 + 1 + 1, 0, none⟩ = some (.int .i64 0) := by rw [hW0]; go_simp
  have k51 : W0.cell? ⟨w.heap.size + 1 + 1 + 1 + 1 + 1, 1, none⟩ = some (.int .i64 0) := by rw [hW0]; go_simp
  have k60 : W0.cell? ⟨w.heap.size + 1 + 1 + 1 + 1 + 1 + 1, 0, none⟩ = some (.bool false) := by rw [hW0]; go_simp
  have k70 : W0.cell? ⟨w.heap.size + 1 + 1 + 1 + 1 + 1 + 1 + 1, 0, none⟩ = some (.func (.func 135) #[] #[.pointer (some ⟨w.heap.size + 1 + 1 + 1 + 1 + 1 + 1, 0, none⟩), .pointer (some ⟨w.heap.size + 1 + 1 + 1 + 1 + 1, 0, none⟩)]) := by rw [hW0]; go_simp
  have k80 : W0.cell? ⟨w.heap.size + 1 + 1 + 1 + 1 + 1 + 1 + 1 + 1, 0, none⟩ = some (.int .i64 al) := by rw [hW0]; go_simp
  have k81 : W0.cell? ⟨w.heap.size + 1 + 1 + 1 + 1 + 1 + 1 + 1 + 1, 1, none⟩ = some (.int .i64 ah) := by rw [hW0]; go_simp
  have k90 : W0.cell? ⟨w.heap.size + 1 + 1 + 1 + 1 + 1 + 1 + 1 + 1 + 1, 0, none⟩ = some (.int .i64 bl) := by rw [hW0]; go_simp
  have k91 : W0.cell? ⟨w.heap.size + 1 + 1 + 1 + 1 + 1 + 1 + 1 + 1 + 1, 1, none⟩ = some (.int .i64 bh) := by rw [hW0]; go_simp
  have f30 : W0.frozen? ⟨w.heap.size + 1 + 1 + 1, 0, none⟩ = false := by rw [hW0]; go_simp
  have f31 : W0.frozen? ⟨w.heap.size + 1 + 1 + 1, 1, none⟩ = false := by rw [hW0]; go_simp
  have f40 : W0.frozen? ⟨w.heap.size + 1 + 1 + 1 + 1, 0, none⟩ = false := by rw [hW0]; go_simp
  have f50 : W0.frozen? ⟨w.heap.size + 1 + 1 + 1 + 1 + 1, 0, none⟩ = false := by rw [hW0]; go_simp
  have f51 : W0.frozen? ⟨w.heap.size + 1 + 1 + 1 + 1 + 1, 1, none⟩ = false := by rw [hW0]; go_simp
  have f60 : W0.frozen? ⟨w.heap.size + 1 + 1 + 1 + 1 + 1 + 1, 0, none⟩ = false := by rw [hW0]; go_simp
  clear hW0
  refine wpIn_rangeFunc_ownF rfl (by omega) (gf := 145) (lb := #[.pointer (some ⟨w.heap.size + 1 + 1 + 1 + 1 + 1 + 1 + 1 + 1, 0, none⟩), .pointer (some ⟨w.heap.size + 1 + 1 + 1 + 1 + 1 + 1 + 1 + 1 + 1, 0, none⟩)]) rfl trivial (enters_of Try.func145 (by kernel_rfl) rfl)
    (corners_stops 8 (by omega) _ _ al ah bl bh W0 (by omega) (by omega) k80 k81 k90 k91) (fun h k => ⟨k.1.trans h.1, k.2.trans h.2⟩) ?hKb (Below.refl _ _) (fun _ => rfl)
    (fun pre W => (∀ p ∈ pre, (f p.1 p.2 false).2 = 0 ∧ (f p.1 p.2 true).2 = 0) ∧ (W.cell? ⟨w.heap.size + 1 + 1 + 1 + 1 + 1 + 1, 0, none⟩ = some (.bool (btFold f pre).isSome) ∧ W.cell? ⟨w.heap.size + 1 + 1 + 1 + 1 + 1, 0, none⟩ = some (.int .i64 ((btFold f pre).getD (0, 0)).1) ∧
        W.cell? ⟨w.heap.size + 1 + 1 + 1 + 1 + 1, 1, none⟩ = some (.int .i64 ((btFold f pre).getD (0, 0)).2) ∧ W.frozen? ⟨w.heap.size + 1 + 1 + 1 + 1 + 1 + 1, 0, none⟩ = false ∧ W.frozen? ⟨w.heap.size + 1 + 1 + 1 + 1 + 1, 0, none⟩ = false ∧ W.frozen? ⟨w.heap.size + 1 + 1 + 1 + 1 + 1, 1, none⟩ = false) ∧
      KB (w.heap.size + 10) (w.heap.size + 1 + 1 + 1 + 1 + 1 + 1) (w.heap.size + 1 + 1 + 1 + 1 + 1) W0 W)
    (fun c pre W => (c = .ret ∧ ∃ p ∈ pre, (f p.1 p.2 false).2 ≠ 0 ∨ (f p.1 p.2 true).2 ≠ 0) ∧ (W.cell? ⟨w.heap.size + 1 + 1 + 1, 0, none⟩ = some (.int .i64 0) ∧ W.cell? ⟨w.heap.size + 1 + 1 + 1, 1, none⟩ = some (.int .i64 0) ∧ W.cell? ⟨w.heap.size + 1 + 1 + 1 + 1, 0, none⟩ = some (.int .i64 6)) ∧ Below w.heap.size w W)
    ?hI ?hIx ?h0 (fun x => { tmps := #[.agg #[.int .i64 al, .int .i64 ah], .agg #[.int .i64 bl, .int .i64 bh], .agg #[.func (.func fd) #[] #[], .func (.func fu) #[] #[]], .pointer (some ⟨w.heap.size, 0, none⟩), .pointer (some ⟨w.heap.size + 1, 0, none⟩), .pointer (some ⟨w.heap.size + 1 + 1, 0, none⟩), .pointer (some ⟨w.heap.size + 1 + 1 + 1, 0, none⟩), .pointer (some ⟨w.heap.size + 1 + 1 + 1 + 1, 0, none⟩), .pointer (some ⟨w.heap.size + 1 + 1 + 1 + 1 + 1, 0, none⟩), .pointer (some ⟨w.heap.size + 1 + 1 + 1 + 1 + 1 + 1, 0, none⟩), .pointer (some ⟨w.heap.size + 1 + 1 + 1 + 1 + 1 + 1 + 1, 0, none⟩), .int .i64 x.1, .int .i64 x.2, undef, undef, undef, undef, .agg #[.int .i64 0, .int .i64 0], .func (.func 135) #[] #[.pointer (some ⟨w.heap.size + 1 + 1 + 1 + 1 + 1 + 1, 0, none⟩), .pointer (some ⟨w.heap.size + 1 + 1 + 1 + 1 + 1, 0, none⟩)], .agg #[.int .i64 al, .int .i64 ah], .agg #[.int .i64 bl, .int .i64 bh], .func (.func 145) #[] #[.pointer (some ⟨w.heap.size + 1 + 1 + 1 + 1 + 1 + 1 + 1 + 1, 0, none⟩), .pointer (some ⟨w.heap.size + 1 + 1 + 1 + 1 + 1 + 1 + 1 + 1 + 1, 0, none⟩)], .int .i64 x.1, .int .i64 x.2, undef, undef, undef, undef, undef, undef, undef, undef, undef, undef, undef, undef, undef, undef, undef, undef, undef, undef, undef, undef, undef, undef, undef, undef, undef, undef, undef, undef, undef, undef, undef, undef, undef, undef], defers := [] }) ?assign ?body ?done ?stop
  case hKb => exact fun W l o o' hl h _ _ => ⟨World.putObj_heap_other (by omega), World.putObj_heap_other (by omega)⟩
  case hI => exact OwnFrom.and (Own.from (fun s A B row hs hg hr => hs) _) (OwnFrom.and (Own.from (fun s A B row hs hg hr => ⟨cell_kept hs.1 hg hr, cell_kept hs.2.1 hg hr, cell_kept hs.2.2.1 hg hr, (frozen_kept hs.1 hg hr).trans hs.2.2.2.1, (frozen_kept hs.2.1 hg hr).trans hs.2.2.2.2.1, (frozen_kept hs.2.2.1 hg hr).trans hs.2.2.2.2.2⟩) _) (hsz ▸ KB.own (by omega)))
  case hIx => exact fun c => OwnFrom.and (Own.from (fun s A B row hs hg hr => hs) _) (OwnFrom.and (Own.from (fun s A B row hs hg hr => ⟨cell_kept hs.1 hg hr, cell_kept hs.2.1 hg hr, cell_kept hs.2.2 hg hr⟩) _) (ownFrom_below (Nat.le_refl _) (by omega)))
  case h0 => exact ⟨fun p hp => by simp at hp, ⟨k60, k50, k51, f60, f50, f51⟩, KB.refl _ _ _ _⟩
  case assign =>
    intro l x W K hK
    gi_wp2
    exact hK
  case body =>
    rintro l pre x W ⟨hne, ⟨c6, c50, c51, g6, g50, g51⟩, hKB⟩ hlen
    have d20 := (hKB.cell (b := w.heap.size + 1 + 1) (o := 0) (by omega) (by omega) (by omega)).trans k20
    have d21 := (hKB.cell (b := w.heap.size + 1 + 1) (o := 1) (by omega) (by omega) (by omega)).trans k21
    have d70 := (hKB.cell (b := w.heap.size + 1 + 1 + 1 + 1 + 1 + 1 + 1) (o := 0) (by omega) (by omega) (by omega)).trans k70
    have HNE := Lib.hid hne; clear hne
    have d30 := (hKB.cell (b := w.heap.size + 1 + 1 + 1) (o := 0) (by omega) (by omega) (by omega)).trans k30
    have d31 := (hKB.cell (b := w.heap.size + 1 + 1 + 1) (o := 1) (by omega) (by omega) (by omega)).trans k31
    have d40 := (hKB.cell (b := w.heap.size + 1 + 1 + 1 + 1) (o := 0) (by omega) (by omega) (by omega)).trans k40
    have e30 := (hKB.frozen (b := w.heap.size + 1 + 1 + 1) (o := 0) (by omega) (by omega) (by omega)).trans f30
    have e31 := (hKB.frozen (b := w.heap.size + 1 + 1 + 1) (o := 1) (by omega) (by omega) (by omega)).trans f31
    have e40 := (hKB.frozen (b := w.heap.size + 1 + 1 + 1 + 1) (o := 0) (by omega) (by omega) (by omega)).trans f40
    have hBW : Below w.heap.size w W := hbw.trans (hKB.toBelow (by omega) (by omega) (by omega))
    have hsW : w.heap.size + 10 ≤ W.heap.size := by have := hKB.size; omega
    have zW_0 : w.heap.size < W.heap.size := by omega
    have zW_1 : w.heap.size + 1 < W.heap.size := by omega
    have zW_2 : w.heap.size + 1 + 1 < W.heap.size := by omega
    have zW_3 : w.heap.size + 1 + 1 + 1 < W.heap.size := by omega
    have zW_4 : w.heap.size + 1 + 1 + 1 + 1 < W.heap.size := by omega
    have zW_5 : w.heap.size + 1 + 1 + 1 + 1 + 1 < W.heap.size := by omega
    have zW_6 : w.heap.size + 1 + 1 + 1 + 1 + 1 + 1 < W.heap.size := by omega
    have zW_7 : w.heap.size + 1 + 1 + 1 + 1 + 1 + 1 + 1 < W.heap.size := by omega
    have zW_8 : w.heap.size + 1 + 1 + 1 + 1 + 1 + 1 + 1 + 1 < W.heap.size := by omega
    have zW_9 : w.heap.size + 1 + 1 + 1 + 1 + 1 + 1 + 1 + 1 + 1 < W.heap.size := by omega
    clear hsz
    rcases Decidable.em ((f x.1 x.2 false).2 = 0) with he | he
    · have he' : ((f x.1 x.2 false).2 != 0) = false := by simp [he]
      rcases Decidable.em ((f x.1 x.2 true).2 = 0) with hf | hf
      · have hf' : ((f x.1 x.2 true).2 != 0) = false := by simp [hf]
        have HE := Lib.hid he; have HF := Lib.hid hf
        clear he hf
        gi_wp2_with (first
          | (refine ⟨trivial, ?_⟩; (with_reducible refine (CallsIn.inRound l (callsIn_wide.2 (HD.out x.1 x.2 W))).mono ?_); rintro e W1 ⟨rfl, hb1⟩; obtain ⟨hc1, hf1⟩ := bcell hb1; have hs1 := hb1.size; have zW1_0 : w.heap.size < W1.heap.size := (by omega); have zW1_1 : w.heap.size + 1 < W1.heap.size := (by omega); have zW1_2 : w.heap.size + 1 + 1 < W1.heap.size := (by omega); have zW1_3 : w.heap.size + 1 + 1 + 1 < W1.heap.size := (by omega); have zW1_4 : w.heap.size + 1 + 1 + 1 + 1 < W1.heap.size := (by omega); have zW1_5 : w.heap.size + 1 + 1 + 1 + 1 + 1 < W1.heap.size := (by omega); have zW1_6 : w.heap.size + 1 + 1 + 1 + 1 + 1 + 1 < W1.heap.size := (by omega); have zW1_7 : w.heap.size + 1 + 1 + 1 + 1 + 1 + 1 + 1 < W1.heap.size := (by omega); have zW1_8 : w.heap.size + 1 + 1 + 1 + 1 + 1 + 1 + 1 + 1 < W1.heap.size := (by omega); have zW1_9 : w.heap.size + 1 + 1 + 1 + 1 + 1 + 1 + 1 + 1 + 1 < W1.heap.size := (by omega))
          | (refine ⟨trivial, ?_⟩; (with_reducible refine (CallsIn.inRound l (callsIn_wide.2 (HU.out x.1 x.2 W1))).mono ?_); rintro e W2 ⟨rfl, hb2⟩; obtain ⟨hc2, hf2⟩ := bcell hb2; have hs2 := hb2.size; have zW2_0 : w.heap.size < W2.heap.size := (by omega); have zW2_1 : w.heap.size + 1 < W2.heap.size := (by omega); have zW2_2 : w.heap.size + 1 + 1 < W2.heap.size := (by omega); have zW2_3 : w.heap.size + 1 + 1 + 1 < W2.heap.size := (by omega); have zW2_4 : w.heap.size + 1 + 1 + 1 + 1 < W2.heap.size := (by omega); have zW2_5 : w.heap.size + 1 + 1 + 1 + 1 + 1 < W2.heap.size := (by omega); have zW2_6 : w.heap.size + 1 + 1 + 1 + 1 + 1 + 1 < W2.heap.size := (by omega); have zW2_7 : w.heap.size + 1 + 1 + 1 + 1 + 1 + 1 + 1 < W2.heap.size := (by omega); have zW2_8 : w.heap.size + 1 + 1 + 1 + 1 + 1 + 1 + 1 + 1 < W2.heap.size := (by omega); have zW2_9 : w.heap.size + 1 + 1 + 1 + 1 + 1 + 1 + 1 + 1 + 1 < W2.heap.size := (by omega))
          | (refine ⟨trivial, ?_⟩; gi_at_call 135; refine (CallsIn.inRound l (callsIn_wide.2 (c_take _ _ ((btFold f pre).getD (0, 0)).1 ((btFold f pre).getD (0, 0)).2 (btFold f pre).isSome _ _ _ (by omega) ?_ ?_ ?_ ?_ ?_ ?_))).mono ?_; go_simp; go_simp; go_simp; go_simp; go_simp; go_simp; rintro e W3 ⟨rfl, ho, m6, m50, m51, n6, n50, n51⟩))
        have hb3 : Below W.heap.size W W2 := hb1.trans (hb2.mono hb1.size)
        refine ⟨(KeepsOthers.of_below hb3).trans ho.others, ⟨(ho.block _ (by omega) (by omega)).trans (hb3.block _ (by omega)), (ho.block _ (by omega) (by omega)).trans (hb3.block _ (by omega))⟩, ?_, ⟨?_, ?_, ?_, n6, n50, n51⟩, (hKB.below hb3 hsW).only ho⟩
        · intro p hp
          rcases List.mem_append.1 hp with h | h
          · exact HNE.out p h
          · obtain rfl : p = x := by simpa using h
            exact ⟨HE.out, HF.out⟩
        · rw [m6, btFold_snoc]; cases hbt : btFold f pre <;> simp [btStep]
        · rw [m50, btFold_snoc]; cases hbt : btFold f pre <;> simp [btStep]
        · rw [m51, btFold_snoc]; cases hbt : btFold f pre <;> simp [btStep]
      · have hf' : ((f x.1 x.2 true).2 != 0) = true := by simp [hf]
        have HE : Hid ((f x.1 x.2 false).2 ≠ 0 ∨ (f x.1 x.2 true).2 ≠ 0) := .inr hf
        clear he hf
        gi_wp2_with (first
          | (refine ⟨trivial, ?_⟩; (with_reducible refine (CallsIn.inRound l (callsIn_wide.2 (HD.out x.1 x.2 W))).mono ?_); rintro e W1 ⟨rfl, hb1⟩; obtain ⟨hc1, hf1⟩ := bcell hb1; have hs1 := hb1.size; have zW1_0 : w.heap.size < W1.heap.size := (by omega); have zW1_1 : w.heap.size + 1 < W1.heap.size := (by omega); have zW1_2 : w.heap.size + 1 + 1 < W1.heap.size := (by omega); have zW1_3 : w.heap.size + 1 + 1 + 1 < W1.heap.size := (by omega); have zW1_4 : w.heap.size + 1 + 1 + 1 + 1 < W1.heap.size := (by omega); have zW1_5 : w.heap.size + 1 + 1 + 1 + 1 + 1 < W1.heap.size := (by omega); have zW1_6 : w.heap.size + 1 + 1 + 1 + 1 + 1 + 1 < W1.heap.size := (by omega); have zW1_7 : w.heap.size + 1 + 1 + 1 + 1 + 1 + 1 + 1 < W1.heap.size := (by omega); have zW1_8 : w.heap.size + 1 + 1 + 1 + 1 + 1 + 1 + 1 + 1 < W1.heap.size := (by omega); have zW1_9 : w.heap.size + 1 + 1 + 1 + 1 + 1 + 1 + 1 + 1 + 1 < W1.heap.size := (by omega))
          | (refine ⟨trivial, ?_⟩; (with_reducible refine (CallsIn.inRound l (callsIn_wide.2 (HU.out x.1 x.2 W1))).mono ?_); rintro e W2 ⟨rfl, hb2⟩; obtain ⟨hc2, hf2⟩ := bcell hb2; have hs2 := hb2.size; have zW2_0 : w.heap.size < W2.heap.size := (by omega); have zW2_1 : w.heap.size + 1 < W2.heap.size := (by omega); have zW2_2 : w.heap.size + 1 + 1 < W2.heap.size := (by omega); have zW2_3 : w.heap.size + 1 + 1 + 1 < W2.heap.size := (by omega); have zW2_4 : w.heap.size + 1 + 1 + 1 + 1 < W2.heap.size := (by omega); have zW2_5 : w.heap.size + 1 + 1 + 1 + 1 + 1 < W2.heap.size := (by omega); have zW2_6 : w.heap.size + 1 + 1 + 1 + 1 + 1 + 1 < W2.heap.size := (by omega); have zW2_7 : w.heap.size + 1 + 1 + 1 + 1 + 1 + 1 + 1 < W2.heap.size := (by omega); have zW2_8 : w.heap.size + 1 + 1 + 1 + 1 + 1 + 1 + 1 + 1 < W2.heap.size := (by omega); have zW2_9 : w.heap.size + 1 + 1 + 1 + 1 + 1 + 1 + 1 + 1 + 1 < W2.heap.size := (by omega)))
        exact ⟨(KeepsOthers.of_below (hb1.trans (hb2.mono hb1.size))).trans (((KeepsOthers.setCell _ _ _).trans (KeepsOthers.setCell _ _ _)).trans (KeepsOthers.setCell _ _ _)), ⟨rfl, x, by simp, HE.out⟩, ⟨by go_simp, by go_simp, by go_simp⟩, by (repeat' (first | (with_reducible exact Below.refl _ _) | assumption | (with_reducible refine Below.setCell ?_ ?_ _) | (with_reducible refine Below.alloc ?_ ?_ _) | (with_reducible refine Below.drew ?_) | (with_reducible refine below_drewN ?_ _) | (with_reducible refine Below.trans ?_ (Below.mono (by assumption) ?_)) | omega | (simp; done) | (simp; omega) | (simp [World.setCell]; omega)))⟩
    · have he' : ((f x.1 x.2 false).2 != 0) = true := by simp [he]
      have HE : Hid ((f x.1 x.2 false).2 ≠ 0 ∨ (f x.1 x.2 true).2 ≠ 0) := .inl he
      clear he
      gi_wp2_with (first
        | (refine ⟨trivial, ?_⟩; (with_reducible refine (CallsIn.inRound l (callsIn_wide.2 (HD.out x.1 x.2 W))).mono ?_); rintro e W1 ⟨rfl, hb1⟩; obtain ⟨hc1, hf1⟩ := bcell hb1; have hs1 := hb1.size; have zW1_0 : w.heap.size < W1.heap.size := (by omega); have zW1_1 : w.heap.size + 1 < W1.heap.size := (by omega); have zW1_2 : w.heap.size + 1 + 1 < W1.heap.size := (by omega); have zW1_3 : w.heap.size + 1 + 1 + 1 < W1.heap.size := (by omega); have zW1_4 : w.heap.size + 1 + 1 + 1 + 1 < W1.heap.size := (by omega); have zW1_5 : w.heap.size + 1 + 1 + 1 + 1 + 1 < W1.heap.size := (by omega); have zW1_6 : w.heap.size + 1 + 1 + 1 + 1 + 1 + 1 < W1.heap.size := (by omega); have zW1_7 : w.heap.size + 1 + 1 + 1 + 1 + 1 + 1 + 1 < W1.heap.size := (by omega); have zW1_8 : w.heap.size + 1 + 1 + 1 + 1 + 1 + 1 + 1 + 1 < W1.heap.size := (by omega); have zW1_9 : w.heap.size + 1 + 1 + 1 + 1 + 1 + 1 + 1 + 1 + 1 < W1.heap.size := (by omega))
        | (refine ⟨trivial, ?_⟩; (with_reducible refine (CallsIn.inRound l (callsIn_wide.2 (HU.out x.1 x.2 W1))).mono ?_); rintro e W2 ⟨rfl, hb2⟩; obtain ⟨hc2, hf2⟩ := bcell hb2; have hs2 := hb2.size; have zW2_0 : w.heap.size < W2.heap.size := (by omega); have zW2_1 : w.heap.size + 1 < W2.heap.size := (by omega); have zW2_2 : w.heap.size + 1 + 1 < W2.heap.size := (by omega); have zW2_3 : w.heap.size + 1 + 1 + 1 < W2.heap.size := (by omega); have zW2_4 : w.heap.size + 1 + 1 + 1 + 1 < W2.heap.size := (by omega); have zW2_5 : w.heap.size + 1 + 1 + 1 + 1 + 1 < W2.heap.size := (by omega); have zW2_6 : w.heap.size + 1 + 1 + 1 + 1 + 1 + 1 < W2.heap.size := (by omega); have zW2_7 : w.heap.size + 1 + 1 + 1 + 1 + 1 + 1 + 1 < W2.heap.size := (by omega); have zW2_8 : w.heap.size + 1 + 1 + 1 + 1 + 1 + 1 + 1 + 1 < W2.heap.size := (by omega); have zW2_9 : w.heap.size + 1 + 1 + 1 + 1 + 1 + 1 + 1 + 1 + 1 < W2.heap.size := (by omega)))
      exact ⟨(KeepsOthers.of_below (hb1.trans (hb2.mono hb1.size))).trans (((KeepsOthers.setCell _ _ _).trans (KeepsOthers.setCell _ _ _)).trans (KeepsOthers.setCell _ _ _)), ⟨rfl, x, by simp, HE.out⟩, ⟨by go_simp, by go_simp, by go_simp⟩, by (repeat' (first | (with_reducible exact Below.refl _ _) | assumption | (with_reducible refine Below.setCell ?_ ?_ _) | (with_reducible refine Below.alloc ?_ ?_ _) | (with_reducible refine Below.drew ?_) | (with_reducible refine below_drewN ?_ _) | (with_reducible refine Below.trans ?_ (Below.mono (by assumption) ?_)) | omega | (simp; done) | (simp; omega) | (simp [World.setCell]; omega)))⟩
  case done =>
    rintro D xs W hD rfl ⟨hne, ⟨c6, c50, c51, g6, g50, g51⟩, hKB⟩ hK
    have d30 := (hKB.cell (b := w.heap.size + 1 + 1 + 1) (o := 0) (by omega) (by omega) (by omega)).trans k30
    have d31 := (hKB.cell (b := w.heap.size + 1 + 1 + 1) (o := 1) (by omega) (by omega) (by omega)).trans k31
    have d40 := (hKB.cell (b := w.heap.size + 1 + 1 + 1 + 1) (o := 0) (by omega) (by omega) (by omega)).trans k40
    have e30 := (hKB.frozen (b := w.heap.size + 1 + 1 + 1) (o := 0) (by omega) (by omega) (by omega)).trans f30
    have e31 := (hKB.frozen (b := w.heap.size + 1 + 1 + 1) (o := 1) (by omega) (by omega) (by omega)).trans f31
    have e40 := (hKB.frozen (b := w.heap.size + 1 + 1 + 1 + 1) (o := 0) (by omega) (by omega) (by omega)).trans f40
    have hBW : Below w.heap.size w W := hbw.trans (hKB.toBelow (by omega) (by omega) (by omega))
    have hsW : w.heap.size + 10 ≤ W.heap.size := by have := hKB.size; omega
    have zW_0 : w.heap.size < W.heap.size := by omega
    have zW_1 : w.heap.size + 1 < W.heap.size := by omega
    have zW_2 : w.heap.size + 1 + 1 < W.heap.size := by omega
    have zW_3 : w.heap.size + 1 + 1 + 1 < W.heap.size := by omega
    have zW_4 : w.heap.size + 1 + 1 + 1 + 1 < W.heap.size := by omega
    have zW_5 : w.heap.size + 1 + 1 + 1 + 1 + 1 < W.heap.size := by omega
    have zW_6 : w.heap.size + 1 + 1 + 1 + 1 + 1 + 1 < W.heap.size := by omega
    have zW_7 : w.heap.size + 1 + 1 + 1 + 1 + 1 + 1 + 1 < W.heap.size := by omega
    have hsp : Hid (spFour f (al, ah) (bl, bh) = spTold ((btFold f (four4 al ah bl bh)).getD (0, 0)).1 ((btFold f (four4 al ah bl bh)).getD (0, 0)).2) := spFour_of_fold hne
    have HK := Lib.hid hK; have HDD : Hid (w.heap.size + 10 ≤ D) := by unfold Hid; omega
    clear hK hD hne hsz
    gi_wp2_with (refine ⟨trivial, ?_⟩; gi_at_call 113; refine (callsIn_wide.2 (c_spanTold _ _ _)).mono ?_; rintro e W1 ⟨rfl, hb1⟩; obtain ⟨hc1, hf1⟩ := bcell hb1; have hs1 := hb1.size; have zW1_0 : w.heap.size < W1.heap.size := (by omega); have zW1_1 : w.heap.size + 1 < W1.heap.size := (by omega); have zW1_2 : w.heap.size + 1 + 1 < W1.heap.size := (by omega); have zW1_3 : w.heap.size + 1 + 1 + 1 < W1.heap.size := (by omega); have zW1_4 : w.heap.size + 1 + 1 + 1 + 1 < W1.heap.size := (by omega); have zW1_5 : w.heap.size + 1 + 1 + 1 + 1 + 1 < W1.heap.size := (by omega); have zW1_6 : w.heap.size + 1 + 1 + 1 + 1 + 1 + 1 < W1.heap.size := (by omega); have zW1_7 : w.heap.size + 1 + 1 + 1 + 1 + 1 + 1 + 1 < W1.heap.size := (by omega))
    have hK' := ((KeepsOthers.of_below hb1).trans (((KeepsOthers.setCell W1 ⟨w.heap.size + 1 + 1 + 1, 0, none⟩ (.int .i64 (spTold ((btFold f (four4 al ah bl bh)).getD (0, 0)).1 ((btFold f (four4 al ah bl bh)).getD (0, 0)).2).1)).trans (KeepsOthers.setCell _ ⟨w.heap.size + 1 + 1 + 1, 1, none⟩ (.int .i64 (spTold ((btFold f (four4 al ah bl bh)).getD (0, 0)).1 ((btFold f (four4 al ah bl bh)).getD (0, 0)).2).2.1))).trans (KeepsOthers.setCell _ ⟨w.heap.size + 1 + 1 + 1 + 1, 0, none⟩ (.int .i64 (spTold ((btFold f (four4 al ah bl bh)).getD (0, 0)).1 ((btFold f (four4 al ah bl bh)).getD (0, 0)).2).2.2)))).same D _ HK.out rfl
    have y30 : (((W1.setCell ⟨w.heap.size + 1 + 1 + 1, 0, none⟩ (.int .i64 (spTold ((btFold f (four4 al ah bl bh)).getD (0, 0)).1 ((btFold f (four4 al ah bl bh)).getD (0, 0)).2).1)).setCell ⟨w.heap.size + 1 + 1 + 1, 1, none⟩ (.int .i64 (spTold ((btFold f (four4 al ah bl bh)).getD (0, 0)).1 ((btFold f (four4 al ah bl bh)).getD (0, 0)).2).2.1)).setCell ⟨w.heap.size + 1 + 1 + 1 + 1, 0, none⟩ (.int .i64 (spTold ((btFold f (four4 al ah bl bh)).getD (0, 0)).1 ((btFold f (four4 al ah bl bh)).getD (0, 0)).2).2.2)).cell? ⟨w.heap.size + 1 + 1 + 1, 0, none⟩ = some (.int .i64 (spTold ((btFold f (four4 al ah bl bh)).getD (0, 0)).1 ((btFold f (four4 al ah bl bh)).getD (0, 0)).2).1) := by go_simp
    have y31 : (((W1.setCell ⟨w.heap.size + 1 + 1 + 1, 0, none⟩ (.int .i64 (spTold ((btFold f (four4 al ah bl bh)).getD (0, 0)).1 ((btFold f (four4 al ah bl bh)).getD (0, 0)).2).1)).setCell ⟨w.heap.size + 1 + 1 + 1, 1, none⟩ (.int .i64 (spTold ((btFold f (four4 al ah bl bh)).getD (0, 0)).1 ((btFold f (four4 al ah bl bh)).getD (0, 0)).2).2.1)).setCell ⟨w.heap.size + 1 + 1 + 1 + 1, 0, none⟩ (.int .i64 (spTold ((btFold f (four4 al ah bl bh)).getD (0, 0)).1 ((btFold f (four4 al ah bl bh)).getD (0, 0)).2).2.2)).cell? ⟨w.heap.size + 1 + 1 + 1, 1, none⟩ = some (.int .i64 (spTold ((btFold f (four4 al ah bl bh)).getD (0, 0)).1 ((btFold f (four4 al ah bl bh)).getD (0, 0)).2).2.1) := by go_simp
    have y40 : (((W1.setCell ⟨w.heap.size + 1 + 1 + 1, 0, none⟩ (.int .i64 (spTold ((btFold f (four4 al ah bl bh)).getD (0, 0)).1 ((btFold f (four4 al ah bl bh)).getD (0, 0)).2).1)).setCell ⟨w.heap.size + 1 + 1 + 1, 1, none⟩ (.int .i64 (spTold ((btFold f (four4 al ah bl bh)).getD (0, 0)).1 ((btFold f (four4 al ah bl bh)).getD (0, 0)).2).2.1)).setCell ⟨w.heap.size + 1 + 1 + 1 + 1, 0, none⟩ (.int .i64 (spTold ((btFold f (four4 al ah bl bh)).getD (0, 0)).1 ((btFold f (four4 al ah bl bh)).getD (0, 0)).2).2.2)).cell? ⟨w.heap.size + 1 + 1 + 1 + 1, 0, none⟩ = some (.int .i64 (spTold ((btFold f (four4 al ah bl bh)).getD (0, 0)).1 ((btFold f (four4 al ah bl bh)).getD (0, 0)).2).2.2) := by go_simp
    have hBf : Below w.heap.size w (((W1.setCell ⟨w.heap.size + 1 + 1 + 1, 0, none⟩ (.int .i64 (spTold ((btFold f (four4 al ah bl bh)).getD (0, 0)).1 ((btFold f (four4 al ah bl bh)).getD (0, 0)).2).1)).setCell ⟨w.heap.size + 1 + 1 + 1, 1, none⟩ (.int .i64 (spTold ((btFold f (four4 al ah bl bh)).getD (0, 0)).1 ((btFold f (four4 al ah bl bh)).getD (0, 0)).2).2.1)).setCell ⟨w.heap.size + 1 + 1 + 1 + 1, 0, none⟩ (.int .i64 (spTold ((btFold f (four4 al ah bl bh)).getD (0, 0)).1 ((btFold f (four4 al ah bl bh)).getD (0, 0)).2).2.2)) := by (repeat' (first | (with_reducible exact Below.refl _ _) | assumption | (with_reducible refine Below.setCell ?_ ?_ _) | (with_reducible refine Below.alloc ?_ ?_ _) | (with_reducible refine Below.drew ?_) | (with_reducible refine below_drewN ?_ _) | (with_reducible refine Below.trans ?_ (Below.mono (by assumption) ?_)) | omega | (simp; done) | (simp; omega) | (simp [World.setCell]; omega)))
    generalize (((W1.setCell ⟨w.heap.size + 1 + 1 + 1, 0, none⟩ (.int .i64 (spTold ((btFold f (four4 al ah bl bh)).getD (0, 0)).1 ((btFold f (four4 al ah bl bh)).getD (0, 0)).2).1)).setCell ⟨w.heap.size + 1 + 1 + 1, 1, none⟩ (.int .i64 (spTold ((btFold f (four4 al ah bl bh)).getD (0, 0)).1 ((btFold f (four4 al ah bl bh)).getD (0, 0)).2).2.1)).setCell ⟨w.heap.size + 1 + 1 + 1 + 1, 0, none⟩ (.int .i64 (spTold ((btFold f (four4 al ah bl bh)).getD (0, 0)).1 ((btFold f (four4 al ah bl bh)).getD (0, 0)).2).2.2)) = Wf at *
    have x30 := cell_kept y30 (grownBy_putObj' Wf D (.deferred none)) (fun r e => by cases e; exact ⟨_, hK', rfl⟩)
    have x31 := cell_kept y31 (grownBy_putObj' Wf D (.deferred none)) (fun r e => by cases e; exact ⟨_, hK', rfl⟩)
    have x40 := cell_kept y40 (grownBy_putObj' Wf D (.deferred none)) (fun r e => by cases e; exact ⟨_, hK', rfl⟩)
    refine ⟨by simp, .inl ⟨_, _, rfl, run_takeDeferred hK', ?_⟩⟩
    refine ⟨.tuple #[.agg #[.int .i64 (spTold ((btFold f (four4 al ah bl bh)).getD (0, 0)).1 ((btFold f (four4 al ah bl bh)).getD (0, 0)).2).1, .int .i64 (spTold ((btFold f (four4 al ah bl bh)).getD (0, 0)).1 ((btFold f (four4 al ah bl bh)).getD (0, 0)).2).2.1], .int .i64 (spTold ((btFold f (four4 al ah bl bh)).getD (0, 0)).1 ((btFold f (four4 al ah bl bh)).getD (0, 0)).2).2.2], by simp [results, Try.results110, go_sem, x30, x31, x40], by rw [hsp.out], hBf.trans (belowK_b (w := w) (Nat.le_refl _) Wf D _ _ (by have := HDD.out; omega) hK' rfl rfl)⟩
  case stop =>
    rintro D c pre W hD hpre ⟨⟨rfl, hex⟩, ⟨c30, c31, c40⟩, hB⟩ hK
    have hsp : Hid (spFour f (al, ah) (bl, bh) = (0, 0, 6)) := spFour_of_err hpre hex
    gi_wp2_with fail
    refine ⟨by simp, .inl ⟨_, _, rfl, run_takeDeferred hK, ?_⟩⟩
    have x30 := cell_kept c30 (grownBy_putObj' _ D (.deferred none)) (fun r e => by cases e; exact ⟨_, hK, rfl⟩)
    have x31 := cell_kept c31 (grownBy_putObj' _ D (.deferred none)) (fun r e => by cases e; exact ⟨_, hK, rfl⟩)
    have x40 := cell_kept c40 (grownBy_putObj' _ D (.deferred none)) (fun r e => by cases e; exact ⟨_, hK, rfl⟩)
    refine ⟨.tuple #[.agg #[.int .i64 0, .int .i64 0], .int .i64 6], by simp [results, Try.results110, go_sem, x30, x31, x40], by rw [hsp.out], hB.trans (belowK_b (w := w) (Nat.le_refl _) W D _ _ (by omega) hK rfl rfl)⟩

end Go.Proofs.Ytpdaigenffecmaa
