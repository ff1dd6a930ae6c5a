/-
  Drafts of vectors, and the pairs of vectors that the statements try.
-/
import Derived.Test.YtpdaigenffecmaaM19
import Derived.Test.YtpdaigenffecmaaM29
set_option linter.all false
namespace Go.Proofs.Ytpdaigenffecmaa
open Go.RowKit Go.Shelf

/-- A valid interval. -/
def ValidI (lo hi : Int) : Prop := spChk (lo, hi) = 0

set_option maxHeartbeats 1000000 in
theorem c_vSmall (d0 d1 d2 d3 d4 d5 d6 d7 d8 : Int) (hd1 : 0 ≤ d1 ∧ d1 ≤ 255) (hd2 : 0 ≤ d2 ∧ d2 ≤ 4294967295) (hd4 : 0 ≤ d4 ∧ d4 ≤ 255) (hd5 : 0 ≤ d5 ∧ d5 ≤ 4294967295) (hd7 : 0 ≤ d7 ∧ d7 ≤ 255) (hd8 : 0 ≤ d8 ∧ d8 ≤ 4294967295) (w : World) :
    Calls Try.prog 41 #[.agg #[.int .i64 d0, .int .u8 d1, .int .u32 d2, .int .i64 d3, .int .u8 d4, .int .u32 d5, .int .i64 d6, .int .u8 d7, .int .u32 d8]] w fun e w' => ∃ n0 n1 n2 n3 n4 n5, (SmallI n0 n1 ∧ SmallI n2 n3 ∧ SmallI n4 n5) ∧ e = .returned (.agg #[.int .i64 n0, .int .i64 n1, .int .i64 n2, .int .i64 n3, .int .i64 n4, .int .i64 n5]) ∧ Below w.heap.size w w' := by
  obtain ⟨W, hW⟩ : ∃ W, W = (w.alloc (Obj.cells #[Value.int IntKind.i64 d0, .int .u8 d1, .int .u32 d2, Value.int IntKind.i64 d3, .int .u8 d4, .int .u32 d5, Value.int IntKind.i64 d6, .int .u8 d7, .int .u32 d8] 30)).alloc (Obj.cells #[Value.int IntKind.i64 0, Value.int IntKind.i64 0, Value.int IntKind.i64 0, Value.int IntKind.i64 0, Value.int IntKind.i64 0, Value.int IntKind.i64 0] 25) := ⟨_, rfl⟩
  have hsW : w.heap.size + 1 < W.heap.size := by rw [hW]; simp
  have hB : Hid (Below w.heap.size w W) := by rw [hW]; unfold Hid; (repeat' (first | (with_reducible exact Below.refl _ _) | (with_reducible refine Below.setCell ?_ ?_ _) | (with_reducible refine Below.alloc ?_ ?_ _) | (with_reducible refine Below.drew ?_) | (with_reducible refine below_drewN ?_ _) | (with_reducible assumption) | (with_reducible refine Below.trans ?_ (Below.mono (by with_reducible assumption) ?_)) | omega | (simp; done) | (simp; omega) | (simp [World.setCell]; omega)))
  have cd0 : W.cell? ⟨w.heap.size, 0, none⟩ = some (.int .i64 d0) := by rw [hW]; simp [go_sem]
  have cd1 : W.cell? ⟨w.heap.size, 1, none⟩ = some (.int .u8 d1) := by rw [hW]; simp [go_sem]
  have cd2 : W.cell? ⟨w.heap.size, 2, none⟩ = some (.int .u32 d2) := by rw [hW]; simp [go_sem]
  have cd3 : W.cell? ⟨w.heap.size, 3, none⟩ = some (.int .i64 d3) := by rw [hW]; simp [go_sem]
  have cd4 : W.cell? ⟨w.heap.size, 4, none⟩ = some (.int .u8 d4) := by rw [hW]; simp [go_sem]
  have cd5 : W.cell? ⟨w.heap.size, 5, none⟩ = some (.int .u32 d5) := by rw [hW]; simp [go_sem]
  have cd6 : W.cell? ⟨w.heap.size, 6, none⟩ = some (.int .i64 d6) := by rw [hW]; simp [go_sem]
  have cd7 : W.cell? ⟨w.heap.size, 7, none⟩ = some (.int .u8 d7) := by rw [hW]; simp [go_sem]
  have cd8 : W.cell? ⟨w.heap.size, 8, none⟩ = some (.int .u32 d8) := by rw [hW]; simp [go_sem]
  have z0 : W.cell? ⟨w.heap.size + 1, 0, none⟩ = some (.int .i64 0) := by rw [hW]; simp [go_sem]
  have z1 : W.cell? ⟨w.heap.size + 1, 1, none⟩ = some (.int .i64 0) := by rw [hW]; simp [go_sem]
  have z2 : W.cell? ⟨w.heap.size + 1, 2, none⟩ = some (.int .i64 0) := by rw [hW]; simp [go_sem]
  have z3 : W.cell? ⟨w.heap.size + 1, 3, none⟩ = some (.int .i64 0) := by rw [hW]; simp [go_sem]
  have z4 : W.cell? ⟨w.heap.size + 1, 4, none⟩ = some (.int .i64 0) := by rw [hW]; simp [go_sem]
  have z5 : W.cell? ⟨w.heap.size + 1, 5, none⟩ = some (.int .i64 0) := by rw [hW]; simp [go_sem]
  have s0 : W.frozen? ⟨w.heap.size + 1, 0, none⟩ = false := by rw [hW]; simp [go_sem]
  have s1 : W.frozen? ⟨w.heap.size + 1, 1, none⟩ = false := by rw [hW]; simp [go_sem]
  have s2 : W.frozen? ⟨w.heap.size + 1, 2, none⟩ = false := by rw [hW]; simp [go_sem]
  have s3 : W.frozen? ⟨w.heap.size + 1, 3, none⟩ = false := by rw [hW]; simp [go_sem]
  have s4 : W.frozen? ⟨w.heap.size + 1, 4, none⟩ = false := by rw [hW]; simp [go_sem]
  have s5 : W.frozen? ⟨w.heap.size + 1, 5, none⟩ = false := by rw [hW]; simp [go_sem]
  go_enter Try.func41, Try.ntmps41
  go_wp2_with (fail)
  rw [← hW]
  clear hW
  refine wp_region_held_drew (S := (fun w' => w'.cell? ⟨w.heap.size, 0, none⟩ = some (.int .i64 d0) ∧ w'.cell? ⟨w.heap.size, 1, none⟩ = some (.int .u8 d1) ∧ w'.cell? ⟨w.heap.size, 2, none⟩ = some (.int .u32 d2) ∧ w'.cell? ⟨w.heap.size, 3, none⟩ = some (.int .i64 d3) ∧ w'.cell? ⟨w.heap.size, 4, none⟩ = some (.int .u8 d4) ∧ w'.cell? ⟨w.heap.size, 5, none⟩ = some (.int .u32 d5) ∧ w'.cell? ⟨w.heap.size, 6, none⟩ = some (.int .i64 d6) ∧ w'.cell? ⟨w.heap.size, 7, none⟩ = some (.int .u8 d7) ∧ w'.cell? ⟨w.heap.size, 8, none⟩ = some (.int .u32 d8))) (by kernel_rfl) ?_ (fun hHeld => ?_)
  · (try dsimp only); with_reducible exact ⟨cell_drew cd0, cell_drew cd1, cell_drew cd2, cell_drew cd3, cell_drew cd4, cell_drew cd5, cell_drew cd6, cell_drew cd7, cell_drew cd8⟩
  refine wpAnyH_take (i := 0) (oi := _) (v := ?_) rfl (by kernel_rfl) (by kernel_rfl) (by kernel_rfl) (fun _ _ _ h => h) (Or.inl ⟨by rfl, ?_⟩) (by assumption) ?_
  rotate_left
  · intro w hSw; (try dsimp only at hSw); go_simp; (first | done | with_reducible rfl)
  (try simp only [List.getElem_toArray, List.getElem_cons_succ, List.getElem_cons_zero, Act.put, List.setIfInBounds_toArray, List.set_cons_zero, List.set_cons_succ])
  refine wpAnyH_take (i := 1) (oi := _) (v := ?_) rfl (by kernel_rfl) (by kernel_rfl) (by kernel_rfl) (fun _ _ _ h => h) (Or.inl ⟨by rfl, ?_⟩) (by assumption) ?_
  rotate_left
  · intro w hSw; (try dsimp only at hSw); go_simp; (first | done | with_reducible rfl)
  (try simp only [List.getElem_toArray, List.getElem_cons_succ, List.getElem_cons_zero, Act.put, List.setIfInBounds_toArray, List.set_cons_zero, List.set_cons_succ])
  refine wpAnyH_take (i := 3) (oi := _) (v := ?_) rfl (by kernel_rfl) (by kernel_rfl) (by kernel_rfl) (fun _ _ _ h => h) (Or.inl ⟨by rfl, ?_⟩) (by assumption) ?_
  rotate_left
  · intro w hSw; (try dsimp only at hSw); go_simp; (first | done | with_reducible rfl)
  (try simp only [List.getElem_toArray, List.getElem_cons_succ, List.getElem_cons_zero, Act.put, List.setIfInBounds_toArray, List.set_cons_zero, List.set_cons_succ])
  refine wpAnyH_take (i := 4) (oi := _) (v := ?_) rfl (by kernel_rfl) (by kernel_rfl) (by kernel_rfl) (fun _ _ _ h => h) (Or.inl ⟨by rfl, ?_⟩) (by assumption) ?_
  rotate_left
  · intro w hSw; (try dsimp only at hSw); go_simp; (first | done | with_reducible rfl)
  (try simp only [List.getElem_toArray, List.getElem_cons_succ, List.getElem_cons_zero, Act.put, List.setIfInBounds_toArray, List.set_cons_zero, List.set_cons_succ])
  refine wpAnyH_take (i := 6) (oi := _) (v := ?_) rfl (by kernel_rfl) (by kernel_rfl) (by kernel_rfl) (fun _ _ _ h => h) (Or.inl ⟨by rfl, ?_⟩) (by assumption) ?_
  rotate_left
  · intro w hSw; (try dsimp only at hSw); go_simp; (first | done | with_reducible rfl)
  (try simp only [List.getElem_toArray, List.getElem_cons_succ, List.getElem_cons_zero, Act.put, List.setIfInBounds_toArray, List.set_cons_zero, List.set_cons_succ])
  refine wpAnyH_take (i := 7) (oi := _) (v := ?_) rfl (by kernel_rfl) (by kernel_rfl) (by kernel_rfl) (fun _ _ _ h => h) (Or.inl ⟨by rfl, ?_⟩) (by assumption) ?_
  rotate_left
  · intro w hSw; (try dsimp only at hSw); go_simp; (first | done | with_reducible rfl)
  (try simp only [List.getElem_toArray, List.getElem_cons_succ, List.getElem_cons_zero, Act.put, List.setIfInBounds_toArray, List.set_cons_zero, List.set_cons_succ])
  refine wpAnyH_ready (rs := [2]) (by kernel_rfl) (by simp) ?_
  refine AllReadyH.cons (o := _) rfl (fun K hK => ?_) AllReadyH.nil
  go_simp
  (go_at_call 101; refine (c_dsmall d0 d1 d2 hd1 hd2 W.drew).mono ?_; rintro e w1 ⟨n0, n1, hv1, rfl, hb1⟩; (replace hb1 : Below W.heap.size W w1 := Below.undrew hb1); (have hs1 := hb1.size); (replace cd0 := kp hb1 (by omega) cd0); (replace cd1 := kp hb1 (by omega) cd1); (replace cd2 := kp hb1 (by omega) cd2); (replace cd3 := kp hb1 (by omega) cd3); (replace cd4 := kp hb1 (by omega) cd4); (replace cd5 := kp hb1 (by omega) cd5); (replace cd6 := kp hb1 (by omega) cd6); (replace cd7 := kp hb1 (by omega) cd7); (replace cd8 := kp hb1 (by omega) cd8); (replace z0 := kp hb1 (by omega) z0); (replace z1 := kp hb1 (by omega) z1); (replace z2 := kp hb1 (by omega) z2); (replace z3 := kp hb1 (by omega) z3); (replace z4 := kp hb1 (by omega) z4); (replace z5 := kp hb1 (by omega) z5); (replace s0 := kf hb1 (by omega) s0); (replace s1 := kf hb1 (by omega) s1); (replace s2 := kf hb1 (by omega) s2); (replace s3 := kf hb1 (by omega) s3); (replace s4 := kf hb1 (by omega) s4); (replace s5 := kf hb1 (by omega) s5))
  (try go_wp2_with (fail))
  refine hK.out _ _ ?_ (fun hHeld => ?_)
  · (try dsimp only); with_reducible exact ⟨cd0, cd1, cd2, cd3, cd4, cd5, cd6, cd7, cd8⟩
  clear hK K
  (try simp only [List.getElem_toArray, List.getElem_cons_succ, List.getElem_cons_zero, Act.put, List.setIfInBounds_toArray, List.set_cons_zero, List.set_cons_succ])
  refine wpAnyH_ready (rs := [5]) (by kernel_rfl) (by simp) ?_
  refine AllReadyH.cons (o := _) rfl (fun K hK => ?_) AllReadyH.nil
  go_simp
  (go_at_call 101; refine (c_dsmall d3 d4 d5 hd4 hd5 w1).mono ?_; rintro e w2 ⟨n2, n3, hv2, rfl, hb2⟩; (have hs2 := hb2.size); (replace cd0 := kp hb2 (by omega) cd0); (replace cd1 := kp hb2 (by omega) cd1); (replace cd2 := kp hb2 (by omega) cd2); (replace cd3 := kp hb2 (by omega) cd3); (replace cd4 := kp hb2 (by omega) cd4); (replace cd5 := kp hb2 (by omega) cd5); (replace cd6 := kp hb2 (by omega) cd6); (replace cd7 := kp hb2 (by omega) cd7); (replace cd8 := kp hb2 (by omega) cd8); (replace z0 := kp hb2 (by omega) z0); (replace z1 := kp hb2 (by omega) z1); (replace z2 := kp hb2 (by omega) z2); (replace z3 := kp hb2 (by omega) z3); (replace z4 := kp hb2 (by omega) z4); (replace z5 := kp hb2 (by omega) z5); (replace s0 := kf hb2 (by omega) s0); (replace s1 := kf hb2 (by omega) s1); (replace s2 := kf hb2 (by omega) s2); (replace s3 := kf hb2 (by omega) s3); (replace s4 := kf hb2 (by omega) s4); (replace s5 := kf hb2 (by omega) s5))
  (try go_wp2_with (fail))
  refine hK.out _ _ ?_ (fun hHeld => ?_)
  · (try dsimp only); with_reducible exact ⟨cd0, cd1, cd2, cd3, cd4, cd5, cd6, cd7, cd8⟩
  clear hK K
  (try simp only [List.getElem_toArray, List.getElem_cons_succ, List.getElem_cons_zero, Act.put, List.setIfInBounds_toArray, List.set_cons_zero, List.set_cons_succ])
  refine wpAnyH_ready (rs := [8]) (by kernel_rfl) (by simp) ?_
  refine AllReadyH.cons (o := _) rfl (fun K hK => ?_) AllReadyH.nil
  go_simp
  (go_at_call 101; refine (c_dsmall d6 d7 d8 hd7 hd8 w2).mono ?_; rintro e w3 ⟨n4, n5, hv3, rfl, hb3⟩; (have hs3 := hb3.size); (replace cd0 := kp hb3 (by omega) cd0); (replace cd1 := kp hb3 (by omega) cd1); (replace cd2 := kp hb3 (by omega) cd2); (replace cd3 := kp hb3 (by omega) cd3); (replace cd4 := kp hb3 (by omega) cd4); (replace cd5 := kp hb3 (by omega) cd5); (replace cd6 := kp hb3 (by omega) cd6); (replace cd7 := kp hb3 (by omega) cd7); (replace cd8 := kp hb3 (by omega) cd8); (replace z0 := kp hb3 (by omega) z0); (replace z1 := kp hb3 (by omega) z1); (replace z2 := kp hb3 (by omega) z2); (replace z3 := kp hb3 (by omega) z3); (replace z4 := kp hb3 (by omega) z4); (replace z5 := kp hb3 (by omega) z5); (replace s0 := kf hb3 (by omega) s0); (replace s1 := kf hb3 (by omega) s1); (replace s2 := kf hb3 (by omega) s2); (replace s3 := kf hb3 (by omega) s3); (replace s4 := kf hb3 (by omega) s4); (replace s5 := kf hb3 (by omega) s5))
  (try go_wp2_with (fail))
  refine hK.out _ _ ?_ (fun hHeld => ?_)
  · (try dsimp only); with_reducible exact ⟨cd0, cd1, cd2, cd3, cd4, cd5, cd6, cd7, cd8⟩
  clear hK K
  (try simp only [List.getElem_toArray, List.getElem_cons_succ, List.getElem_cons_zero, Act.put, List.setIfInBounds_toArray, List.set_cons_zero, List.set_cons_succ])
  refine wpAnyH_take (i := 9) (oi := _) (v := ?_) rfl (by kernel_rfl) (by kernel_rfl) (by kernel_rfl) (fun _ _ _ h => h) (Or.inl ⟨by rfl, ?_⟩) (by assumption) ?_
  rotate_left
  · intro w hSw; (try dsimp only at hSw); go_simp; (first | done | with_reducible rfl)
  (try simp only [List.getElem_toArray, List.getElem_cons_succ, List.getElem_cons_zero, Act.put, List.setIfInBounds_toArray, List.set_cons_zero, List.set_cons_succ])
  refine wpAnyH_ready (rs := [10]) (by kernel_rfl) (by simp) ?_
  refine AllReadyH.cons (o := _) rfl (fun K hK => ?_) AllReadyH.nil
  go_simp
  refine hK.out _ _ ?_ (fun hHeld => ?_)
  · (try dsimp only); ((with_reducible refine ⟨kfar ?_ (kfar ?_ (kfar ?_ (kfar ?_ (kfar ?_ (kfar ?_ cd0))))), kfar ?_ (kfar ?_ (kfar ?_ (kfar ?_ (kfar ?_ (kfar ?_ cd1))))), kfar ?_ (kfar ?_ (kfar ?_ (kfar ?_ (kfar ?_ (kfar ?_ cd2))))), kfar ?_ (kfar ?_ (kfar ?_ (kfar ?_ (kfar ?_ (kfar ?_ cd3))))), kfar ?_ (kfar ?_ (kfar ?_ (kfar ?_ (kfar ?_ (kfar ?_ cd4))))), kfar ?_ (kfar ?_ (kfar ?_ (kfar ?_ (kfar ?_ (kfar ?_ cd5))))), kfar ?_ (kfar ?_ (kfar ?_ (kfar ?_ (kfar ?_ (kfar ?_ cd6))))), kfar ?_ (kfar ?_ (kfar ?_ (kfar ?_ (kfar ?_ (kfar ?_ cd7))))), kfar ?_ (kfar ?_ (kfar ?_ (kfar ?_ (kfar ?_ (kfar ?_ cd8)))))⟩) <;> (first | omega | (simp only; omega)))
  clear hK K
  (try simp only [List.getElem_toArray, List.getElem_cons_succ, List.getElem_cons_zero, Act.put, List.setIfInBounds_toArray, List.set_cons_zero, List.set_cons_succ])
  refine wpAnyH_done (by kernel_rfl) ?_ _
  go_wp2_with (fail)
  have HB := hB.out
  obtain ⟨F, hF⟩ : ∃ F, F = ((((((w3.setCell ⟨w.heap.size + 1, 0, none⟩ (Value.int IntKind.i64 n0)).setCell ⟨w.heap.size + 1, 1, none⟩ (Value.int IntKind.i64 n1)).setCell ⟨w.heap.size + 1, 2, none⟩ (Value.int IntKind.i64 n2)).setCell ⟨w.heap.size + 1, 3, none⟩ (Value.int IntKind.i64 n3)).setCell ⟨w.heap.size + 1, 4, none⟩ (Value.int IntKind.i64 n4)).setCell ⟨w.heap.size + 1, 5, none⟩ (Value.int IntKind.i64 n5)) := ⟨_, rfl⟩
  have g := st6 w3 (w.heap.size + 1) (n0) (n1) (n2) (n3) (n4) (n5) z0 z1 z2 z3 z4 z5
  rw [← hF] at g
  have g0 : F.cell? ⟨w.heap.size + 1, 0, none⟩ = some (.int .i64 (n0)) := g 0 (by decide)
  have g1 : F.cell? ⟨w.heap.size + 1, 1, none⟩ = some (.int .i64 (n1)) := g 1 (by decide)
  have g2 : F.cell? ⟨w.heap.size + 1, 2, none⟩ = some (.int .i64 (n2)) := g 2 (by decide)
  have g3 : F.cell? ⟨w.heap.size + 1, 3, none⟩ = some (.int .i64 (n3)) := g 3 (by decide)
  have g4 : F.cell? ⟨w.heap.size + 1, 4, none⟩ = some (.int .i64 (n4)) := g 4 (by decide)
  have g5 : F.cell? ⟨w.heap.size + 1, 5, none⟩ = some (.int .i64 (n5)) := g 5 (by decide)
  clear g
  have hFB : Hid (Below w.heap.size w F) := by rw [hF]; unfold Hid; (repeat' (first | (with_reducible exact Below.refl _ _) | (with_reducible refine Below.setCell ?_ ?_ _) | (with_reducible refine Below.alloc ?_ ?_ _) | (with_reducible refine Below.drew ?_) | (with_reducible refine below_drewN ?_ _) | (with_reducible assumption) | (with_reducible refine Below.trans ?_ (Below.mono (by with_reducible assumption) ?_)) | omega | (simp; done) | (simp; omega) | (simp [World.setCell]; omega)))
  rw [← hF]
  clear hF
  refine bodyPost_ret (v := .agg #[.int .i64 n0, .int .i64 n1, .int .i64 n2, .int .i64 n3, .int .i64 n4, .int .i64 n5]) (by simp [results, Try.results41, go_sem, g0, g1, g2, g3, g4, g5]) rfl ⟨n0, n1, n2, n3, n4, n5, ⟨hv1, hv2, hv3⟩, rfl, hFB.out⟩
  

set_option maxHeartbeats 1000000 in
theorem c_vVec (d0 d1 d2 d3 d4 d5 d6 d7 d8 : Int) (hd1 : 0 ≤ d1 ∧ d1 ≤ 255) (hd2 : 0 ≤ d2 ∧ d2 ≤ 4294967295) (hd4 : 0 ≤ d4 ∧ d4 ≤ 255) (hd5 : 0 ≤ d5 ∧ d5 ≤ 4294967295) (hd7 : 0 ≤ d7 ∧ d7 ≤ 255) (hd8 : 0 ≤ d8 ∧ d8 ≤ 4294967295) (w : World) :
    Calls Try.prog 40 #[.agg #[.int .i64 d0, .int .u8 d1, .int .u32 d2, .int .i64 d3, .int .u8 d4, .int .u32 d5, .int .i64 d6, .int .u8 d7, .int .u32 d8]] w fun e w' => ∃ n0 n1 n2 n3 n4 n5, (ValidI n0 n1 ∧ ValidI n2 n3 ∧ ValidI n4 n5) ∧ e = .returned (.agg #[.int .i64 n0, .int .i64 n1, .int .i64 n2, .int .i64 n3, .int .i64 n4, .int .i64 n5]) ∧ Below w.heap.size w w' := by
  obtain ⟨W, hW⟩ : ∃ W, W = (w.alloc (Obj.cells #[Value.int IntKind.i64 d0, .int .u8 d1, .int .u32 d2, Value.int IntKind.i64 d3, .int .u8 d4, .int .u32 d5, Value.int IntKind.i64 d6, .int .u8 d7, .int .u32 d8] 30)).alloc (Obj.cells #[Value.int IntKind.i64 0, Value.int IntKind.i64 0, Value.int IntKind.i64 0, Value.int IntKind.i64 0, Value.int IntKind.i64 0, Value.int IntKind.i64 0] 25) := ⟨_, rfl⟩
  have hsW : w.heap.size + 1 < W.heap.size := by rw [hW]; simp
  have hB : Hid (Below w.heap.size w W) := by rw [hW]; unfold Hid; (repeat' (first | (with_reducible exact Below.refl _ _) | (with_reducible refine Below.setCell ?_ ?_ _) | (with_reducible refine Below.alloc ?_ ?_ _) | (with_reducible refine Below.drew ?_) | (with_reducible refine below_drewN ?_ _) | (with_reducible assumption) | (with_reducible refine Below.trans ?_ (Below.mono (by with_reducible assumption) ?_)) | omega | (simp; done) | (simp; omega) | (simp [World.setCell]; omega)))
  have cd0 : W.cell? ⟨w.heap.size, 0, none⟩ = some (.int .i64 d0) := by rw [hW]; simp [go_sem]
  have cd1 : W.cell? ⟨w.heap.size, 1, none⟩ = some (.int .u8 d1) := by rw [hW]; simp [go_sem]
  have cd2 : W.cell? ⟨w.heap.size, 2, none⟩ = some (.int .u32 d2) := by rw [hW]; simp [go_sem]
  have cd3 : W.cell? ⟨w.heap.size, 3, none⟩ = some (.int .i64 d3) := by rw [hW]; simp [go_sem]
  have cd4 : W.cell? ⟨w.heap.size, 4, none⟩ = some (.int .u8 d4) := by rw [hW]; simp [go_sem]
  have cd5 : W.cell? ⟨w.heap.size, 5, none⟩ = some (.int .u32 d5) := by rw [hW]; simp [go_sem]
  have cd6 : W.cell? ⟨w.heap.size, 6, none⟩ = some (.int .i64 d6) := by rw [hW]; simp [go_sem]
  have cd7 : W.cell? ⟨w.heap.size, 7, none⟩ = some (.int .u8 d7) := by rw [hW]; simp [go_sem]
  have cd8 : W.cell? ⟨w.heap.size, 8, none⟩ = some (.int .u32 d8) := by rw [hW]; simp [go_sem]
  have z0 : W.cell? ⟨w.heap.size + 1, 0, none⟩ = some (.int .i64 0) := by rw [hW]; simp [go_sem]
  have z1 : W.cell? ⟨w.heap.size + 1, 1, none⟩ = some (.int .i64 0) := by rw [hW]; simp [go_sem]
  have z2 : W.cell? ⟨w.heap.size + 1, 2, none⟩ = some (.int .i64 0) := by rw [hW]; simp [go_sem]
  have z3 : W.cell? ⟨w.heap.size + 1, 3, none⟩ = some (.int .i64 0) := by rw [hW]; simp [go_sem]
  have z4 : W.cell? ⟨w.heap.size + 1, 4, none⟩ = some (.int .i64 0) := by rw [hW]; simp [go_sem]
  have z5 : W.cell? ⟨w.heap.size + 1, 5, none⟩ = some (.int .i64 0) := by rw [hW]; simp [go_sem]
  have s0 : W.frozen? ⟨w.heap.size + 1, 0, none⟩ = false := by rw [hW]; simp [go_sem]
  have s1 : W.frozen? ⟨w.heap.size + 1, 1, none⟩ = false := by rw [hW]; simp [go_sem]
  have s2 : W.frozen? ⟨w.heap.size + 1, 2, none⟩ = false := by rw [hW]; simp [go_sem]
  have s3 : W.frozen? ⟨w.heap.size + 1, 3, none⟩ = false := by rw [hW]; simp [go_sem]
  have s4 : W.frozen? ⟨w.heap.size + 1, 4, none⟩ = false := by rw [hW]; simp [go_sem]
  have s5 : W.frozen? ⟨w.heap.size + 1, 5, none⟩ = false := by rw [hW]; simp [go_sem]
  go_enter Try.func40, Try.ntmps40
  go_wp2_with (fail)
  rw [← hW]
  clear hW
  refine wp_region_held_drew (S := (fun w' => w'.cell? ⟨w.heap.size, 0, none⟩ = some (.int .i64 d0) ∧ w'.cell? ⟨w.heap.size, 1, none⟩ = some (.int .u8 d1) ∧ w'.cell? ⟨w.heap.size, 2, none⟩ = some (.int .u32 d2) ∧ w'.cell? ⟨w.heap.size, 3, none⟩ = some (.int .i64 d3) ∧ w'.cell? ⟨w.heap.size, 4, none⟩ = some (.int .u8 d4) ∧ w'.cell? ⟨w.heap.size, 5, none⟩ = some (.int .u32 d5) ∧ w'.cell? ⟨w.heap.size, 6, none⟩ = some (.int .i64 d6) ∧ w'.cell? ⟨w.heap.size, 7, none⟩ = some (.int .u8 d7) ∧ w'.cell? ⟨w.heap.size, 8, none⟩ = some (.int .u32 d8))) (by kernel_rfl) ?_ (fun hHeld => ?_)
  · (try dsimp only); with_reducible exact ⟨cell_drew cd0, cell_drew cd1, cell_drew cd2, cell_drew cd3, cell_drew cd4, cell_drew cd5, cell_drew cd6, cell_drew cd7, cell_drew cd8⟩
  refine wpAnyH_take (i := 0) (oi := _) (v := ?_) rfl (by kernel_rfl) (by kernel_rfl) (by kernel_rfl) (fun _ _ _ h => h) (Or.inl ⟨by rfl, ?_⟩) (by assumption) ?_
  rotate_left
  · intro w hSw; (try dsimp only at hSw); go_simp; (first | done | with_reducible rfl)
  (try simp only [List.getElem_toArray, List.getElem_cons_succ, List.getElem_cons_zero, Act.put, List.setIfInBounds_toArray, List.set_cons_zero, List.set_cons_succ])
  refine wpAnyH_take (i := 1) (oi := _) (v := ?_) rfl (by kernel_rfl) (by kernel_rfl) (by kernel_rfl) (fun _ _ _ h => h) (Or.inl ⟨by rfl, ?_⟩) (by assumption) ?_
  rotate_left
  · intro w hSw; (try dsimp only at hSw); go_simp; (first | done | with_reducible rfl)
  (try simp only [List.getElem_toArray, List.getElem_cons_succ, List.getElem_cons_zero, Act.put, List.setIfInBounds_toArray, List.set_cons_zero, List.set_cons_succ])
  refine wpAnyH_take (i := 3) (oi := _) (v := ?_) rfl (by kernel_rfl) (by kernel_rfl) (by kernel_rfl) (fun _ _ _ h => h) (Or.inl ⟨by rfl, ?_⟩) (by assumption) ?_
  rotate_left
  · intro w hSw; (try dsimp only at hSw); go_simp; (first | done | with_reducible rfl)
  (try simp only [List.getElem_toArray, List.getElem_cons_succ, List.getElem_cons_zero, Act.put, List.setIfInBounds_toArray, List.set_cons_zero, List.set_cons_succ])
  refine wpAnyH_take (i := 4) (oi := _) (v := ?_) rfl (by kernel_rfl) (by kernel_rfl) (by kernel_rfl) (fun _ _ _ h => h) (Or.inl ⟨by rfl, ?_⟩) (by assumption) ?_
  rotate_left
  · intro w hSw; (try dsimp only at hSw); go_simp; (first | done | with_reducible rfl)
  (try simp only [List.getElem_toArray, List.getElem_cons_succ, List.getElem_cons_zero, Act.put, List.setIfInBounds_toArray, List.set_cons_zero, List.set_cons_succ])
  refine wpAnyH_take (i := 6) (oi := _) (v := ?_) rfl (by kernel_rfl) (by kernel_rfl) (by kernel_rfl) (fun _ _ _ h => h) (Or.inl ⟨by rfl, ?_⟩) (by assumption) ?_
  rotate_left
  · intro w hSw; (try dsimp only at hSw); go_simp; (first | done | with_reducible rfl)
  (try simp only [List.getElem_toArray, List.getElem_cons_succ, List.getElem_cons_zero, Act.put, List.setIfInBounds_toArray, List.set_cons_zero, List.set_cons_succ])
  refine wpAnyH_take (i := 7) (oi := _) (v := ?_) rfl (by kernel_rfl) (by kernel_rfl) (by kernel_rfl) (fun _ _ _ h => h) (Or.inl ⟨by rfl, ?_⟩) (by assumption) ?_
  rotate_left
  · intro w hSw; (try dsimp only at hSw); go_simp; (first | done | with_reducible rfl)
  (try simp only [List.getElem_toArray, List.getElem_cons_succ, List.getElem_cons_zero, Act.put, List.setIfInBounds_toArray, List.set_cons_zero, List.set_cons_succ])
  refine wpAnyH_ready (rs := [2]) (by kernel_rfl) (by simp) ?_
  refine AllReadyH.cons (o := _) rfl (fun K hK => ?_) AllReadyH.nil
  go_simp
  (go_at_call 100; refine (c_dspan d0 d1 d2 hd1 hd2 W.drew).mono ?_; rintro e w1 ⟨n0, n1, hv1, rfl, hb1⟩; (replace hb1 : Below W.heap.size W w1 := Below.undrew hb1); (have hs1 := hb1.size); (replace cd0 := kp hb1 (by omega) cd0); (replace cd1 := kp hb1 (by omega) cd1); (replace cd2 := kp hb1 (by omega) cd2); (replace cd3 := kp hb1 (by omega) cd3); (replace cd4 := kp hb1 (by omega) cd4); (replace cd5 := kp hb1 (by omega) cd5); (replace cd6 := kp hb1 (by omega) cd6); (replace cd7 := kp hb1 (by omega) cd7); (replace cd8 := kp hb1 (by omega) cd8); (replace z0 := kp hb1 (by omega) z0); (replace z1 := kp hb1 (by omega) z1); (replace z2 := kp hb1 (by omega) z2); (replace z3 := kp hb1 (by omega) z3); (replace z4 := kp hb1 (by omega) z4); (replace z5 := kp hb1 (by omega) z5); (replace s0 := kf hb1 (by omega) s0); (replace s1 := kf hb1 (by omega) s1); (replace s2 := kf hb1 (by omega) s2); (replace s3 := kf hb1 (by omega) s3); (replace s4 := kf hb1 (by omega) s4); (replace s5 := kf hb1 (by omega) s5))
  (try go_wp2_with (fail))
  refine hK.out _ _ ?_ (fun hHeld => ?_)
  · (try dsimp only); with_reducible exact ⟨cd0, cd1, cd2, cd3, cd4, cd5, cd6, cd7, cd8⟩
  clear hK K
  (try simp only [List.getElem_toArray, List.getElem_cons_succ, List.getElem_cons_zero, Act.put, List.setIfInBounds_toArray, List.set_cons_zero, List.set_cons_succ])
  refine wpAnyH_ready (rs := [5]) (by kernel_rfl) (by simp) ?_
  refine AllReadyH.cons (o := _) rfl (fun K hK => ?_) AllReadyH.nil
  go_simp
  (go_at_call 100; refine (c_dspan d3 d4 d5 hd4 hd5 w1).mono ?_; rintro e w2 ⟨n2, n3, hv2, rfl, hb2⟩; (have hs2 := hb2.size); (replace cd0 := kp hb2 (by omega) cd0); (replace cd1 := kp hb2 (by omega) cd1); (replace cd2 := kp hb2 (by omega) cd2); (replace cd3 := kp hb2 (by omega) cd3); (replace cd4 := kp hb2 (by omega) cd4); (replace cd5 := kp hb2 (by omega) cd5); (replace cd6 := kp hb2 (by omega) cd6); (replace cd7 := kp hb2 (by omega) cd7); (replace cd8 := kp hb2 (by omega) cd8); (replace z0 := kp hb2 (by omega) z0); (replace z1 := kp hb2 (by omega) z1); (replace z2 := kp hb2 (by omega) z2); (replace z3 := kp hb2 (by omega) z3); (replace z4 := kp hb2 (by omega) z4); (replace z5 := kp hb2 (by omega) z5); (replace s0 := kf hb2 (by omega) s0); (replace s1 := kf hb2 (by omega) s1); (replace s2 := kf hb2 (by omega) s2); (replace s3 := kf hb2 (by omega) s3); (replace s4 := kf hb2 (by omega) s4); (replace s5 := kf hb2 (by omega) s5))
  (try go_wp2_with (fail))
  refine hK.out _ _ ?_ (fun hHeld => ?_)
  · (try dsimp only); with_reducible exact ⟨cd0, cd1, cd2, cd3, cd4, cd5, cd6, cd7, cd8⟩
  clear hK K
  (try simp only [List.getElem_toArray, List.getElem_cons_succ, List.getElem_cons_zero, Act.put, List.setIfInBounds_toArray, List.set_cons_zero, List.set_cons_succ])
  refine wpAnyH_ready (rs := [8]) (by kernel_rfl) (by simp) ?_
  refine AllReadyH.cons (o := _) rfl (fun K hK => ?_) AllReadyH.nil
  go_simp
  (go_at_call 100; refine (c_dspan d6 d7 d8 hd7 hd8 w2).mono ?_; rintro e w3 ⟨n4, n5, hv3, rfl, hb3⟩; (have hs3 := hb3.size); (replace cd0 := kp hb3 (by omega) cd0); (replace cd1 := kp hb3 (by omega) cd1); (replace cd2 := kp hb3 (by omega) cd2); (replace cd3 := kp hb3 (by omega) cd3); (replace cd4 := kp hb3 (by omega) cd4); (replace cd5 := kp hb3 (by omega) cd5); (replace cd6 := kp hb3 (by omega) cd6); (replace cd7 := kp hb3 (by omega) cd7); (replace cd8 := kp hb3 (by omega) cd8); (replace z0 := kp hb3 (by omega) z0); (replace z1 := kp hb3 (by omega) z1); (replace z2 := kp hb3 (by omega) z2); (replace z3 := kp hb3 (by omega) z3); (replace z4 := kp hb3 (by omega) z4); (replace z5 := kp hb3 (by omega) z5); (replace s0 := kf hb3 (by omega) s0); (replace s1 := kf hb3 (by omega) s1); (replace s2 := kf hb3 (by omega) s2); (replace s3 := kf hb3 (by omega) s3); (replace s4 := kf hb3 (by omega) s4); (replace s5 := kf hb3 (by omega) s5))
  (try go_wp2_with (fail))
  refine hK.out _ _ ?_ (fun hHeld => ?_)
  · (try dsimp only); with_reducible exact ⟨cd0, cd1, cd2, cd3, cd4, cd5, cd6, cd7, cd8⟩
  clear hK K
  (try simp only [List.getElem_toArray, List.getElem_cons_succ, List.getElem_cons_zero, Act.put, List.setIfInBounds_toArray, List.set_cons_zero, List.set_cons_succ])
  refine wpAnyH_take (i := 9) (oi := _) (v := ?_) rfl (by kernel_rfl) (by kernel_rfl) (by kernel_rfl) (fun _ _ _ h => h) (Or.inl ⟨by rfl, ?_⟩) (by assumption) ?_
  rotate_left
  · intro w hSw; (try dsimp only at hSw); go_simp; (first | done | with_reducible rfl)
  (try simp only [List.getElem_toArray, List.getElem_cons_succ, List.getElem_cons_zero, Act.put, List.setIfInBounds_toArray, List.set_cons_zero, List.set_cons_succ])
  refine wpAnyH_ready (rs := [10]) (by kernel_rfl) (by simp) ?_
  refine AllReadyH.cons (o := _) rfl (fun K hK => ?_) AllReadyH.nil
  go_simp
  refine hK.out _ _ ?_ (fun hHeld => ?_)
  · (try dsimp only); ((with_reducible refine ⟨kfar ?_ (kfar ?_ (kfar ?_ (kfar ?_ (kfar ?_ (kfar ?_ cd0))))), kfar ?_ (kfar ?_ (kfar ?_ (kfar ?_ (kfar ?_ (kfar ?_ cd1))))), kfar ?_ (kfar ?_ (kfar ?_ (kfar ?_ (kfar ?_ (kfar ?_ cd2))))), kfar ?_ (kfar ?_ (kfar ?_ (kfar ?_ (kfar ?_ (kfar ?_ cd3))))), kfar ?_ (kfar ?_ (kfar ?_ (kfar ?_ (kfar ?_ (kfar ?_ cd4))))), kfar ?_ (kfar ?_ (kfar ?_ (kfar ?_ (kfar ?_ (kfar ?_ cd5))))), kfar ?_ (kfar ?_ (kfar ?_ (kfar ?_ (kfar ?_ (kfar ?_ cd6))))), kfar ?_ (kfar ?_ (kfar ?_ (kfar ?_ (kfar ?_ (kfar ?_ cd7))))), kfar ?_ (kfar ?_ (kfar ?_ (kfar ?_ (kfar ?_ (kfar ?_ cd8)))))⟩) <;> (first | omega | (simp only; omega)))
  clear hK K
  (try simp only [List.getElem_toArray, List.getElem_cons_succ, List.getElem_cons_zero, Act.put, List.setIfInBounds_toArray, List.set_cons_zero, List.set_cons_succ])
  refine wpAnyH_done (by kernel_rfl) ?_ _
  go_wp2_with (fail)
  have HB := hB.out
  obtain ⟨F, hF⟩ : ∃ F, F = ((((((w3.setCell ⟨w.heap.size + 1, 0, none⟩ (Value.int IntKind.i64 n0)).setCell ⟨w.heap.size + 1, 1, none⟩ (Value.int IntKind.i64 n1)).setCell ⟨w.heap.size + 1, 2, none⟩ (Value.int IntKind.i64 n2)).setCell ⟨w.heap.size + 1, 3, none⟩ (Value.int IntKind.i64 n3)).setCell ⟨w.heap.size + 1, 4, none⟩ (Value.int IntKind.i64 n4)).setCell ⟨w.heap.size + 1, 5, none⟩ (Value.int IntKind.i64 n5)) := ⟨_, rfl⟩
  have g := st6 w3 (w.heap.size + 1) (n0) (n1) (n2) (n3) (n4) (n5) z0 z1 z2 z3 z4 z5
  rw [← hF] at g
  have g0 : F.cell? ⟨w.heap.size + 1, 0, none⟩ = some (.int .i64 (n0)) := g 0 (by decide)
  have g1 : F.cell? ⟨w.heap.size + 1, 1, none⟩ = some (.int .i64 (n1)) := g 1 (by decide)
  have g2 : F.cell? ⟨w.heap.size + 1, 2, none⟩ = some (.int .i64 (n2)) := g 2 (by decide)
  have g3 : F.cell? ⟨w.heap.size + 1, 3, none⟩ = some (.int .i64 (n3)) := g 3 (by decide)
  have g4 : F.cell? ⟨w.heap.size + 1, 4, none⟩ = some (.int .i64 (n4)) := g 4 (by decide)
  have g5 : F.cell? ⟨w.heap.size + 1, 5, none⟩ = some (.int .i64 (n5)) := g 5 (by decide)
  clear g
  have hFB : Hid (Below w.heap.size w F) := by rw [hF]; unfold Hid; (repeat' (first | (with_reducible exact Below.refl _ _) | (with_reducible refine Below.setCell ?_ ?_ _) | (with_reducible refine Below.alloc ?_ ?_ _) | (with_reducible refine Below.drew ?_) | (with_reducible refine below_drewN ?_ _) | (with_reducible assumption) | (with_reducible refine Below.trans ?_ (Below.mono (by with_reducible assumption) ?_)) | omega | (simp; done) | (simp; omega) | (simp [World.setCell]; omega)))
  rw [← hF]
  clear hF
  refine bodyPost_ret (v := .agg #[.int .i64 n0, .int .i64 n1, .int .i64 n2, .int .i64 n3, .int .i64 n4, .int .i64 n5]) (by simp [results, Try.results40, go_sem, g0, g1, g2, g3, g4, g5]) rfl ⟨n0, n1, n2, n3, n4, n5, ⟨hv1, hv2, hv3⟩, rfl, hFB.out⟩
  

set_option maxHeartbeats 2000000 in
theorem c_pairs (x0 x1 x2 x3 x4 x5 y0 y1 y2 y3 y4 y5 d0 d1 d2 d3 d4 d5 d6 d7 d8 e0 e1 e2 e3 e4 e5 e6 e7 e8 : Int) (hd1 : 0 ≤ d1 ∧ d1 ≤ 255) (hd2 : 0 ≤ d2 ∧ d2 ≤ 4294967295) (hd4 : 0 ≤ d4 ∧ d4 ≤ 255) (hd5 : 0 ≤ d5 ∧ d5 ≤ 4294967295) (hd7 : 0 ≤ d7 ∧ d7 ≤ 255) (hd8 : 0 ≤ d8 ∧ d8 ≤ 4294967295) (he1 : 0 ≤ e1 ∧ e1 ≤ 255) (he2 : 0 ≤ e2 ∧ e2 ≤ 4294967295) (he4 : 0 ≤ e4 ∧ e4 ≤ 255) (he5 : 0 ≤ e5 ∧ e5 ≤ 4294967295) (he7 : 0 ≤ e7 ∧ e7 ≤ 255) (he8 : 0 ≤ e8 ∧ e8 ≤ 4294967295) (w : World) :
    Calls Try.prog 11 #[.agg #[.int .i64 x0, .int .i64 x1, .int .i64 x2, .int .i64 x3, .int .i64 x4, .int .i64 x5, .int .i64 y0, .int .i64 y1, .int .i64 y2, .int .i64 y3, .int .i64 y4, .int .i64 y5, .int .i64 d0, .int .u8 d1, .int .u32 d2, .int .i64 d3, .int .u8 d4, .int .u32 d5, .int .i64 d6, .int .u8 d7, .int .u32 d8, .int .i64 e0, .int .u8 e1, .int .u32 e2, .int .i64 e3, .int .u8 e4, .int .u32 e5, .int .i64 e6, .int .u8 e7, .int .u32 e8]] w fun e w' => ∃ (pb : Nat) (f : Nat → Int), (∀ k, 6 ≤ k → k < 18 → spChk (f (2 * k), f (2 * k + 1)) = 0) ∧ (∀ j, j < 48 → w'.cell? ⟨pb, j, none⟩ = some (.int .i64 (f j))) ∧ w.heap.size ≤ pb ∧ pb < w'.heap.size ∧ e = .returned (.slice (some ⟨pb, 0, none⟩) 4 4) ∧ Below w.heap.size w w' := by
  obtain ⟨W, hW⟩ : ∃ W, W = w.alloc (Obj.cells #[Value.int IntKind.i64 x0, Value.int IntKind.i64 x1, Value.int IntKind.i64 x2, Value.int IntKind.i64 x3, Value.int IntKind.i64 x4, Value.int IntKind.i64 x5, Value.int IntKind.i64 y0, Value.int IntKind.i64 y1, Value.int IntKind.i64 y2, Value.int IntKind.i64 y3, Value.int IntKind.i64 y4, Value.int IntKind.i64 y5, Value.int IntKind.i64 d0, .int .u8 d1, .int .u32 d2, Value.int IntKind.i64 d3, .int .u8 d4, .int .u32 d5, Value.int IntKind.i64 d6, .int .u8 d7, .int .u32 d8, Value.int IntKind.i64 e0, .int .u8 e1, .int .u32 e2, Value.int IntKind.i64 e3, .int .u8 e4, .int .u32 e5, Value.int IntKind.i64 e6, .int .u8 e7, .int .u32 e8] 32) := ⟨_, rfl⟩
  have hsW : w.heap.size < W.heap.size := by rw [hW]; simp
  have hB : Hid (Below w.heap.size w W) := by rw [hW]; unfold Hid; (repeat' (first | (with_reducible exact Below.refl _ _) | (with_reducible refine Below.setCell ?_ ?_ _) | (with_reducible refine Below.alloc ?_ ?_ _) | (with_reducible refine Below.drew ?_) | (with_reducible refine below_drewN ?_ _) | (with_reducible assumption) | (with_reducible refine Below.trans ?_ (Below.mono (by with_reducible assumption) ?_)) | omega | (simp; done) | (simp; omega) | (simp [World.setCell]; omega)))
  have c0 : W.cell? ⟨w.heap.size, 0, none⟩ = some (.int .i64 x0) := by rw [hW]; simp [go_sem]
  have c1 : W.cell? ⟨w.heap.size, 1, none⟩ = some (.int .i64 x1) := by rw [hW]; simp [go_sem]
  have c2 : W.cell? ⟨w.heap.size, 2, none⟩ = some (.int .i64 x2) := by rw [hW]; simp [go_sem]
  have c3 : W.cell? ⟨w.heap.size, 3, none⟩ = some (.int .i64 x3) := by rw [hW]; simp [go_sem]
  have c4 : W.cell? ⟨w.heap.size, 4, none⟩ = some (.int .i64 x4) := by rw [hW]; simp [go_sem]
  have c5 : W.cell? ⟨w.heap.size, 5, none⟩ = some (.int .i64 x5) := by rw [hW]; simp [go_sem]
  have c6 : W.cell? ⟨w.heap.size, 6, none⟩ = some (.int .i64 y0) := by rw [hW]; simp [go_sem]
  have c7 : W.cell? ⟨w.heap.size, 7, none⟩ = some (.int .i64 y1) := by rw [hW]; simp [go_sem]
  have c8 : W.cell? ⟨w.heap.size, 8, none⟩ = some (.int .i64 y2) := by rw [hW]; simp [go_sem]
  have c9 : W.cell? ⟨w.heap.size, 9, none⟩ = some (.int .i64 y3) := by rw [hW]; simp [go_sem]
  have c10 : W.cell? ⟨w.heap.size, 10, none⟩ = some (.int .i64 y4) := by rw [hW]; simp [go_sem]
  have c11 : W.cell? ⟨w.heap.size, 11, none⟩ = some (.int .i64 y5) := by rw [hW]; simp [go_sem]
  have c12 : W.cell? ⟨w.heap.size, 12, none⟩ = some (.int .i64 d0) := by rw [hW]; simp [go_sem]
  have c13 : W.cell? ⟨w.heap.size, 13, none⟩ = some (.int .u8 d1) := by rw [hW]; simp [go_sem]
  have c14 : W.cell? ⟨w.heap.size, 14, none⟩ = some (.int .u32 d2) := by rw [hW]; simp [go_sem]
  have c15 : W.cell? ⟨w.heap.size, 15, none⟩ = some (.int .i64 d3) := by rw [hW]; simp [go_sem]
  have c16 : W.cell? ⟨w.heap.size, 16, none⟩ = some (.int .u8 d4) := by rw [hW]; simp [go_sem]
  have c17 : W.cell? ⟨w.heap.size, 17, none⟩ = some (.int .u32 d5) := by rw [hW]; simp [go_sem]
  have c18 : W.cell? ⟨w.heap.size, 18, none⟩ = some (.int .i64 d6) := by rw [hW]; simp [go_sem]
  have c19 : W.cell? ⟨w.heap.size, 19, none⟩ = some (.int .u8 d7) := by rw [hW]; simp [go_sem]
  have c20 : W.cell? ⟨w.heap.size, 20, none⟩ = some (.int .u32 d8) := by rw [hW]; simp [go_sem]
  have c21 : W.cell? ⟨w.heap.size, 21, none⟩ = some (.int .i64 e0) := by rw [hW]; simp [go_sem]
  have c22 : W.cell? ⟨w.heap.size, 22, none⟩ = some (.int .u8 e1) := by rw [hW]; simp [go_sem]
  have c23 : W.cell? ⟨w.heap.size, 23, none⟩ = some (.int .u32 e2) := by rw [hW]; simp [go_sem]
  have c24 : W.cell? ⟨w.heap.size, 24, none⟩ = some (.int .i64 e3) := by rw [hW]; simp [go_sem]
  have c25 : W.cell? ⟨w.heap.size, 25, none⟩ = some (.int .u8 e4) := by rw [hW]; simp [go_sem]
  have c26 : W.cell? ⟨w.heap.size, 26, none⟩ = some (.int .u32 e5) := by rw [hW]; simp [go_sem]
  have c27 : W.cell? ⟨w.heap.size, 27, none⟩ = some (.int .i64 e6) := by rw [hW]; simp [go_sem]
  have c28 : W.cell? ⟨w.heap.size, 28, none⟩ = some (.int .u8 e7) := by rw [hW]; simp [go_sem]
  have c29 : W.cell? ⟨w.heap.size, 29, none⟩ = some (.int .u32 e8) := by rw [hW]; simp [go_sem]
  go_enter Try.func11, Try.ntmps11
  go_wp2_with (fail)
  rw [← hW]
  clear hW
  refine wp_region_held_drew (S := (fun w' => w'.cell? ⟨w.heap.size, 0, none⟩ = some (.int .i64 x0) ∧ w'.cell? ⟨w.heap.size, 1, none⟩ = some (.int .i64 x1) ∧ w'.cell? ⟨w.heap.size, 2, none⟩ = some (.int .i64 x2) ∧ w'.cell? ⟨w.heap.size, 3, none⟩ = some (.int .i64 x3) ∧ w'.cell? ⟨w.heap.size, 4, none⟩ = some (.int .i64 x4) ∧ w'.cell? ⟨w.heap.size, 5, none⟩ = some (.int .i64 x5) ∧ w'.cell? ⟨w.heap.size, 6, none⟩ = some (.int .i64 y0) ∧ w'.cell? ⟨w.heap.size, 7, none⟩ = some (.int .i64 y1) ∧ w'.cell? ⟨w.heap.size, 8, none⟩ = some (.int .i64 y2) ∧ w'.cell? ⟨w.heap.size, 9, none⟩ = some (.int .i64 y3) ∧ w'.cell? ⟨w.heap.size, 10, none⟩ = some (.int .i64 y4) ∧ w'.cell? ⟨w.heap.size, 11, none⟩ = some (.int .i64 y5) ∧ w'.cell? ⟨w.heap.size, 12, none⟩ = some (.int .i64 d0) ∧ w'.cell? ⟨w.heap.size, 13, none⟩ = some (.int .u8 d1) ∧ w'.cell? ⟨w.heap.size, 14, none⟩ = some (.int .u32 d2) ∧ w'.cell? ⟨w.heap.size, 15, none⟩ = some (.int .i64 d3) ∧ w'.cell? ⟨w.heap.size, 16, none⟩ = some (.int .u8 d4) ∧ w'.cell? ⟨w.heap.size, 17, none⟩ = some (.int .u32 d5) ∧ w'.cell? ⟨w.heap.size, 18, none⟩ = some (.int .i64 d6) ∧ w'.cell? ⟨w.heap.size, 19, none⟩ = some (.int .u8 d7) ∧ w'.cell? ⟨w.heap.size, 20, none⟩ = some (.int .u32 d8) ∧ w'.cell? ⟨w.heap.size, 21, none⟩ = some (.int .i64 e0) ∧ w'.cell? ⟨w.heap.size, 22, none⟩ = some (.int .u8 e1) ∧ w'.cell? ⟨w.heap.size, 23, none⟩ = some (.int .u32 e2) ∧ w'.cell? ⟨w.heap.size, 24, none⟩ = some (.int .i64 e3) ∧ w'.cell? ⟨w.heap.size, 25, none⟩ = some (.int .u8 e4) ∧ w'.cell? ⟨w.heap.size, 26, none⟩ = some (.int .u32 e5) ∧ w'.cell? ⟨w.heap.size, 27, none⟩ = some (.int .i64 e6) ∧ w'.cell? ⟨w.heap.size, 28, none⟩ = some (.int .u8 e7) ∧ w'.cell? ⟨w.heap.size, 29, none⟩ = some (.int .u32 e8))) (by kernel_rfl) ?_ (fun hHeld => ?_)
  · (try dsimp only); with_reducible exact ⟨cell_drew c0, cell_drew c1, cell_drew c2, cell_drew c3, cell_drew c4, cell_drew c5, cell_drew c6, cell_drew c7, cell_drew c8, cell_drew c9, cell_drew c10, cell_drew c11, cell_drew c12, cell_drew c13, cell_drew c14, cell_drew c15, cell_drew c16, cell_drew c17, cell_drew c18, cell_drew c19, cell_drew c20, cell_drew c21, cell_drew c22, cell_drew c23, cell_drew c24, cell_drew c25, cell_drew c26, cell_drew c27, cell_drew c28, cell_drew c29⟩
  refine wpAnyH_take (i := 0) (oi := _) (v := ?_) rfl (by kernel_rfl) (by kernel_rfl) (by kernel_rfl) (fun _ _ _ h => h) (Or.inl ⟨by rfl, ?_⟩) (by assumption) ?_
  rotate_left
  · intro w hSw; (try dsimp only at hSw); go_simp; (first | done | with_reducible rfl)
  (try simp only [List.getElem_toArray, List.getElem_cons_succ, List.getElem_cons_zero, Act.put, List.setIfInBounds_toArray, List.set_cons_zero, List.set_cons_succ])
  refine wpAnyH_take (i := 1) (oi := _) (v := ?_) rfl (by kernel_rfl) (by kernel_rfl) (by kernel_rfl) (fun _ _ _ h => h) (Or.inl ⟨by rfl, ?_⟩) (by assumption) ?_
  rotate_left
  · intro w hSw; (try dsimp only at hSw); go_simp; (first | done | with_reducible rfl)
  (try simp only [List.getElem_toArray, List.getElem_cons_succ, List.getElem_cons_zero, Act.put, List.setIfInBounds_toArray, List.set_cons_zero, List.set_cons_succ])
  refine wpAnyH_take (i := 2) (oi := _) (v := ?_) rfl (by kernel_rfl) (by kernel_rfl) (by kernel_rfl) (fun _ _ _ h => h) (Or.inl ⟨by rfl, ?_⟩) (by assumption) ?_
  rotate_left
  · intro w hSw; (try dsimp only at hSw); go_simp; (first | done | with_reducible rfl)
  (try simp only [List.getElem_toArray, List.getElem_cons_succ, List.getElem_cons_zero, Act.put, List.setIfInBounds_toArray, List.set_cons_zero, List.set_cons_succ])
  refine wpAnyH_take (i := 3) (oi := _) (v := ?_) rfl (by kernel_rfl) (by kernel_rfl) (by kernel_rfl) (fun _ _ _ h => h) (Or.inl ⟨by rfl, ?_⟩) (by assumption) ?_
  rotate_left
  · intro w hSw; (try dsimp only at hSw); go_simp; (first | done | with_reducible rfl)
  (try simp only [List.getElem_toArray, List.getElem_cons_succ, List.getElem_cons_zero, Act.put, List.setIfInBounds_toArray, List.set_cons_zero, List.set_cons_succ])
  refine wpAnyH_take (i := 4) (oi := _) (v := ?_) rfl (by kernel_rfl) (by kernel_rfl) (by kernel_rfl) (fun _ _ _ h => h) (Or.inl ⟨by rfl, ?_⟩) (by assumption) ?_
  rotate_left
  · intro w hSw; (try dsimp only at hSw); go_simp; (first | done | with_reducible rfl)
  (try simp only [List.getElem_toArray, List.getElem_cons_succ, List.getElem_cons_zero, Act.put, List.setIfInBounds_toArray, List.set_cons_zero, List.set_cons_succ])
  refine wpAnyH_take (i := 5) (oi := _) (v := ?_) rfl (by kernel_rfl) (by kernel_rfl) (by kernel_rfl) (fun _ _ _ h => h) (Or.inl ⟨by rfl, ?_⟩) (by assumption) ?_
  rotate_left
  · intro w hSw; (try dsimp only at hSw); go_simp; (first | done | with_reducible rfl)
  (try simp only [List.getElem_toArray, List.getElem_cons_succ, List.getElem_cons_zero, Act.put, List.setIfInBounds_toArray, List.set_cons_zero, List.set_cons_succ])
  refine wpAnyH_take (i := 6) (oi := _) (v := ?_) rfl (by kernel_rfl) (by kernel_rfl) (by kernel_rfl) (fun _ _ _ h => h) (Or.inl ⟨by rfl, ?_⟩) (by assumption) ?_
  rotate_left
  · intro w hSw; (try dsimp only at hSw); go_simp; (first | done | with_reducible rfl)
  (try simp only [List.getElem_toArray, List.getElem_cons_succ, List.getElem_cons_zero, Act.put, List.setIfInBounds_toArray, List.set_cons_zero, List.set_cons_succ])
  refine wpAnyH_take (i := 8) (oi := _) (v := ?_) rfl (by kernel_rfl) (by kernel_rfl) (by kernel_rfl) (fun _ _ _ h => h) (Or.inl ⟨by rfl, ?_⟩) (by assumption) ?_
  rotate_left
  · intro w hSw; (try dsimp only at hSw); go_simp; (first | done | with_reducible rfl)
  (try simp only [List.getElem_toArray, List.getElem_cons_succ, List.getElem_cons_zero, Act.put, List.setIfInBounds_toArray, List.set_cons_zero, List.set_cons_succ])
  refine wpAnyH_take (i := 9) (oi := _) (v := ?_) rfl (by kernel_rfl) (by kernel_rfl) (by kernel_rfl) (fun _ _ _ h => h) (Or.inl ⟨by rfl, ?_⟩) (by assumption) ?_
  rotate_left
  · intro w hSw; (try dsimp only at hSw); go_simp; (first | done | with_reducible rfl)
  (try simp only [List.getElem_toArray, List.getElem_cons_succ, List.getElem_cons_zero, Act.put, List.setIfInBounds_toArray, List.set_cons_zero, List.set_cons_succ])
  refine wpAnyH_take (i := 12) (oi := _) (v := ?_) rfl (by kernel_rfl) (by kernel_rfl) (by kernel_rfl) (fun _ _ _ h => h) (Or.inl ⟨by rfl, ?_⟩) (by assumption) ?_
  rotate_left
  · intro w hSw; (try dsimp only at hSw); go_simp; (first | done | with_reducible rfl)
  (try simp only [List.getElem_toArray, List.getElem_cons_succ, List.getElem_cons_zero, Act.put, List.setIfInBounds_toArray, List.set_cons_zero, List.set_cons_succ])
  refine wpAnyH_take (i := 13) (oi := _) (v := ?_) rfl (by kernel_rfl) (by kernel_rfl) (by kernel_rfl) (fun _ _ _ h => h) (Or.inl ⟨by rfl, ?_⟩) (by assumption) ?_
  rotate_left
  · intro w hSw; (try dsimp only at hSw); go_simp; (first | done | with_reducible rfl)
  (try simp only [List.getElem_toArray, List.getElem_cons_succ, List.getElem_cons_zero, Act.put, List.setIfInBounds_toArray, List.set_cons_zero, List.set_cons_succ])
  refine wpAnyH_take (i := 15) (oi := _) (v := ?_) rfl (by kernel_rfl) (by kernel_rfl) (by kernel_rfl) (fun _ _ _ h => h) (Or.inl ⟨by rfl, ?_⟩) (by assumption) ?_
  rotate_left
  · intro w hSw; (try dsimp only at hSw); go_simp; (first | done | with_reducible rfl)
  (try simp only [List.getElem_toArray, List.getElem_cons_succ, List.getElem_cons_zero, Act.put, List.setIfInBounds_toArray, List.set_cons_zero, List.set_cons_succ])
  refine wpAnyH_take (i := 16) (oi := _) (v := ?_) rfl (by kernel_rfl) (by kernel_rfl) (by kernel_rfl) (fun _ _ _ h => h) (Or.inl ⟨by rfl, ?_⟩) (by assumption) ?_
  rotate_left
  · intro w hSw; (try dsimp only at hSw); go_simp; (first | done | with_reducible rfl)
  (try simp only [List.getElem_toArray, List.getElem_cons_succ, List.getElem_cons_zero, Act.put, List.setIfInBounds_toArray, List.set_cons_zero, List.set_cons_succ])
  refine wpAnyH_take (i := 19) (oi := _) (v := ?_) rfl (by kernel_rfl) (by kernel_rfl) (by kernel_rfl) (fun _ _ _ h => h) (Or.inl ⟨by rfl, ?_⟩) (by assumption) ?_
  rotate_left
  · intro w hSw; (try dsimp only at hSw); go_simp; (first | done | with_reducible rfl)
  (try simp only [List.getElem_toArray, List.getElem_cons_succ, List.getElem_cons_zero, Act.put, List.setIfInBounds_toArray, List.set_cons_zero, List.set_cons_succ])
  refine wpAnyH_take (i := 20) (oi := _) (v := ?_) rfl (by kernel_rfl) (by kernel_rfl) (by kernel_rfl) (fun _ _ _ h => h) (Or.inl ⟨by rfl, ?_⟩) (by assumption) ?_
  rotate_left
  · intro w hSw; (try dsimp only at hSw); go_simp; (first | done | with_reducible rfl)
  (try simp only [List.getElem_toArray, List.getElem_cons_succ, List.getElem_cons_zero, Act.put, List.setIfInBounds_toArray, List.set_cons_zero, List.set_cons_succ])
  refine wpAnyH_take (i := 22) (oi := _) (v := ?_) rfl (by kernel_rfl) (by kernel_rfl) (by kernel_rfl) (fun _ _ _ h => h) (Or.inl ⟨by rfl, ?_⟩) (by assumption) ?_
  rotate_left
  · intro w hSw; (try dsimp only at hSw); go_simp; (first | done | with_reducible rfl)
  (try simp only [List.getElem_toArray, List.getElem_cons_succ, List.getElem_cons_zero, Act.put, List.setIfInBounds_toArray, List.set_cons_zero, List.set_cons_succ])
  refine wpAnyH_take (i := 23) (oi := _) (v := ?_) rfl (by kernel_rfl) (by kernel_rfl) (by kernel_rfl) (fun _ _ _ h => h) (Or.inl ⟨by rfl, ?_⟩) (by assumption) ?_
  rotate_left
  · intro w hSw; (try dsimp only at hSw); go_simp; (first | done | with_reducible rfl)
  (try simp only [List.getElem_toArray, List.getElem_cons_succ, List.getElem_cons_zero, Act.put, List.setIfInBounds_toArray, List.set_cons_zero, List.set_cons_succ])
  refine wpAnyH_ready (rs := [7]) (by kernel_rfl) (by simp) ?_
  refine AllReadyH.cons (o := _) rfl (fun K hK => ?_) AllReadyH.nil
  go_simp
  (go_at_call 40; refine (c_vVec d0 d1 d2 d3 d4 d5 d6 d7 d8 hd1 hd2 hd4 hd5 hd7 hd8 W.drew).mono ?_; rintro e w1 ⟨m0, m1, m2, m3, m4, m5, hv1, rfl, hb1⟩; (replace hb1 : Below W.heap.size W w1 := Below.undrew hb1); (have hs1 := hb1.size); (replace c0 := kp hb1 (by omega) c0); (replace c1 := kp hb1 (by omega) c1); (replace c2 := kp hb1 (by omega) c2); (replace c3 := kp hb1 (by omega) c3); (replace c4 := kp hb1 (by omega) c4); (replace c5 := kp hb1 (by omega) c5); (replace c6 := kp hb1 (by omega) c6); (replace c7 := kp hb1 (by omega) c7); (replace c8 := kp hb1 (by omega) c8); (replace c9 := kp hb1 (by omega) c9); (replace c10 := kp hb1 (by omega) c10); (replace c11 := kp hb1 (by omega) c11); (replace c12 := kp hb1 (by omega) c12); (replace c13 := kp hb1 (by omega) c13); (replace c14 := kp hb1 (by omega) c14); (replace c15 := kp hb1 (by omega) c15); (replace c16 := kp hb1 (by omega) c16); (replace c17 := kp hb1 (by omega) c17); (replace c18 := kp hb1 (by omega) c18); (replace c19 := kp hb1 (by omega) c19); (replace c20 := kp hb1 (by omega) c20); (replace c21 := kp hb1 (by omega) c21); (replace c22 := kp hb1 (by omega) c22); (replace c23 := kp hb1 (by omega) c23); (replace c24 := kp hb1 (by omega) c24); (replace c25 := kp hb1 (by omega) c25); (replace c26 := kp hb1 (by omega) c26); (replace c27 := kp hb1 (by omega) c27); (replace c28 := kp hb1 (by omega) c28); (replace c29 := kp hb1 (by omega) c29))
  (try go_wp2_with (fail))
  refine hK.out _ _ ?_ (fun hHeld => ?_)
  · (try dsimp only); with_reducible exact ⟨c0, c1, c2, c3, c4, c5, c6, c7, c8, c9, c10, c11, c12, c13, c14, c15, c16, c17, c18, c19, c20, c21, c22, c23, c24, c25, c26, c27, c28, c29⟩
  clear hK K
  (try simp only [List.getElem_toArray, List.getElem_cons_succ, List.getElem_cons_zero, Act.put, List.setIfInBounds_toArray, List.set_cons_zero, List.set_cons_succ])
  refine wpAnyH_ready (rs := [10]) (by kernel_rfl) (by simp) ?_
  refine AllReadyH.cons (o := _) rfl (fun K hK => ?_) AllReadyH.nil
  go_simp
  (go_at_call 41; refine (c_vSmall e0 e1 e2 e3 e4 e5 e6 e7 e8 he1 he2 he4 he5 he7 he8 w1).mono ?_; rintro e w2 ⟨m6, m7, m8, m9, m10, m11, ⟨u0, u1, u2⟩, rfl, hb2⟩; (have hv2 : ValidI m6 m7 ∧ ValidI m8 m9 ∧ ValidI m10 m11 := ⟨u0.ok, u1.ok, u2.ok⟩); clear u0 u1 u2; (have hs2 := hb2.size); (replace c0 := kp hb2 (by omega) c0); (replace c1 := kp hb2 (by omega) c1); (replace c2 := kp hb2 (by omega) c2); (replace c3 := kp hb2 (by omega) c3); (replace c4 := kp hb2 (by omega) c4); (replace c5 := kp hb2 (by omega) c5); (replace c6 := kp hb2 (by omega) c6); (replace c7 := kp hb2 (by omega) c7); (replace c8 := kp hb2 (by omega) c8); (replace c9 := kp hb2 (by omega) c9); (replace c10 := kp hb2 (by omega) c10); (replace c11 := kp hb2 (by omega) c11); (replace c12 := kp hb2 (by omega) c12); (replace c13 := kp hb2 (by omega) c13); (replace c14 := kp hb2 (by omega) c14); (replace c15 := kp hb2 (by omega) c15); (replace c16 := kp hb2 (by omega) c16); (replace c17 := kp hb2 (by omega) c17); (replace c18 := kp hb2 (by omega) c18); (replace c19 := kp hb2 (by omega) c19); (replace c20 := kp hb2 (by omega) c20); (replace c21 := kp hb2 (by omega) c21); (replace c22 := kp hb2 (by omega) c22); (replace c23 := kp hb2 (by omega) c23); (replace c24 := kp hb2 (by omega) c24); (replace c25 := kp hb2 (by omega) c25); (replace c26 := kp hb2 (by omega) c26); (replace c27 := kp hb2 (by omega) c27); (replace c28 := kp hb2 (by omega) c28); (replace c29 := kp hb2 (by omega) c29))
  (try go_wp2_with (fail))
  refine hK.out _ _ ?_ (fun hHeld => ?_)
  · (try dsimp only); with_reducible exact ⟨c0, c1, c2, c3, c4, c5, c6, c7, c8, c9, c10, c11, c12, c13, c14, c15, c16, c17, c18, c19, c20, c21, c22, c23, c24, c25, c26, c27, c28, c29⟩
  clear hK K
  (try simp only [List.getElem_toArray, List.getElem_cons_succ, List.getElem_cons_zero, Act.put, List.setIfInBounds_toArray, List.set_cons_zero, List.set_cons_succ])
  refine wpAnyH_take (i := 11) (oi := _) (v := ?_) rfl (by kernel_rfl) (by kernel_rfl) (by kernel_rfl) (fun _ _ _ h => h) (Or.inl ⟨by rfl, ?_⟩) (by assumption) ?_
  rotate_left
  · intro w hSw; (try dsimp only at hSw); go_simp; (first | done | with_reducible rfl)
  (try simp only [List.getElem_toArray, List.getElem_cons_succ, List.getElem_cons_zero, Act.put, List.setIfInBounds_toArray, List.set_cons_zero, List.set_cons_succ])
  refine wpAnyH_ready (rs := [14]) (by kernel_rfl) (by simp) ?_
  refine AllReadyH.cons (o := _) rfl (fun K hK => ?_) AllReadyH.nil
  go_simp
  (go_at_call 41; refine (c_vSmall d0 d1 d2 d3 d4 d5 d6 d7 d8 hd1 hd2 hd4 hd5 hd7 hd8 w2).mono ?_; rintro e w3 ⟨m12, m13, m14, m15, m16, m17, ⟨u0, u1, u2⟩, rfl, hb3⟩; (have hv3 : ValidI m12 m13 ∧ ValidI m14 m15 ∧ ValidI m16 m17 := ⟨u0.ok, u1.ok, u2.ok⟩); clear u0 u1 u2; (have hs3 := hb3.size); (replace c0 := kp hb3 (by omega) c0); (replace c1 := kp hb3 (by omega) c1); (replace c2 := kp hb3 (by omega) c2); (replace c3 := kp hb3 (by omega) c3); (replace c4 := kp hb3 (by omega) c4); (replace c5 := kp hb3 (by omega) c5); (replace c6 := kp hb3 (by omega) c6); (replace c7 := kp hb3 (by omega) c7); (replace c8 := kp hb3 (by omega) c8); (replace c9 := kp hb3 (by omega) c9); (replace c10 := kp hb3 (by omega) c10); (replace c11 := kp hb3 (by omega) c11); (replace c12 := kp hb3 (by omega) c12); (replace c13 := kp hb3 (by omega) c13); (replace c14 := kp hb3 (by omega) c14); (replace c15 := kp hb3 (by omega) c15); (replace c16 := kp hb3 (by omega) c16); (replace c17 := kp hb3 (by omega) c17); (replace c18 := kp hb3 (by omega) c18); (replace c19 := kp hb3 (by omega) c19); (replace c20 := kp hb3 (by omega) c20); (replace c21 := kp hb3 (by omega) c21); (replace c22 := kp hb3 (by omega) c22); (replace c23 := kp hb3 (by omega) c23); (replace c24 := kp hb3 (by omega) c24); (replace c25 := kp hb3 (by omega) c25); (replace c26 := kp hb3 (by omega) c26); (replace c27 := kp hb3 (by omega) c27); (replace c28 := kp hb3 (by omega) c28); (replace c29 := kp hb3 (by omega) c29))
  (try go_wp2_with (fail))
  refine hK.out _ _ ?_ (fun hHeld => ?_)
  · (try dsimp only); with_reducible exact ⟨c0, c1, c2, c3, c4, c5, c6, c7, c8, c9, c10, c11, c12, c13, c14, c15, c16, c17, c18, c19, c20, c21, c22, c23, c24, c25, c26, c27, c28, c29⟩
  clear hK K
  (try simp only [List.getElem_toArray, List.getElem_cons_succ, List.getElem_cons_zero, Act.put, List.setIfInBounds_toArray, List.set_cons_zero, List.set_cons_succ])
  refine wpAnyH_ready (rs := [17]) (by kernel_rfl) (by simp) ?_
  refine AllReadyH.cons (o := _) rfl (fun K hK => ?_) AllReadyH.nil
  go_simp
  (go_at_call 41; refine (c_vSmall e0 e1 e2 e3 e4 e5 e6 e7 e8 he1 he2 he4 he5 he7 he8 w3).mono ?_; rintro e w4 ⟨m18, m19, m20, m21, m22, m23, ⟨u0, u1, u2⟩, rfl, hb4⟩; (have hv4 : ValidI m18 m19 ∧ ValidI m20 m21 ∧ ValidI m22 m23 := ⟨u0.ok, u1.ok, u2.ok⟩); clear u0 u1 u2; (have hs4 := hb4.size); (replace c0 := kp hb4 (by omega) c0); (replace c1 := kp hb4 (by omega) c1); (replace c2 := kp hb4 (by omega) c2); (replace c3 := kp hb4 (by omega) c3); (replace c4 := kp hb4 (by omega) c4); (replace c5 := kp hb4 (by omega) c5); (replace c6 := kp hb4 (by omega) c6); (replace c7 := kp hb4 (by omega) c7); (replace c8 := kp hb4 (by omega) c8); (replace c9 := kp hb4 (by omega) c9); (replace c10 := kp hb4 (by omega) c10); (replace c11 := kp hb4 (by omega) c11); (replace c12 := kp hb4 (by omega) c12); (replace c13 := kp hb4 (by omega) c13); (replace c14 := kp hb4 (by omega) c14); (replace c15 := kp hb4 (by omega) c15); (replace c16 := kp hb4 (by omega) c16); (replace c17 := kp hb4 (by omega) c17); (replace c18 := kp hb4 (by omega) c18); (replace c19 := kp hb4 (by omega) c19); (replace c20 := kp hb4 (by omega) c20); (replace c21 := kp hb4 (by omega) c21); (replace c22 := kp hb4 (by omega) c22); (replace c23 := kp hb4 (by omega) c23); (replace c24 := kp hb4 (by omega) c24); (replace c25 := kp hb4 (by omega) c25); (replace c26 := kp hb4 (by omega) c26); (replace c27 := kp hb4 (by omega) c27); (replace c28 := kp hb4 (by omega) c28); (replace c29 := kp hb4 (by omega) c29))
  (try go_wp2_with (fail))
  refine hK.out _ _ ?_ (fun hHeld => ?_)
  · (try dsimp only); with_reducible exact ⟨c0, c1, c2, c3, c4, c5, c6, c7, c8, c9, c10, c11, c12, c13, c14, c15, c16, c17, c18, c19, c20, c21, c22, c23, c24, c25, c26, c27, c28, c29⟩
  clear hK K
  (try simp only [List.getElem_toArray, List.getElem_cons_succ, List.getElem_cons_zero, Act.put, List.setIfInBounds_toArray, List.set_cons_zero, List.set_cons_succ])
  refine wpAnyH_take (i := 18) (oi := _) (v := ?_) rfl (by kernel_rfl) (by kernel_rfl) (by kernel_rfl) (fun _ _ _ h => h) (Or.inl ⟨by rfl, ?_⟩) (by assumption) ?_
  rotate_left
  · intro w hSw; (try dsimp only at hSw); go_simp; (first | done | with_reducible rfl)
  (try simp only [List.getElem_toArray, List.getElem_cons_succ, List.getElem_cons_zero, Act.put, List.setIfInBounds_toArray, List.set_cons_zero, List.set_cons_succ])
  refine wpAnyH_ready (rs := [21]) (by kernel_rfl) (by simp) ?_
  refine AllReadyH.cons (o := _) rfl (fun K hK => ?_) AllReadyH.nil
  go_simp
  (go_at_call 41; refine (c_vSmall d0 d1 d2 d3 d4 d5 d6 d7 d8 hd1 hd2 hd4 hd5 hd7 hd8 w4).mono ?_; rintro e w5 ⟨m24, m25, m26, m27, m28, m29, ⟨u0, u1, u2⟩, rfl, hb5⟩; (have hv5 : ValidI m24 m25 ∧ ValidI m26 m27 ∧ ValidI m28 m29 := ⟨u0.ok, u1.ok, u2.ok⟩); clear u0 u1 u2; (have hs5 := hb5.size); (replace c0 := kp hb5 (by omega) c0); (replace c1 := kp hb5 (by omega) c1); (replace c2 := kp hb5 (by omega) c2); (replace c3 := kp hb5 (by omega) c3); (replace c4 := kp hb5 (by omega) c4); (replace c5 := kp hb5 (by omega) c5); (replace c6 := kp hb5 (by omega) c6); (replace c7 := kp hb5 (by omega) c7); (replace c8 := kp hb5 (by omega) c8); (replace c9 := kp hb5 (by omega) c9); (replace c10 := kp hb5 (by omega) c10); (replace c11 := kp hb5 (by omega) c11); (replace c12 := kp hb5 (by omega) c12); (replace c13 := kp hb5 (by omega) c13); (replace c14 := kp hb5 (by omega) c14); (replace c15 := kp hb5 (by omega) c15); (replace c16 := kp hb5 (by omega) c16); (replace c17 := kp hb5 (by omega) c17); (replace c18 := kp hb5 (by omega) c18); (replace c19 := kp hb5 (by omega) c19); (replace c20 := kp hb5 (by omega) c20); (replace c21 := kp hb5 (by omega) c21); (replace c22 := kp hb5 (by omega) c22); (replace c23 := kp hb5 (by omega) c23); (replace c24 := kp hb5 (by omega) c24); (replace c25 := kp hb5 (by omega) c25); (replace c26 := kp hb5 (by omega) c26); (replace c27 := kp hb5 (by omega) c27); (replace c28 := kp hb5 (by omega) c28); (replace c29 := kp hb5 (by omega) c29))
  (try go_wp2_with (fail))
  refine hK.out _ _ ?_ (fun hHeld => ?_)
  · (try dsimp only); with_reducible exact ⟨c0, c1, c2, c3, c4, c5, c6, c7, c8, c9, c10, c11, c12, c13, c14, c15, c16, c17, c18, c19, c20, c21, c22, c23, c24, c25, c26, c27, c28, c29⟩
  clear hK K
  (try simp only [List.getElem_toArray, List.getElem_cons_succ, List.getElem_cons_zero, Act.put, List.setIfInBounds_toArray, List.set_cons_zero, List.set_cons_succ])
  refine wpAnyH_take (i := 24) (oi := _) (v := ?_) rfl (by kernel_rfl) (by kernel_rfl) (by kernel_rfl) (fun _ _ _ h => h) (Or.inl ⟨by rfl, ?_⟩) (by assumption) ?_
  rotate_left
  · intro w hSw; (try dsimp only at hSw); go_simp; (first | done | with_reducible rfl)
  (try simp only [List.getElem_toArray, List.getElem_cons_succ, List.getElem_cons_zero, Act.put, List.setIfInBounds_toArray, List.set_cons_zero, List.set_cons_succ])
  refine wpAnyH_ready (rs := [25]) (by kernel_rfl) (by simp) ?_
  refine AllReadyH.cons (o := _) rfl (fun K hK => ?_) AllReadyH.nil
  go_simp
  refine hK.out _ _ ?_ (fun hHeld => ?_)
  · (try dsimp only); ((with_reducible refine ⟨(World.cell?_alloc_past _ _ _ ?_).trans c0, (World.cell?_alloc_past _ _ _ ?_).trans c1, (World.cell?_alloc_past _ _ _ ?_).trans c2, (World.cell?_alloc_past _ _ _ ?_).trans c3, (World.cell?_alloc_past _ _ _ ?_).trans c4, (World.cell?_alloc_past _ _ _ ?_).trans c5, (World.cell?_alloc_past _ _ _ ?_).trans c6, (World.cell?_alloc_past _ _ _ ?_).trans c7, (World.cell?_alloc_past _ _ _ ?_).trans c8, (World.cell?_alloc_past _ _ _ ?_).trans c9, (World.cell?_alloc_past _ _ _ ?_).trans c10, (World.cell?_alloc_past _ _ _ ?_).trans c11, (World.cell?_alloc_past _ _ _ ?_).trans c12, (World.cell?_alloc_past _ _ _ ?_).trans c13, (World.cell?_alloc_past _ _ _ ?_).trans c14, (World.cell?_alloc_past _ _ _ ?_).trans c15, (World.cell?_alloc_past _ _ _ ?_).trans c16, (World.cell?_alloc_past _ _ _ ?_).trans c17, (World.cell?_alloc_past _ _ _ ?_).trans c18, (World.cell?_alloc_past _ _ _ ?_).trans c19, (World.cell?_alloc_past _ _ _ ?_).trans c20, (World.cell?_alloc_past _ _ _ ?_).trans c21, (World.cell?_alloc_past _ _ _ ?_).trans c22, (World.cell?_alloc_past _ _ _ ?_).trans c23, (World.cell?_alloc_past _ _ _ ?_).trans c24, (World.cell?_alloc_past _ _ _ ?_).trans c25, (World.cell?_alloc_past _ _ _ ?_).trans c26, (World.cell?_alloc_past _ _ _ ?_).trans c27, (World.cell?_alloc_past _ _ _ ?_).trans c28, (World.cell?_alloc_past _ _ _ ?_).trans c29⟩) <;> (first | omega | (simp; done) | (simp; omega)))
  clear hK K
  (try simp only [List.getElem_toArray, List.getElem_cons_succ, List.getElem_cons_zero, Act.put, List.setIfInBounds_toArray, List.set_cons_zero, List.set_cons_succ])
  refine wpAnyH_take (i := 26) (oi := _) (v := ?_) rfl (by kernel_rfl) (by kernel_rfl) (by kernel_rfl) (fun _ _ _ h => h) (Or.inl ⟨by rfl, ?_⟩) (by assumption) ?_
  rotate_left
  · intro w hSw; (try dsimp only at hSw); go_simp; (first | done | with_reducible rfl)
  (try simp only [List.getElem_toArray, List.getElem_cons_succ, List.getElem_cons_zero, Act.put, List.setIfInBounds_toArray, List.set_cons_zero, List.set_cons_succ])
  refine wpAnyH_done (by kernel_rfl) ?_ _
  go_wp2_with (fail)
  obtain ⟨L, hL⟩ : ∃ L : List Int, L = [x0, x1, x2, x3, x4, x5, y0, y1, y2, y3, y4, y5, m0, m1, m2, m3, m4, m5, m6, m7, m8, m9, m10, m11, m12, m13, m14, m15, m16, m17, m18, m19, m20, m21, m22, m23, m24, m25, m26, m27, m28, m29, y0, y1, y2, y3, y4, y5] := ⟨_, rfl⟩
  obtain ⟨F, hF⟩ : ∃ F, F = w5.alloc (Obj.cells #[Value.int IntKind.i64 x0, Value.int IntKind.i64 x1, Value.int IntKind.i64 x2, Value.int IntKind.i64 x3, Value.int IntKind.i64 x4, Value.int IntKind.i64 x5, Value.int IntKind.i64 y0, Value.int IntKind.i64 y1, Value.int IntKind.i64 y2, Value.int IntKind.i64 y3, Value.int IntKind.i64 y4, Value.int IntKind.i64 y5, Value.int IntKind.i64 m0, Value.int IntKind.i64 m1, Value.int IntKind.i64 m2, Value.int IntKind.i64 m3, Value.int IntKind.i64 m4, Value.int IntKind.i64 m5, Value.int IntKind.i64 m6, Value.int IntKind.i64 m7, Value.int IntKind.i64 m8, Value.int IntKind.i64 m9, Value.int IntKind.i64 m10, Value.int IntKind.i64 m11, Value.int IntKind.i64 m12, Value.int IntKind.i64 m13, Value.int IntKind.i64 m14, Value.int IntKind.i64 m15, Value.int IntKind.i64 m16, Value.int IntKind.i64 m17, Value.int IntKind.i64 m18, Value.int IntKind.i64 m19, Value.int IntKind.i64 m20, Value.int IntKind.i64 m21, Value.int IntKind.i64 m22, Value.int IntKind.i64 m23, Value.int IntKind.i64 m24, Value.int IntKind.i64 m25, Value.int IntKind.i64 m26, Value.int IntKind.i64 m27, Value.int IntKind.i64 m28, Value.int IntKind.i64 m29, Value.int IntKind.i64 y0, Value.int IntKind.i64 y1, Value.int IntKind.i64 y2, Value.int IntKind.i64 y3, Value.int IntKind.i64 y4, Value.int IntKind.i64 y5] 40) := ⟨_, rfl⟩
  have hc : ∀ j, j < 48 → F.cell? ⟨w5.heap.size, j, none⟩ = some (.int .i64 (L.getD j 0)) := by
    intro j hj
    rw [hF, World.cell?_alloc_at _ _ _ _ rfl]
    rw [show (#[Value.int IntKind.i64 x0, Value.int IntKind.i64 x1, Value.int IntKind.i64 x2, Value.int IntKind.i64 x3, Value.int IntKind.i64 x4, Value.int IntKind.i64 x5, Value.int IntKind.i64 y0, Value.int IntKind.i64 y1, Value.int IntKind.i64 y2, Value.int IntKind.i64 y3, Value.int IntKind.i64 y4, Value.int IntKind.i64 y5, Value.int IntKind.i64 m0, Value.int IntKind.i64 m1, Value.int IntKind.i64 m2, Value.int IntKind.i64 m3, Value.int IntKind.i64 m4, Value.int IntKind.i64 m5, Value.int IntKind.i64 m6, Value.int IntKind.i64 m7, Value.int IntKind.i64 m8, Value.int IntKind.i64 m9, Value.int IntKind.i64 m10, Value.int IntKind.i64 m11, Value.int IntKind.i64 m12, Value.int IntKind.i64 m13, Value.int IntKind.i64 m14, Value.int IntKind.i64 m15, Value.int IntKind.i64 m16, Value.int IntKind.i64 m17, Value.int IntKind.i64 m18, Value.int IntKind.i64 m19, Value.int IntKind.i64 m20, Value.int IntKind.i64 m21, Value.int IntKind.i64 m22, Value.int IntKind.i64 m23, Value.int IntKind.i64 m24, Value.int IntKind.i64 m25, Value.int IntKind.i64 m26, Value.int IntKind.i64 m27, Value.int IntKind.i64 m28, Value.int IntKind.i64 m29, Value.int IntKind.i64 y0, Value.int IntKind.i64 y1, Value.int IntKind.i64 y2, Value.int IntKind.i64 y3, Value.int IntKind.i64 y4, Value.int IntKind.i64 y5] : Array Value) = (L.map (fun a => Value.int IntKind.i64 a)).toArray by rw [hL]; rfl]
    have hl : j < L.length := by rw [hL]; simpa using hj
    simp [List.getD, hl]
  have hv : ∀ k, 6 ≤ k → k < 18 → spChk (L.getD (2 * k) 0, L.getD (2 * k + 1) 0) = 0 := by
    intro k h1 h2
    rcases (by omega : k = 6 ∨ k = 7 ∨ k = 8 ∨ k = 9 ∨ k = 10 ∨ k = 11 ∨ k = 12 ∨ k = 13 ∨ k = 14 ∨ k = 15 ∨ k = 16 ∨ k = 17) with rfl | rfl | rfl | rfl | rfl | rfl | rfl | rfl | rfl | rfl | rfl | rfl <;> rw [hL]
    · exact hv1.1
    · exact hv1.2.1
    · exact hv1.2.2
    · exact hv2.1
    · exact hv2.2.1
    · exact hv2.2.2
    · exact hv3.1
    · exact hv3.2.1
    · exact hv3.2.2
    · exact hv4.1
    · exact hv4.2.1
    · exact hv4.2.2
  have hFB : Hid (Below w.heap.size w F) := by have HB := hB.out; rw [hF]; unfold Hid; (repeat' (first | (with_reducible exact Below.refl _ _) | (with_reducible refine Below.setCell ?_ ?_ _) | (with_reducible refine Below.alloc ?_ ?_ _) | (with_reducible refine Below.drew ?_) | (with_reducible refine below_drewN ?_ _) | (with_reducible assumption) | (with_reducible refine Below.trans ?_ (Below.mono (by with_reducible assumption) ?_)) | omega | (simp; done) | (simp; omega) | (simp [World.setCell]; omega)))
  have hsF : w5.heap.size < F.heap.size := by rw [hF]; simp
  rw [← hF]
  clear hF hL
  refine bodyPost_ret (v := .slice (some ⟨w5.heap.size, 0, none⟩) 4 4) (by simp [results, Try.results11, go_sem]) rfl ⟨w5.heap.size, fun j => L.getD j 0, hv, hc, by omega, hsF, rfl, hFB.out⟩

end Go.Proofs.Ytpdaigenffecmaa
