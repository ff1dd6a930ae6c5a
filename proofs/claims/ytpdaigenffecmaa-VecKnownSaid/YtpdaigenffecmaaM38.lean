/-
  The statement VecKnown: its code answers true.
-/
import Derived.Test.YtpdaigenffecmaaM31
import Derived.Test.YtpdaigenffecmaaM33
import Derived.Test.YtpdaigenffecmaaM37
set_option linter.all false
namespace Go.Proofs.Ytpdaigenffecmaa
open Go.RowKit Go.Shelf

def kE0 : Ent := ⟨10, [], .v (.one (.bool true))⟩
theorem kP0 (ρ : Nat → Int) : EntOk Try.prog ρ kE0 := fun s w => c_works w
def kE1 : Ent := ⟨21, [Rw [-4503599627370496, 4503599627370496, -4503599627370496, 4503599627370496, -4503599627370496, 4503599627370496]], RE [-4503599627370496, 4503599627370496, -4503599627370496, 4503599627370496, -4503599627370496, 4503599627370496] 0⟩
theorem kP1 (ρ : Nat → Int) : EntOk Try.prog ρ kE1 := fun s w => by have h := c_vecNeg (-4503599627370496) (4503599627370496) (-4503599627370496) (4503599627370496) (-4503599627370496) (4503599627370496) w; rw [evk0] at h; exact h
def kE2 : Ent := ⟨13, [Rw [-4503599627370496, 4503599627370496, -4503599627370496, 4503599627370496, -4503599627370496, 4503599627370496], Rw [0, 0, 0, 0, 4294967296, 4294967296]], RE [0, 0, 0, 0, 0, 0] 6⟩
theorem kP2 (ρ : Nat → Int) : EntOk Try.prog ρ kE2 := fun s w => by have h := c_vecAdd (-4503599627370496) (4503599627370496) (-4503599627370496) (4503599627370496) (-4503599627370496) (4503599627370496) (0) (0) (0) (0) (4294967296) (4294967296) w; rw [evk1] at h; exact h
def kE3 : Ent := ⟨13, [Rw [-4503599627370496, 4503599627370496, -4503599627370496, 4503599627370496, -4503599627370496, 4503599627370496], Rw [0, 0, 0, 0, 1, 0]], RE [0, 0, 0, 0, 0, 0] 20⟩
theorem kP3 (ρ : Nat → Int) : EntOk Try.prog ρ kE3 := fun s w => by have h := c_vecAdd (-4503599627370496) (4503599627370496) (-4503599627370496) (4503599627370496) (-4503599627370496) (4503599627370496) (0) (0) (0) (0) (1) (0) w; rw [evk2] at h; exact h
def kE4 : Ent := ⟨21, [Rw [0, 0, 0, 0, 1, 0]], RE [0, 0, 0, 0, 0, 0] 20⟩
theorem kP4 (ρ : Nat → Int) : EntOk Try.prog ρ kE4 := fun s w => by have h := c_vecNeg (0) (0) (0) (0) (1) (0) w; rw [evk3] at h; exact h
def kE5 : Ent := ⟨36, [Rw [-4503599627370496, 4503599627370496, -4503599627370496, 4503599627370496, -4503599627370496, 4503599627370496], Rw [1, 0]], RE [0, 0, 0, 0, 0, 0] 20⟩
theorem kP5 (ρ : Nat → Int) : EntOk Try.prog ρ kE5 := fun s w => by have h := c_vecScale (-4503599627370496) (4503599627370496) (-4503599627370496) (4503599627370496) (-4503599627370496) (4503599627370496) (1) (0) w; rw [evk4] at h; exact h
def kE6 : Ent := ⟨36, [Rw [-4503599627370496, 4503599627370496, -4503599627370496, 4503599627370496, -4503599627370496, 4503599627370496], Rw [0, 0]], RE [0, 0, 0, 0, 0, 0] 0⟩
theorem kP6 (ρ : Nat → Int) : EntOk Try.prog ρ kE6 := fun s w => by have h := c_vecScale (-4503599627370496) (4503599627370496) (-4503599627370496) (4503599627370496) (-4503599627370496) (4503599627370496) (0) (0) w; rw [evk5] at h; exact h
def kE7 : Ent := ⟨36, [Rw [-4503599627370496, 4503599627370496, -4503599627370496, 4503599627370496, -4503599627370496, 4503599627370496], Rw [8589934592, 8589934592]], RE [0, 0, 0, 0, 0, 0] 6⟩
theorem kP7 (ρ : Nat → Int) : EntOk Try.prog ρ kE7 := fun s w => by have h := c_vecScale (-4503599627370496) (4503599627370496) (-4503599627370496) (4503599627370496) (-4503599627370496) (4503599627370496) (8589934592) (8589934592) w; rw [evk6] at h; exact h
def kE8 : Ent := ⟨20, [Rw [4398046511104, 4398046511104, 4294967296, 4294967296, 0, 0]], RE [0, 0] 6⟩
theorem kP8 (ρ : Nat → Int) : EntOk Try.prog ρ kE8 := fun s w => by have h := c_vecNorm (4398046511104) (4398046511104) (4294967296) (4294967296) (0) (0) w; rw [evk7] at h; exact h
def kE9 : Ent := ⟨20, [Rw [0, 0, -4398046511104, -4398046511104, 0, 0]], RE [4398046511104, 4398046511104] 0⟩
theorem kP9 (ρ : Nat → Int) : EntOk Try.prog ρ kE9 := fun s w => by have h := c_vecNorm (0) (0) (-4398046511104) (-4398046511104) (0) (0) w; rw [evk8] at h; exact h
def kE10 : Ent := ⟨20, [Rw [0, 0, 0, 0, 1, 0]], RE [0, 0] 20⟩
theorem kP10 (ρ : Nat → Int) : EntOk Try.prog ρ kE10 := fun s w => by have h := c_vecNorm (0) (0) (0) (0) (1) (0) w; rw [evk9] at h; exact h
def kE11 : Ent := ⟨18, [Rw [0, 0, 0, 0, 1, 0], Rw [-4503599627370496, 4503599627370496, -4503599627370496, 4503599627370496, -4503599627370496, 4503599627370496]], RE [0, 0] 20⟩
theorem kP11 (ρ : Nat → Int) : EntOk Try.prog ρ kE11 := fun s w => by have h := c_vecDot (0) (0) (0) (0) (1) (0) (-4503599627370496) (4503599627370496) (-4503599627370496) (4503599627370496) (-4503599627370496) (4503599627370496) w; rw [evk10] at h; exact h
def kE12 : Ent := ⟨17, [Rw [0, 0, 0, 0, 8589934592000, 8589934592000]], RE [0, 0, 0, 0, 0, 0] 6⟩
theorem kP12 (ρ : Nat → Int) : EntOk Try.prog ρ kE12 := fun s w => by have h := c_vecUnit (0) (0) (0) (0) (8589934592000) (8589934592000) w; rw [evk11] at h; exact h
def kE13 : Ent := ⟨17, [Rw [-1, 1, 0, 0, 0, 0]], RE [0, 0, 0, 0, 0, 0] 7⟩
theorem kP13 (ρ : Nat → Int) : EntOk Try.prog ρ kE13 := fun s w => by have h := c_vecUnit (-1) (1) (0) (0) (0) (0) w; rw [evk12] at h; exact h
def kE14 : Ent := ⟨17, [Rw [0, 0, 0, 0, 1, 0]], RE [0, 0, 0, 0, 0, 0] 20⟩
theorem kP14 (ρ : Nat → Int) : EntOk Try.prog ρ kE14 := fun s w => by have h := c_vecUnit (0) (0) (0) (0) (1) (0) w; rw [evk13] at h; exact h
def kE15 : Ent := ⟨17, [Rw [21474836480, 21474836480, 0, 0, 0, 0]], RE [4294967296, 4294967296, 0, 0, 0, 0] 0⟩
theorem kP15 (ρ : Nat → Int) : EntOk Try.prog ρ kE15 := fun s w => by have h := c_vecUnit (21474836480) (21474836480) (0) (0) (0) (0) w; rw [evk14] at h; exact h
def kE16 : Ent := ⟨18, [Rw [-1, 1, -1, 1, 0, 0], Rw [4294967296, 4294967296, 4294967296, 4294967296, 0, 0]], RE [-2, 2] 0⟩
theorem kP16 (ρ : Nat → Int) : EntOk Try.prog ρ kE16 := fun s w => by have h := c_vecDot (-1) (1) (-1) (1) (0) (0) (4294967296) (4294967296) (4294967296) (4294967296) (0) (0) w; rw [evk15] at h; exact h
def kE17 : Ent := ⟨15, [Rw [4294967296, 4294967296, 8589934592, 8589934592, 12884901888, 12884901888], Rw [17179869184, 17179869184, 21474836480, 21474836480, 25769803776, 25769803776]], RE [-12884901888, -12884901888, 25769803776, 25769803776, -12884901888, -12884901888] 0⟩
theorem kP17 (ρ : Nat → Int) : EntOk Try.prog ρ kE17 := fun s w => by have h := c_vecCross (4294967296) (4294967296) (8589934592) (8589934592) (12884901888) (12884901888) (17179869184) (17179869184) (21474836480) (21474836480) (25769803776) (25769803776) w; rw [evk16] at h; exact h
def kE18 : Ent := ⟨15, [Rw [-4294967296, 4294967296, 0, 0, 0, 0], Rw [0, 0, 8589934592, 8589934592, 0, 0]], RE [0, 0, 0, 0, -8589934592, 8589934592] 0⟩
theorem kP18 (ρ : Nat → Int) : EntOk Try.prog ρ kE18 := fun s w => by have h := c_vecCross (-4294967296) (4294967296) (0) (0) (0) (0) (0) (0) (8589934592) (8589934592) (0) (0) w; rw [evk17] at h; exact h
def kE19 : Ent := ⟨32, [Rw [-4503599627370496, 4503599627370496, -4503599627370496, 4503599627370496, -4503599627370496, 4503599627370496]], N1 0⟩
theorem kP19 (ρ : Nat → Int) : EntOk Try.prog ρ kE19 := fun s w => by have h := c_vecCheck (-4503599627370496) (4503599627370496) (-4503599627370496) (4503599627370496) (-4503599627370496) (4503599627370496) w; rw [evc0] at h; exact h
def kE20 : Ent := ⟨32, [Rw [0, 0, 0, 0, 1, 0]], N1 20⟩
theorem kP20 (ρ : Nat → Int) : EntOk Try.prog ρ kE20 := fun s w => by have h := c_vecCheck (0) (0) (0) (0) (1) (0) w; rw [evc1] at h; exact h
def kE21 : Ent := ⟨32, [Rw [0, 4503599627370497, 0, 0, 0, 0]], N1 20⟩
theorem kP21 (ρ : Nat → Int) : EntOk Try.prog ρ kE21 := fun s w => by have h := c_vecCheck (0) (4503599627370497) (0) (0) (0) (0) w; rw [evc2] at h; exact h
def kE22 : Ent := ⟨32, [Rw [0, 0, 0, 0, 0, 4294967295]], N1 0⟩
theorem kP22 (ρ : Nat → Int) : EntOk Try.prog ρ kE22 := fun s w => by have h := c_vecCheck 0 0 0 0 0 4294967295 w; rw [show chk3 0 0 0 0 0 0 4294967295 3 = 0 from by kernel_rfl] at h; exact h
def kL : List Ent := [kE0, kE1, kE2, kE3, kE4, kE5, kE6, kE7, kE8, kE9, kE10, kE11, kE12, kE13, kE14, kE15, kE16, kE17, kE18, kE19, kE20, kE21, kE22]
theorem kL_ok (ρ : Nat → Int) : ∀ e ∈ kL, EntOk Try.prog ρ e := by
  intro e he
  simp only [kL, List.mem_cons, List.not_mem_nil, or_false] at he
  rcases he with rfl | rfl | rfl | rfl | rfl | rfl | rfl | rfl | rfl | rfl | rfl | rfl | rfl | rfl | rfl | rfl | rfl | rfl | rfl | rfl | rfl | rfl | rfl
  · exact kP0 ρ
  · exact kP1 ρ
  · exact kP2 ρ
  · exact kP3 ρ
  · exact kP4 ρ
  · exact kP5 ρ
  · exact kP6 ρ
  · exact kP7 ρ
  · exact kP8 ρ
  · exact kP9 ρ
  · exact kP10 ρ
  · exact kP11 ρ
  · exact kP12 ρ
  · exact kP13 ρ
  · exact kP14 ρ
  · exact kP15 ρ
  · exact kP16 ρ
  · exact kP17 ρ
  · exact kP18 ρ
  · exact kP19 ρ
  · exact kP20 ρ
  · exact kP21 ρ
  · exact kP22 ρ

set_option maxRecDepth 100000 in
theorem k_run : runA Try.prog (tab Try.prog {} [(23, 2), (25, 6)] kL []) 6 6 [] = some (.v (.one (.bool true))) := by kernel_rfl
theorem c_lawVecKnown (w : World) : Calls Try.prog 6 #[] w fun e w' => e = .returned (.bool true) ∧ Below w.heap.size w w' := by
  refine (calls_run (ρ := fun _ => 0) k_run ⟨by simp, by simp, by simp, by simp⟩ (by intro e he; simp only [List.mem_cons, List.not_mem_nil, or_false] at he; rcases he with rfl | rfl; exact eqOk_span; exact eqOk_vec) (kL_ok _) (by simp) rfl (fun _ => 0) w).mono ?_
  rintro e w' ⟨⟨s, he⟩, hb⟩
  exact ⟨he, hb⟩

end Go.Proofs.Ytpdaigenffecmaa
