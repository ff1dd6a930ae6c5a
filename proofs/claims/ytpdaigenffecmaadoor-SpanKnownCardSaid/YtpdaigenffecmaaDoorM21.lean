/-
  The statements' examples (layer 2), run by the executor. The statement SpanKnown: its code answers true.
-/
import Derived.Test.YtpdaigenffecmaaDoorM06
import Derived.Test.YtpdaigenffecmaaDoorM09
import Derived.Test.YtpdaigenffecmaaDoorM15
import Derived.Test.YtpdaigenffecmaaDoorM20
set_option linter.all false
namespace Go.Proofs.YtpdaigenffecmaaDoor
open Go.RowKit

theorem rtN_down {n r : Nat} (h1 : r * r ≤ n) (h2 : n < (r + 1) * (r + 1)) : rtN n false = r := by unfold rtN; simp [isq_unique _ _ h1 h2]
theorem rtN_up {n s : Nat} (h3 : n ≤ s * s) (h4 : s = 0 ∨ (s - 1) * (s - 1) < n) : rtN n true = s := by
  obtain ⟨k1, k2⟩ := isq_spec n
  unfold rtN
  by_cases hq : isq n * isq n = n
  · rw [if_neg (fun h => h.2 hq)]
    rcases Nat.lt_trichotomy (isq n) s with h | h | h
    · exfalso
      rcases h4 with h4 | h4
      · omega
      · have := Nat.mul_le_mul (show isq n ≤ s - 1 by omega) (show isq n ≤ s - 1 by omega); omega
    · omega
    · exfalso
      have := Nat.mul_lt_mul'' h h; omega
  · rw [if_pos ⟨rfl, hq⟩]
    rcases Nat.lt_trichotomy (isq n + 1) s with h | h | h
    · exfalso
      rcases h4 with h4 | h4
      · omega
      · have := Nat.mul_le_mul (show isq n + 1 ≤ s - 1 by omega) (show isq n + 1 ≤ s - 1 by omega); omega
    · exact h
    · exfalso
      have := Nat.mul_le_mul (show s ≤ isq n by omega) (show s ≤ isq n by omega); omega
theorem rt_of {a r n : Nat} {up : Bool} (hn : a * 4294967296 = n) (h : rtN n up = r) : rt (a : Int) up = (r : Int) := by
  unfold rt; rw [Int.toNat_natCast, hn, h]
theorem sqrt_lit (a b r s : Nat) (h1 : r * r ≤ a * 4294967296) (h2 : a * 4294967296 < (r + 1) * (r + 1)) (h3 : b * 4294967296 ≤ s * s) (h4 : s = 0 ∨ (s - 1) * (s - 1) < b * 4294967296) (hab : a ≤ b) (hb : b ≤ 4503599627370496) (hs : s ≤ 4503599627370496) :
    spSqrt ((a : Int), (b : Int)) = ((r : Int), (s : Int), 0) := by
  obtain ⟨n, hn⟩ : ∃ n, a * 4294967296 = n := ⟨_, rfl⟩
  obtain ⟨m, hm⟩ : ∃ m, b * 4294967296 = m := ⟨_, rfl⟩
  rw [hn] at h1 h2
  rw [hm] at h3 h4
  have f1 := rt_of hn (rtN_down h1 h2)
  have f2 := rt_of hm (rtN_up h3 h4)
  unfold spSqrt
  rw [if_pos (spChk_mk (by simp only; omega) (by simp only; omega) (by simp only; omega)), if_neg (by simp only; omega), f1, f2]
  unfold spTold; rw [if_neg (by omega)]
def kwE0 : Ent := ⟨30, [Rw [-4294967296, 8589934592], Rw [-12884901888, 17179869184]], RE [-25769803776, 34359738368] 0⟩
theorem kwP0 (ρ : Nat → Int) : EntOk Tryd.prog ρ kwE0 := fun s w => by have h := c_spanMul (-4294967296) (8589934592) (-12884901888) (17179869184) w; rw [show spMul (-4294967296, 8589934592) (-12884901888, 17179869184) = (-25769803776, 34359738368, 0) from by kernel_rfl] at h; exact h
def kwE1 : Ent := ⟨32, [Rw [-4294967296, 8589934592]], RE [0, 17179869184] 0⟩
theorem kwP1 (ρ : Nat → Int) : EntOk Tryd.prog ρ kwE1 := fun s w => by have h := c_spanSqr (-4294967296) (8589934592) w; rw [show spPow (-4294967296, 8589934592) 2 = (0, 17179869184, 0) from by kernel_rfl] at h; exact h
def kwE2 : Ent := ⟨34, [Rw [-8589934592, 4294967296], N1 (3)], RE [-34359738368, 4294967296] 0⟩
theorem kwP2 (ρ : Nat → Int) : EntOk Tryd.prog ρ kwE2 := fun s w => by have h := c_spanPow (-8589934592) (4294967296) (3) w; rw [show spPow (-8589934592, 4294967296) (3) = (-34359738368, 4294967296, 0) from by kernel_rfl] at h; exact h
def kwE3 : Ent := ⟨47, [Rw [4294967296, 8589934592], Rw [-17179869184, -8589934592]], RE [-4294967296, -1073741824] 0⟩
theorem kwP3 (ρ : Nat → Int) : EntOk Tryd.prog ρ kwE3 := fun s w => by have h := c_spanDiv (4294967296) (8589934592) (-17179869184) (-8589934592) w; rw [show spDiv (4294967296, 8589934592) (-17179869184, -8589934592) = (-4294967296, -1073741824, 0) from by kernel_rfl] at h; exact h
def kwE4 : Ent := ⟨47, [Rw [4294967296, 8589934592], Rw [0, 4294967296]], RE [0, 0] 7⟩
theorem kwP4 (ρ : Nat → Int) : EntOk Tryd.prog ρ kwE4 := fun s w => by have h := c_spanDiv (4294967296) (8589934592) (0) (4294967296) w; rw [show spDiv (4294967296, 8589934592) (0, 4294967296) = (0, 0, 7) from by kernel_rfl] at h; exact h
def kwE5 : Ent := ⟨61, [Rw [17179869184, 38654705664]], RE [8589934592, 12884901888] 0⟩
theorem kwP5 (ρ : Nat → Int) : EntOk Tryd.prog ρ kwE5 := fun s w => by have h := c_spanSqrt (17179869184) (38654705664) w; rw [show spSqrt (17179869184, 38654705664) = (8589934592, 12884901888, 0) from sqrt_lit 17179869184 38654705664 8589934592 12884901888 (by decide) (by decide) (by decide) (by decide) (by decide) (by decide) (by decide)] at h; exact h
def kwE6 : Ent := ⟨30, [Rw [4503599627370496, 4503599627370496], Rw [-4294967296, 8589934592]], RE [0, 0] 6⟩
theorem kwP6 (ρ : Nat → Int) : EntOk Tryd.prog ρ kwE6 := fun s w => by have h := c_spanMul (4503599627370496) (4503599627370496) (-4294967296) (8589934592) w; rw [show spMul (4503599627370496, 4503599627370496) (-4294967296, 8589934592) = (0, 0, 6) from by kernel_rfl] at h; exact h
def kwE7 : Ent := ⟨34, [Rw [4294967296, 8589934592], N1 (17)], RE [0, 0] 2⟩
theorem kwP7 (ρ : Nat → Int) : EntOk Tryd.prog ρ kwE7 := fun s w => by have h := c_spanPow (4294967296) (8589934592) (17) w; rw [show spPow (4294967296, 8589934592) (17) = (0, 0, 2) from by kernel_rfl] at h; exact h
def kwL : List Ent := [kwE0, kwE1, kwE2, kwE3, kwE4, kwE5, kwE6, kwE7]
theorem kwL_ok (ρ : Nat → Int) : ∀ e ∈ kwL, EntOk Tryd.prog ρ e := by
  intro e he
  simp only [kwL, List.mem_cons, List.not_mem_nil, or_false] at he
  rcases he with rfl | rfl | rfl | rfl | rfl | rfl | rfl | rfl
  · exact kwP0 ρ
  · exact kwP1 ρ
  · exact kwP2 ρ
  · exact kwP3 ρ
  · exact kwP4 ρ
  · exact kwP5 ρ
  · exact kwP6 ρ
  · exact kwP7 ρ

set_option maxRecDepth 100000 in
theorem kw_run : runM Tryd.prog (tab Tryd.prog {} [(23, 2)] kwL []) 8 pwM 12 [] = some (.v (.one (.bool true))) := by kernel_rfl
theorem c_works2 (w : World) (hp : Pow10 w) : Calls Tryd.prog 12 #[] w fun e w' => e = .returned (.bool true) ∧ Below w.heap.size w w' := by
  refine (calls_runM (ρ := fun _ => 0) kw_run ⟨by simp, by simp, by simp, by simp⟩ (by intro e he; simp only [List.mem_cons, List.not_mem_nil, or_false] at he; subst he; exact eqOk_span) (fun e he s w _ => kwL_ok _ e he s w) (by simp) rfl (pw_rel _ hp)).mono ?_
  rintro e w' ⟨⟨s, he⟩, hb⟩
  exact ⟨he, hb⟩

end Go.Proofs.YtpdaigenffecmaaDoor

namespace Go.Proofs.YtpdaigenffecmaaDoor
open Go.RowKit

def kzE0 : Ent := ⟨30, [Rw [-1, 1], Rw [4294967296, 4294967296]], RE [-1, 1] 0⟩
theorem kzP0 (ρ : Nat → Int) : EntOk Tryd.prog ρ kzE0 := fun s w => by have h := c_spanMul (-1) (1) (4294967296) (4294967296) w; rw [show spMul (-1, 1) (4294967296, 4294967296) = (-1, 1, 0) from by kernel_rfl] at h; exact h
def kzE1 : Ent := ⟨30, [Rw [1, 1], Rw [1, 1]], RE [0, 1] 0⟩
theorem kzP1 (ρ : Nat → Int) : EntOk Tryd.prog ρ kzE1 := fun s w => by have h := c_spanMul (1) (1) (1) (1) w; rw [show spMul (1, 1) (1, 1) = (0, 1, 0) from by kernel_rfl] at h; exact h
def kzE2 : Ent := ⟨32, [Rw [-1, 1]], RE [0, 1] 0⟩
theorem kzP2 (ρ : Nat → Int) : EntOk Tryd.prog ρ kzE2 := fun s w => by have h := c_spanSqr (-1) (1) w; rw [show spPow (-1, 1) 2 = (0, 1, 0) from by kernel_rfl] at h; exact h
def kzE3 : Ent := ⟨32, [Rw [-4398046511104, 4294967296]], RE [0, 4503599627370496] 0⟩
theorem kzP3 (ρ : Nat → Int) : EntOk Tryd.prog ρ kzE3 := fun s w => by have h := c_spanSqr (-4398046511104) (4294967296) w; rw [show spPow (-4398046511104, 4294967296) 2 = (0, 4503599627370496, 0) from by kernel_rfl] at h; exact h
def kzE4 : Ent := ⟨32, [Rw [-4402341478400, 4294967296]], RE [0, 0] 6⟩
theorem kzP4 (ρ : Nat → Int) : EntOk Tryd.prog ρ kzE4 := fun s w => by have h := c_spanSqr (-4402341478400) (4294967296) w; rw [show spPow (-4402341478400, 4294967296) 2 = (0, 0, 6) from by kernel_rfl] at h; exact h
def kzE5 : Ent := ⟨34, [Rw [-1, 1], N1 (3)], RE [-1, 1] 0⟩
theorem kzP5 (ρ : Nat → Int) : EntOk Tryd.prog ρ kzE5 := fun s w => by have h := c_spanPow (-1) (1) (3) w; rw [show spPow (-1, 1) (3) = (-1, 1, 0) from by kernel_rfl] at h; exact h
def kzE6 : Ent := ⟨34, [Rw [4294967296, 8589934592], N1 (16)], RE [4294967296, 281474976710656] 0⟩
theorem kzP6 (ρ : Nat → Int) : EntOk Tryd.prog ρ kzE6 := fun s w => by have h := c_spanPow (4294967296) (8589934592) (16) w; rw [show spPow (4294967296, 8589934592) (16) = (4294967296, 281474976710656, 0) from by kernel_rfl] at h; exact h
def kzE7 : Ent := ⟨34, [Rw [4294967296, 12884901888], N1 (16)], RE [0, 0] 6⟩
theorem kzP7 (ρ : Nat → Int) : EntOk Tryd.prog ρ kzE7 := fun s w => by have h := c_spanPow (4294967296) (12884901888) (16) w; rw [show spPow (4294967296, 12884901888) (16) = (0, 0, 6) from by kernel_rfl] at h; exact h
def kzE8 : Ent := ⟨34, [Rw [-4503599627370496, 4503599627370496], N1 (0)], RE [4294967296, 4294967296] 0⟩
theorem kzP8 (ρ : Nat → Int) : EntOk Tryd.prog ρ kzE8 := fun s w => by have h := c_spanPow (-4503599627370496) (4503599627370496) (0) w; rw [show spPow (-4503599627370496, 4503599627370496) (0) = (4294967296, 4294967296, 0) from by kernel_rfl] at h; exact h
def kzE9 : Ent := ⟨34, [Rw [-4503599627370496, 4503599627370496], N1 (-1)], RE [0, 0] 2⟩
theorem kzP9 (ρ : Nat → Int) : EntOk Tryd.prog ρ kzE9 := fun s w => by have h := c_spanPow (-4503599627370496) (4503599627370496) (-1) w; rw [show spPow (-4503599627370496, 4503599627370496) (-1) = (0, 0, 2) from by kernel_rfl] at h; exact h
def kzE10 : Ent := ⟨34, [Rw [1, 0], N1 (-1)], RE [0, 0] 20⟩
theorem kzP10 (ρ : Nat → Int) : EntOk Tryd.prog ρ kzE10 := fun s w => by have h := c_spanPow (1) (0) (-1) w; rw [show spPow (1, 0) (-1) = (0, 0, 20) from by kernel_rfl] at h; exact h
def kzE11 : Ent := ⟨34, [Rw [-4503599627370496, 4503599627370496], N1 (1)], RE [-4503599627370496, 4503599627370496] 0⟩
theorem kzP11 (ρ : Nat → Int) : EntOk Tryd.prog ρ kzE11 := fun s w => by have h := c_spanPow (-4503599627370496) (4503599627370496) (1) w; rw [show spPow (-4503599627370496, 4503599627370496) (1) = (-4503599627370496, 4503599627370496, 0) from by kernel_rfl] at h; exact h
def kzE12 : Ent := ⟨34, [Rw [-2147483648, 1073741824], N1 (1)], RE [-2147483648, 1073741824] 0⟩
theorem kzP12 (ρ : Nat → Int) : EntOk Tryd.prog ρ kzE12 := fun s w => by have h := c_spanPow (-2147483648) (1073741824) (1) w; rw [show spPow (-2147483648, 1073741824) (1) = (-2147483648, 1073741824, 0) from by kernel_rfl] at h; exact h
def kzE13 : Ent := ⟨47, [Rw [1, 0], Rw [0, 4294967296]], RE [0, 0] 20⟩
theorem kzP13 (ρ : Nat → Int) : EntOk Tryd.prog ρ kzE13 := fun s w => by have h := c_spanDiv (1) (0) (0) (4294967296) w; rw [show spDiv (1, 0) (0, 4294967296) = (0, 0, 20) from by kernel_rfl] at h; exact h
def kzE14 : Ent := ⟨47, [Rw [4294967296, 4294967296], Rw [0, 0]], RE [0, 0] 7⟩
theorem kzP14 (ρ : Nat → Int) : EntOk Tryd.prog ρ kzE14 := fun s w => by have h := c_spanDiv (4294967296) (4294967296) (0) (0) w; rw [show spDiv (4294967296, 4294967296) (0, 0) = (0, 0, 7) from by kernel_rfl] at h; exact h
def kzE15 : Ent := ⟨47, [Rw [4294967296, 4294967296], Rw [-4503599627370496, 4503599627370496]], RE [0, 0] 7⟩
theorem kzP15 (ρ : Nat → Int) : EntOk Tryd.prog ρ kzE15 := fun s w => by have h := c_spanDiv (4294967296) (4294967296) (-4503599627370496) (4503599627370496) w; rw [show spDiv (4294967296, 4294967296) (-4503599627370496, 4503599627370496) = (0, 0, 7) from by kernel_rfl] at h; exact h
def kzE16 : Ent := ⟨47, [Rw [4294967296, 4294967296], Rw [1, 2]], RE [0, 0] 6⟩
theorem kzP16 (ρ : Nat → Int) : EntOk Tryd.prog ρ kzE16 := fun s w => by have h := c_spanDiv (4294967296) (4294967296) (1) (2) w; rw [show spDiv (4294967296, 4294967296) (1, 2) = (0, 0, 6) from by kernel_rfl] at h; exact h
def kzE17 : Ent := ⟨61, [Rw [-1, 0]], RE [0, 0] 2⟩
theorem kzP17 (ρ : Nat → Int) : EntOk Tryd.prog ρ kzE17 := fun s w => by have h := c_spanSqrt (-1) (0) w; rw [show spSqrt (-1, 0) = (0, 0, 2) from by kernel_rfl] at h; exact h
def kzE18 : Ent := ⟨61, [Rw [0, 0]], RE [0, 0] 0⟩
theorem kzP18 (ρ : Nat → Int) : EntOk Tryd.prog ρ kzE18 := fun s w => by have h := c_spanSqrt (0) (0) w; rw [show spSqrt (0, 0) = (0, 0, 0) from sqrt_lit 0 0 0 0 (by decide) (by decide) (by decide) (by decide) (by decide) (by decide) (by decide)] at h; exact h
def kzE19 : Ent := ⟨61, [Rw [0, 4503599627370496]], RE [0, 4398046511104] 0⟩
theorem kzP19 (ρ : Nat → Int) : EntOk Tryd.prog ρ kzE19 := fun s w => by have h := c_spanSqrt (0) (4503599627370496) w; rw [show spSqrt (0, 4503599627370496) = (0, 4398046511104, 0) from sqrt_lit 0 4503599627370496 0 4398046511104 (by decide) (by decide) (by decide) (by decide) (by decide) (by decide) (by decide)] at h; exact h
def kzL : List Ent := [kzE0, kzE1, kzE2, kzE3, kzE4, kzE5, kzE6, kzE7, kzE8, kzE9, kzE10, kzE11, kzE12, kzE13, kzE14, kzE15, kzE16, kzE17, kzE18, kzE19]
theorem kzL_ok (ρ : Nat → Int) : ∀ e ∈ kzL, EntOk Tryd.prog ρ e := by
  intro e he
  simp only [kzL, List.mem_cons, List.not_mem_nil, or_false] at he
  rcases he with rfl | rfl | rfl | rfl | rfl | rfl | rfl | rfl | rfl | rfl | rfl | rfl | rfl | rfl | rfl | rfl | rfl | rfl | rfl | rfl
  · exact kzP0 ρ
  · exact kzP1 ρ
  · exact kzP2 ρ
  · exact kzP3 ρ
  · exact kzP4 ρ
  · exact kzP5 ρ
  · exact kzP6 ρ
  · exact kzP7 ρ
  · exact kzP8 ρ
  · exact kzP9 ρ
  · exact kzP10 ρ
  · exact kzP11 ρ
  · exact kzP12 ρ
  · exact kzP13 ρ
  · exact kzP14 ρ
  · exact kzP15 ρ
  · exact kzP16 ρ
  · exact kzP17 ρ
  · exact kzP18 ρ
  · exact kzP19 ρ
def wkE : Ent := ⟨12, [], .v (.one (.bool true))⟩
theorem wkE_ok (ρ : Nat → Int) {w0 : World} (hp : Pow10 w0) : EntOkB Tryd.prog ρ w0.heap.size w0 wkE := fun s w hb => c_works2 w (hp.below hb)

set_option maxRecDepth 100000 in
theorem kz_run : runM Tryd.prog (tab Tryd.prog {} [(23, 2)] (wkE :: kzL) []) 8 pwM 11 [] = some (.v (.one (.bool true))) := by kernel_rfl
theorem c_lawSpanKnown (w : World) (hp : Pow10 w) : Calls Tryd.prog 11 #[] w fun e w' => e = .returned (.bool true) ∧ Below w.heap.size w w' := by
  refine (calls_runM (ρ := fun _ => 0) kz_run ⟨by simp, by simp, by simp, by simp⟩ (by intro e he; simp only [List.mem_cons, List.not_mem_nil, or_false] at he; subst he; exact eqOk_span) (by intro e he; rcases List.mem_cons.1 he with rfl | he; exact wkE_ok _ hp; exact fun s w _ => kzL_ok _ e he s w) (by simp) rfl (pw_rel _ hp)).mono ?_
  rintro e w' ⟨⟨s, he⟩, hb⟩
  exact ⟨he, hb⟩

end Go.Proofs.YtpdaigenffecmaaDoor
