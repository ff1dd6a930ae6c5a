/-
  The statements' examples (layer 2), run by the executor. The statement SpanKnown: its code answers true. Drafts of intervals and vectors. Drafts of intervals: what they answer, written out. Plain: the reference's fixed-point numbers and the program's answer alike. Plain: the reference's results of intervals. Plain: long division bit by bit. The walks of the reference's fixed-point numbers, the first part: Right, size, put, Mul. The walks of the reference's fixed-point numbers, the second part: over, Div. The walks of the reference's fixed-point numbers, the third part: Div, Sqrt. The walk of the reference's Sqrt.
-/
import Derived.Test.YtpdaigenffecmaaDoorM06
import Derived.Test.YtpdaigenffecmaaDoorM09
import Derived.Test.YtpdaigenffecmaaDoorM15
import Derived.Test.YtpdaigenffecmaaDoorM20
set_option linter.all false
namespace Go.Proofs.YtpdaigenffecmaaDoor
open Go.RowKit

theorem rtN_down {n r : Nat} (h1 : r * r ≤ n) (h2 : n < (r + 1) * (r + 1)) : rtN n false = r := by unfold rtN; simp [isq_unique _ _ h1 h2]
theorem rtN_up {n s : Nat} (h3 : n ≤ s * s) (h4 : s = 0 ∨ (s - 1) * (s - 1) < n) : rtN n true = s := by
  obtain ⟨k1, k2⟩ := isq_spec n
  unfold rtN
  by_cases hq : isq n * isq n = n
  · rw [if_neg (fun h => h.2 hq)]
    rcases Nat.lt_trichotomy (isq n) s with h | h | h
    · exfalso
      rcases h4 with h4 | h4
      · omega
      · have := Nat.mul_le_mul (show isq n ≤ s - 1 by omega) (show isq n ≤ s - 1 by omega); omega
    · omega
    · exfalso
      have := Nat.mul_lt_mul'' h h; omega
  · rw [if_pos ⟨rfl, hq⟩]
    rcases Nat.lt_trichotomy (isq n + 1) s with h | h | h
    · exfalso
      rcases h4 with h4 | h4
      · omega
      · have := Nat.mul_le_mul (show isq n + 1 ≤ s - 1 by omega) (show isq n + 1 ≤ s - 1 by omega); omega
    · exact h
    · exfalso
      have := Nat.mul_le_mul (show s ≤ isq n by omega) (show s ≤ isq n by omega); omega
theorem rt_of {a r n : Nat} {up : Bool} (hn : a * 4294967296 = n) (h : rtN n up = r) : rt (a : Int) up = (r : Int) := by
  unfold rt; rw [Int.toNat_natCast, hn, h]
theorem sqrt_lit (a b r s : Nat) (h1 : r * r ≤ a * 4294967296) (h2 : a * 4294967296 < (r + 1) * (r + 1)) (h3 : b * 4294967296 ≤ s * s) (h4 : s = 0 ∨ (s - 1) * (s - 1) < b * 4294967296) (hab : a ≤ b) (hb : b ≤ 4503599627370496) (hs : s ≤ 4503599627370496) :
    spSqrt ((a : Int), (b : Int)) = ((r : Int), (s : Int), 0) := by
  obtain ⟨n, hn⟩ : ∃ n, a * 4294967296 = n := ⟨_, rfl⟩
  obtain ⟨m, hm⟩ : ∃ m, b * 4294967296 = m := ⟨_, rfl⟩
  rw [hn] at h1 h2
  rw [hm] at h3 h4
  have f1 := rt_of hn (rtN_down h1 h2)
  have f2 := rt_of hm (rtN_up h3 h4)
  unfold spSqrt
  rw [if_pos (spChk_mk (by simp only; omega) (by simp only; omega) (by simp only; omega)), if_neg (by simp only; omega), f1, f2]
  unfold spTold; rw [if_neg (by omega)]
def kwE0 : Ent := ⟨30, [Rw [-4294967296, 8589934592], Rw [-12884901888, 17179869184]], RE [-25769803776, 34359738368] 0⟩
theorem kwP0 (ρ : Nat → Int) : EntOk Tryd.prog ρ kwE0 := fun s w => by have h := c_spanMul (-4294967296) (8589934592) (-12884901888) (17179869184) w; rw [show spMul (-4294967296, 8589934592) (-12884901888, 17179869184) = (-25769803776, 34359738368, 0) from by kernel_rfl] at h; exact h
def kwE1 : Ent := ⟨32, [Rw [-4294967296, 8589934592]], RE [0, 17179869184] 0⟩
theorem kwP1 (ρ : Nat → Int) : EntOk Tryd.prog ρ kwE1 := fun s w => by have h := c_spanSqr (-4294967296) (8589934592) w; rw [show spPow (-4294967296, 8589934592) 2 = (0, 17179869184, 0) from by kernel_rfl] at h; exact h
def kwE2 : Ent := ⟨34, [Rw [-8589934592, 4294967296], N1 (3)], RE [-34359738368, 4294967296] 0⟩
theorem kwP2 (ρ : Nat → Int) : EntOk Tryd.prog ρ kwE2 := fun s w => by have h := c_spanPow (-8589934592) (4294967296) (3) w; rw [show spPow (-8589934592, 4294967296) (3) = (-34359738368, 4294967296, 0) from by kernel_rfl] at h; exact h
def kwE3 : Ent := ⟨47, [Rw [4294967296, 8589934592], Rw [-17179869184, -8589934592]], RE [-4294967296, -1073741824] 0⟩
theorem kwP3 (ρ : Nat → Int) : EntOk Tryd.prog ρ kwE3 := fun s w => by have h := c_spanDiv (4294967296) (8589934592) (-17179869184) (-8589934592) w; rw [show spDiv (4294967296, 8589934592) (-17179869184, -8589934592) = (-4294967296, -1073741824, 0) from by kernel_rfl] at h; exact h
def kwE4 : Ent := ⟨47, [Rw [4294967296, 8589934592], Rw [0, 4294967296]], RE [0, 0] 7⟩
theorem kwP4 (ρ : Nat → Int) : EntOk Tryd.prog ρ kwE4 := fun s w => by have h := c_spanDiv (4294967296) (8589934592) (0) (4294967296) w; rw [show spDiv (4294967296, 8589934592) (0, 4294967296) = (0, 0, 7) from by kernel_rfl] at h; exact h
def kwE5 : Ent := ⟨61, [Rw [17179869184, 38654705664]], RE [8589934592, 12884901888] 0⟩
theorem kwP5 (ρ : Nat → Int) : EntOk Tryd.prog ρ kwE5 := fun s w => by have h := c_spanSqrt (17179869184) (38654705664) w; rw [show spSqrt (17179869184, 38654705664) = (8589934592, 12884901888, 0) from sqrt_lit 17179869184 38654705664 8589934592 12884901888 (by decide) (by decide) (by decide) (by decide) (by decide) (by decide) (by decide)] at h; exact h
def kwE6 : Ent := ⟨30, [Rw [4503599627370496, 4503599627370496], Rw [-4294967296, 8589934592]], RE [0, 0] 6⟩
theorem kwP6 (ρ : Nat → Int) : EntOk Tryd.prog ρ kwE6 := fun s w => by have h := c_spanMul (4503599627370496) (4503599627370496) (-4294967296) (8589934592) w; rw [show spMul (4503599627370496, 4503599627370496) (-4294967296, 8589934592) = (0, 0, 6) from by kernel_rfl] at h; exact h
def kwE7 : Ent := ⟨34, [Rw [4294967296, 8589934592], N1 (17)], RE [0, 0] 2⟩
theorem kwP7 (ρ : Nat → Int) : EntOk Tryd.prog ρ kwE7 := fun s w => by have h := c_spanPow (4294967296) (8589934592) (17) w; rw [show spPow (4294967296, 8589934592) (17) = (0, 0, 2) from by kernel_rfl] at h; exact h
def kwL : List Ent := [kwE0, kwE1, kwE2, kwE3, kwE4, kwE5, kwE6, kwE7]
theorem kwL_ok (ρ : Nat → Int) : ∀ e ∈ kwL, EntOk Tryd.prog ρ e := by
  intro e he
  simp only [kwL, List.mem_cons, List.not_mem_nil, or_false] at he
  rcases he with rfl | rfl | rfl | rfl | rfl | rfl | rfl | rfl
  · exact kwP0 ρ
  · exact kwP1 ρ
  · exact kwP2 ρ
  · exact kwP3 ρ
  · exact kwP4 ρ
  · exact kwP5 ρ
  · exact kwP6 ρ
  · exact kwP7 ρ

set_option maxRecDepth 100000 in
theorem kw_run : runM Tryd.prog (tab Tryd.prog {} [(23, 2)] kwL []) 8 pwM 12 [] = some (.v (.one (.bool true))) := by kernel_rfl
theorem c_works2 (w : World) (hp : Pow10 w) : Calls Tryd.prog 12 #[] w fun e w' => e = .returned (.bool true) ∧ Below w.heap.size w w' := by
  refine (calls_runM (ρ := fun _ => 0) kw_run ⟨by simp, by simp, by simp, by simp⟩ (by intro e he; simp only [List.mem_cons, List.not_mem_nil, or_false] at he; subst he; exact eqOk_span) (fun e he s w _ => kwL_ok _ e he s w) (by simp) rfl (pw_rel _ hp)).mono ?_
  rintro e w' ⟨⟨s, he⟩, hb⟩
  exact ⟨he, hb⟩

end Go.Proofs.YtpdaigenffecmaaDoor

namespace Go.Proofs.YtpdaigenffecmaaDoor
open Go.RowKit

def kzE0 : Ent := ⟨30, [Rw [-1, 1], Rw [4294967296, 4294967296]], RE [-1, 1] 0⟩
theorem kzP0 (ρ : Nat → Int) : EntOk Tryd.prog ρ kzE0 := fun s w => by have h := c_spanMul (-1) (1) (4294967296) (4294967296) w; rw [show spMul (-1, 1) (4294967296, 4294967296) = (-1, 1, 0) from by kernel_rfl] at h; exact h
def kzE1 : Ent := ⟨30, [Rw [1, 1], Rw [1, 1]], RE [0, 1] 0⟩
theorem kzP1 (ρ : Nat → Int) : EntOk Tryd.prog ρ kzE1 := fun s w => by have h := c_spanMul (1) (1) (1) (1) w; rw [show spMul (1, 1) (1, 1) = (0, 1, 0) from by kernel_rfl] at h; exact h
def kzE2 : Ent := ⟨32, [Rw [-1, 1]], RE [0, 1] 0⟩
theorem kzP2 (ρ : Nat → Int) : EntOk Tryd.prog ρ kzE2 := fun s w => by have h := c_spanSqr (-1) (1) w; rw [show spPow (-1, 1) 2 = (0, 1, 0) from by kernel_rfl] at h; exact h
def kzE3 : Ent := ⟨32, [Rw [-4398046511104, 4294967296]], RE [0, 4503599627370496] 0⟩
theorem kzP3 (ρ : Nat → Int) : EntOk Tryd.prog ρ kzE3 := fun s w => by have h := c_spanSqr (-4398046511104) (4294967296) w; rw [show spPow (-4398046511104, 4294967296) 2 = (0, 4503599627370496, 0) from by kernel_rfl] at h; exact h
def kzE4 : Ent := ⟨32, [Rw [-4402341478400, 4294967296]], RE [0, 0] 6⟩
theorem kzP4 (ρ : Nat → Int) : EntOk Tryd.prog ρ kzE4 := fun s w => by have h := c_spanSqr (-4402341478400) (4294967296) w; rw [show spPow (-4402341478400, 4294967296) 2 = (0, 0, 6) from by kernel_rfl] at h; exact h
def kzE5 : Ent := ⟨34, [Rw [-1, 1], N1 (3)], RE [-1, 1] 0⟩
theorem kzP5 (ρ : Nat → Int) : EntOk Tryd.prog ρ kzE5 := fun s w => by have h := c_spanPow (-1) (1) (3) w; rw [show spPow (-1, 1) (3) = (-1, 1, 0) from by kernel_rfl] at h; exact h
def kzE6 : Ent := ⟨34, [Rw [4294967296, 8589934592], N1 (16)], RE [4294967296, 281474976710656] 0⟩
theorem kzP6 (ρ : Nat → Int) : EntOk Tryd.prog ρ kzE6 := fun s w => by have h := c_spanPow (4294967296) (8589934592) (16) w; rw [show spPow (4294967296, 8589934592) (16) = (4294967296, 281474976710656, 0) from by kernel_rfl] at h; exact h
def kzE7 : Ent := ⟨34, [Rw [4294967296, 12884901888], N1 (16)], RE [0, 0] 6⟩
theorem kzP7 (ρ : Nat → Int) : EntOk Tryd.prog ρ kzE7 := fun s w => by have h := c_spanPow (4294967296) (12884901888) (16) w; rw [show spPow (4294967296, 12884901888) (16) = (0, 0, 6) from by kernel_rfl] at h; exact h
def kzE8 : Ent := ⟨34, [Rw [-4503599627370496, 4503599627370496], N1 (0)], RE [4294967296, 4294967296] 0⟩
theorem kzP8 (ρ : Nat → Int) : EntOk Tryd.prog ρ kzE8 := fun s w => by have h := c_spanPow (-4503599627370496) (4503599627370496) (0) w; rw [show spPow (-4503599627370496, 4503599627370496) (0) = (4294967296, 4294967296, 0) from by kernel_rfl] at h; exact h
def kzE9 : Ent := ⟨34, [Rw [-4503599627370496, 4503599627370496], N1 (-1)], RE [0, 0] 2⟩
theorem kzP9 (ρ : Nat → Int) : EntOk Tryd.prog ρ kzE9 := fun s w => by have h := c_spanPow (-4503599627370496) (4503599627370496) (-1) w; rw [show spPow (-4503599627370496, 4503599627370496) (-1) = (0, 0, 2) from by kernel_rfl] at h; exact h
def kzE10 : Ent := ⟨34, [Rw [1, 0], N1 (-1)], RE [0, 0] 20⟩
theorem kzP10 (ρ : Nat → Int) : EntOk Tryd.prog ρ kzE10 := fun s w => by have h := c_spanPow (1) (0) (-1) w; rw [show spPow (1, 0) (-1) = (0, 0, 20) from by kernel_rfl] at h; exact h
def kzE11 : Ent := ⟨34, [Rw [-4503599627370496, 4503599627370496], N1 (1)], RE [-4503599627370496, 4503599627370496] 0⟩
theorem kzP11 (ρ : Nat → Int) : EntOk Tryd.prog ρ kzE11 := fun s w => by have h := c_spanPow (-4503599627370496) (4503599627370496) (1) w; rw [show spPow (-4503599627370496, 4503599627370496) (1) = (-4503599627370496, 4503599627370496, 0) from by kernel_rfl] at h; exact h
def kzE12 : Ent := ⟨34, [Rw [-2147483648, 1073741824], N1 (1)], RE [-2147483648, 1073741824] 0⟩
theorem kzP12 (ρ : Nat → Int) : EntOk Tryd.prog ρ kzE12 := fun s w => by have h := c_spanPow (-2147483648) (1073741824) (1) w; rw [show spPow (-2147483648, 1073741824) (1) = (-2147483648, 1073741824, 0) from by kernel_rfl] at h; exact h
def kzE13 : Ent := ⟨47, [Rw [1, 0], Rw [0, 4294967296]], RE [0, 0] 20⟩
theorem kzP13 (ρ : Nat → Int) : EntOk Tryd.prog ρ kzE13 := fun s w => by have h := c_spanDiv (1) (0) (0) (4294967296) w; rw [show spDiv (1, 0) (0, 4294967296) = (0, 0, 20) from by kernel_rfl] at h; exact h
def kzE14 : Ent := ⟨47, [Rw [4294967296, 4294967296], Rw [0, 0]], RE [0, 0] 7⟩
theorem kzP14 (ρ : Nat → Int) : EntOk Tryd.prog ρ kzE14 := fun s w => by have h := c_spanDiv (4294967296) (4294967296) (0) (0) w; rw [show spDiv (4294967296, 4294967296) (0, 0) = (0, 0, 7) from by kernel_rfl] at h; exact h
def kzE15 : Ent := ⟨47, [Rw [4294967296, 4294967296], Rw [-4503599627370496, 4503599627370496]], RE [0, 0] 7⟩
theorem kzP15 (ρ : Nat → Int) : EntOk Tryd.prog ρ kzE15 := fun s w => by have h := c_spanDiv (4294967296) (4294967296) (-4503599627370496) (4503599627370496) w; rw [show spDiv (4294967296, 4294967296) (-4503599627370496, 4503599627370496) = (0, 0, 7) from by kernel_rfl] at h; exact h
def kzE16 : Ent := ⟨47, [Rw [4294967296, 4294967296], Rw [1, 2]], RE [0, 0] 6⟩
theorem kzP16 (ρ : Nat → Int) : EntOk Tryd.prog ρ kzE16 := fun s w => by have h := c_spanDiv (4294967296) (4294967296) (1) (2) w; rw [show spDiv (4294967296, 4294967296) (1, 2) = (0, 0, 6) from by kernel_rfl] at h; exact h
def kzE17 : Ent := ⟨61, [Rw [-1, 0]], RE [0, 0] 2⟩
theorem kzP17 (ρ : Nat → Int) : EntOk Tryd.prog ρ kzE17 := fun s w => by have h := c_spanSqrt (-1) (0) w; rw [show spSqrt (-1, 0) = (0, 0, 2) from by kernel_rfl] at h; exact h
def kzE18 : Ent := ⟨61, [Rw [0, 0]], RE [0, 0] 0⟩
theorem kzP18 (ρ : Nat → Int) : EntOk Tryd.prog ρ kzE18 := fun s w => by have h := c_spanSqrt (0) (0) w; rw [show spSqrt (0, 0) = (0, 0, 0) from sqrt_lit 0 0 0 0 (by decide) (by decide) (by decide) (by decide) (by decide) (by decide) (by decide)] at h; exact h
def kzE19 : Ent := ⟨61, [Rw [0, 4503599627370496]], RE [0, 4398046511104] 0⟩
theorem kzP19 (ρ : Nat → Int) : EntOk Tryd.prog ρ kzE19 := fun s w => by have h := c_spanSqrt (0) (4503599627370496) w; rw [show spSqrt (0, 4503599627370496) = (0, 4398046511104, 0) from sqrt_lit 0 4503599627370496 0 4398046511104 (by decide) (by decide) (by decide) (by decide) (by decide) (by decide) (by decide)] at h; exact h
def kzL : List Ent := [kzE0, kzE1, kzE2, kzE3, kzE4, kzE5, kzE6, kzE7, kzE8, kzE9, kzE10, kzE11, kzE12, kzE13, kzE14, kzE15, kzE16, kzE17, kzE18, kzE19]
theorem kzL_ok (ρ : Nat → Int) : ∀ e ∈ kzL, EntOk Tryd.prog ρ e := by
  intro e he
  simp only [kzL, List.mem_cons, List.not_mem_nil, or_false] at he
  rcases he with rfl | rfl | rfl | rfl | rfl | rfl | rfl | rfl | rfl | rfl | rfl | rfl | rfl | rfl | rfl | rfl | rfl | rfl | rfl | rfl
  · exact kzP0 ρ
  · exact kzP1 ρ
  · exact kzP2 ρ
  · exact kzP3 ρ
  · exact kzP4 ρ
  · exact kzP5 ρ
  · exact kzP6 ρ
  · exact kzP7 ρ
  · exact kzP8 ρ
  · exact kzP9 ρ
  · exact kzP10 ρ
  · exact kzP11 ρ
  · exact kzP12 ρ
  · exact kzP13 ρ
  · exact kzP14 ρ
  · exact kzP15 ρ
  · exact kzP16 ρ
  · exact kzP17 ρ
  · exact kzP18 ρ
  · exact kzP19 ρ
def wkE : Ent := ⟨12, [], .v (.one (.bool true))⟩
theorem wkE_ok (ρ : Nat → Int) {w0 : World} (hp : Pow10 w0) : EntOkB Tryd.prog ρ w0.heap.size w0 wkE := fun s w hb => c_works2 w (hp.below hb)

set_option maxRecDepth 100000 in
theorem kz_run : runM Tryd.prog (tab Tryd.prog {} [(23, 2)] (wkE :: kzL) []) 8 pwM 11 [] = some (.v (.one (.bool true))) := by kernel_rfl
theorem c_lawSpanKnown (w : World) (hp : Pow10 w) : Calls Tryd.prog 11 #[] w fun e w' => e = .returned (.bool true) ∧ Below w.heap.size w w' := by
  refine (calls_runM (ρ := fun _ => 0) kz_run ⟨by simp, by simp, by simp, by simp⟩ (by intro e he; simp only [List.mem_cons, List.not_mem_nil, or_false] at he; subst he; exact eqOk_span) (by intro e he; rcases List.mem_cons.1 he with rfl | he; exact wkE_ok _ hp; exact fun s w _ => kzL_ok _ e he s w) (by simp) rfl (pw_rel _ hp)).mono ?_
  rintro e w' ⟨⟨s, he⟩, hb⟩
  exact ⟨he, hb⟩

end Go.Proofs.YtpdaigenffecmaaDoor

namespace Go.Proofs.YtpdaigenffecmaaDoor
open Go.RowKit Go.Shelf

theorem pow_bounds (n m : Nat) (h : n ≤ m) : (1 : Int) ≤ 2 ^ n ∧ (2 : Int) ^ n ≤ 2 ^ m := by
  have h1 : (1 : Nat) ≤ 2 ^ n := Nat.one_le_two_pow
  have h2 : 2 ^ n ≤ 2 ^ m := Nat.pow_le_pow_right (by decide) h
  constructor
  · exact_mod_cast h1
  · exact_mod_cast h2
theorem tmod_bounds (a P : Int) (h : 0 < P) : -P < a.tmod P ∧ a.tmod P < P := by
  have h1 := Int.tmod_lt_of_pos a h
  have h2 := Int.lt_tmod_of_pos a h
  exact ⟨h2, h1⟩
theorem w64_id {x : Int} (h1 : -9223372036854775808 ≤ x) (h2 : x ≤ 9223372036854775807) : wrap64 x = x := by unfold wrap64; omega
/-- The number 2 to a draft's exponent, and what the code makes of it. -/
theorem pow_code (b : Int) (k m : Nat) (M : Int) (hM : M = 2 ^ m) (hm : k ≤ m + 1) (hk : 0 < k) (hM2 : M ≤ 4611686018427387904) :
    ∃ P : Int, wrap64 (2 ^ (b % (k : Int)).toNat) = P ∧ wrap64 (P + 1) = P + 1 ∧ 1 ≤ P ∧ P ≤ M := by
  have hb : (b % (k : Int)).toNat ≤ m := by
    have := Int.emod_lt_of_pos b (show (0 : Int) < k by omega)
    omega
  obtain ⟨h1, h2⟩ := pow_bounds _ _ hb
  rw [← hM] at h2
  exact ⟨_, rfl, w64_id (by rw [w64_id (by omega) (by omega)]; omega) (by rw [w64_id (by omega) (by omega)]; omega), by rw [w64_id (by omega) (by omega)]; omega, by rw [w64_id (by omega) (by omega)]; omega⟩
theorem shr_code (wd : Int) (n : Nat) (hw : 0 ≤ wd ∧ wd ≤ 4294967295) : ∃ Q : Int, wrap64 (wd / 2 ^ n) = Q ∧ 0 ≤ Q ∧ Q ≤ 4294967295 := by
  have h0 : 0 ≤ wd / 2 ^ n := Int.ediv_nonneg hw.1 (by have := (pow_bounds n n (Nat.le_refl _)).1; omega)
  have h1 : wd / 2 ^ n ≤ wd := Int.ediv_le_self _ hw.1
  exact ⟨_, rfl, by rw [w64_id (by omega) (by omega)]; exact h0, by rw [w64_id (by omega) (by omega)]; omega⟩

/-- The ends of a small draft. -/
def SmallI (lo hi : Int) : Prop := -68719476736 ≤ lo ∧ lo ≤ 68719476736 ∧ lo ≤ hi ∧ hi ≤ lo + 4294967295
theorem SmallI.ok {lo hi : Int} (h : SmallI lo hi) : spChk (lo, hi) = 0 := by
  obtain ⟨h1, h2, h3, h4⟩ := h
  exact spChk_mk (by simp only; omega) (by simp only; omega) (by simp only; omega)

theorem c_dsmall (at_ b wd : Int) (hb : 0 ≤ b ∧ b ≤ 255) (hw : 0 ≤ wd ∧ wd ≤ 4294967295) (w : World) :
    Calls Tryd.prog 64 #[.agg #[.int .i64 at_, .int .u8 b, .int .u32 wd]] w fun e w' => ∃ lo hi, SmallI lo hi ∧ e = .returned (.agg #[.int .i64 lo, .int .i64 hi]) ∧ Below w.heap.size w w' := by
  obtain ⟨P, hp1, hp2, hp3, hp4⟩ := pow_code b 37 36 68719476736 (by decide) (by decide) (by decide) (by decide)
  obtain ⟨Q, hq1, hq2, hq3⟩ := shr_code wd (b % 32).toNat hw
  rw [show ((37 : Nat) : Int) = 37 from rfl] at hp1
  have ht := tmod_bounds at_ (P + 1) (by omega)
  obtain ⟨lo, hlo⟩ : ∃ lo, at_.tmod (P + 1) = lo := ⟨_, rfl⟩
  rw [hlo] at ht
  have hz : ¬ P + 1 = 0 := by omega
  have hs : wrap64 (lo + Q) = lo + Q := w64_id (by omega) (by omega)
  have HV : Hid (SmallI lo (lo + Q)) := by unfold Hid SmallI; omega
  clear ht hp3 hp4 hq2 hq3
  go_enter Tryd.func64, Tryd.ntmps64
  go_wp2_with (fail)
  refine bodyPost_ret (v := .agg #[.int .i64 lo, .int .i64 (lo + Q)]) (by simp [results, Tryd.results64, go_sem, *]) rfl ⟨lo, lo + Q, HV.out, rfl, by (repeat' (first | (with_reducible exact Below.refl _ _) | (with_reducible refine Below.setCell ?_ ?_ _) | (with_reducible refine Below.alloc ?_ ?_ _) | (with_reducible refine Below.drew ?_) | (with_reducible refine below_drewN ?_ _) | (with_reducible assumption) | (with_reducible refine Below.trans ?_ (Below.mono (by with_reducible assumption) ?_)) | omega | (simp; done) | (simp; omega) | (simp [World.setCell]; omega)))⟩

theorem c_dspan (at_ b wd : Int) (hb : 0 ≤ b ∧ b ≤ 255) (hw : 0 ≤ wd ∧ wd ≤ 4294967295) (w : World) :
    Calls Tryd.prog 13 #[.agg #[.int .i64 at_, .int .u8 b, .int .u32 wd]] w fun e w' => ∃ lo hi, spChk (lo, hi) = 0 ∧ e = .returned (.agg #[.int .i64 lo, .int .i64 hi]) ∧ Below w.heap.size w w' := by
  obtain ⟨P, hp1, hp2, hp3, hp4⟩ := pow_code b 52 51 2251799813685248 (by decide) (by decide) (by decide) (by decide)
  rw [show ((52 : Nat) : Int) = 52 from rfl] at hp1
  have ht := tmod_bounds at_ (P + 1) (by omega)
  obtain ⟨lo, hlo⟩ : ∃ lo, at_.tmod (P + 1) = lo := ⟨_, rfl⟩
  rw [hlo] at ht
  have hz : ¬ P + 1 = 0 := by omega
  have hq : wrap64 wd = wd := w64_id (by omega) (by omega)
  have hs : wrap64 (lo + wd) = lo + wd := w64_id (by omega) (by omega)
  have HV : Hid (spChk (lo, min (lo + wd) 4503599627370496) = 0) := by unfold Hid; exact spChk_mk (by simp only; omega) (by simp only; omega) (by simp only; omega)
  clear ht hp3 hp4
  go_enter Tryd.func13, Tryd.ntmps13
  go_wp2_with (fail)

  refine bodyPost_ret (v := .agg #[.int .i64 lo, .int .i64 (min (lo + wd) 4503599627370496)]) (by simp [results, Tryd.results13, go_sem, *]) rfl ⟨lo, _, HV.out, rfl, by (repeat' (first | (with_reducible exact Below.refl _ _) | (with_reducible refine Below.setCell ?_ ?_ _) | (with_reducible refine Below.alloc ?_ ?_ _) | (with_reducible refine Below.drew ?_) | (with_reducible refine below_drewN ?_ _) | (with_reducible assumption) | (with_reducible refine Below.trans ?_ (Below.mono (by with_reducible assumption) ?_)) | omega | (simp; done) | (simp; omega) | (simp [World.setCell]; omega)))⟩

end Go.Proofs.YtpdaigenffecmaaDoor

namespace Go.Proofs.YtpdaigenffecmaaDoor
open Go.RowKit Go.Shelf

/-- A draft's lower end. -/
def dLo (k a b : Int) : Int := a.tmod (wrap64 (2 ^ (b % k).toNat) + 1)
def dHi (a b wd : Int) : Int := min (dLo 52 a b + wd) 4503599627370496
def dHs (a b wd : Int) : Int := dLo 37 a b + wrap64 (wd / 2 ^ (b % 32).toNat)
theorem dsmall_valid (a b wd : Int) (hw : 0 ≤ wd ∧ wd ≤ 4294967295) : SmallI (dLo 37 a b) (dHs a b wd) := by
  obtain ⟨P, hp1, hp2, hp3, hp4⟩ := pow_code b 37 36 68719476736 (by decide) (by decide) (by decide) (by decide)
  obtain ⟨Q, hq1, hq2, hq3⟩ := shr_code wd (b % 32).toNat hw
  rw [show ((37 : Nat) : Int) = 37 from rfl] at hp1
  have ht := tmod_bounds a (P + 1) (by omega)
  unfold dHs dLo SmallI
  rw [hp1, hq1]
  omega
theorem dspan_valid (a b wd : Int) (hw : 0 ≤ wd ∧ wd ≤ 4294967295) : spChk (dLo 52 a b, dHi a b wd) = 0 := by
  obtain ⟨P, hp1, hp2, hp3, hp4⟩ := pow_code b 52 51 2251799813685248 (by decide) (by decide) (by decide) (by decide)
  rw [show ((52 : Nat) : Int) = 52 from rfl] at hp1
  have ht := tmod_bounds a (P + 1) (by omega)
  unfold dHi dLo
  rw [hp1]
  exact spChk_mk (by simp only; omega) (by simp only; omega) (by simp only; omega)

theorem c_dsmallD (at_ b wd : Int) (hb : 0 ≤ b ∧ b ≤ 255) (hw : 0 ≤ wd ∧ wd ≤ 4294967295) (w : World) :
    Calls Tryd.prog 64 #[.agg #[.int .i64 at_, .int .u8 b, .int .u32 wd]] w fun e w' => e = .returned (.agg #[.int .i64 (dLo 37 at_ b), .int .i64 (dHs at_ b wd)]) ∧ Below w.heap.size w w' := by
  obtain ⟨P, hp1, hp2, hp3, hp4⟩ := pow_code b 37 36 68719476736 (by decide) (by decide) (by decide) (by decide)
  obtain ⟨Q, hq1, hq2, hq3⟩ := shr_code wd (b % 32).toNat hw
  rw [show ((37 : Nat) : Int) = 37 from rfl] at hp1
  have ht := tmod_bounds at_ (P + 1) (by omega)
  obtain ⟨lo, hlo⟩ : ∃ lo, at_.tmod (P + 1) = lo := ⟨_, rfl⟩
  have e1 : dLo 37 at_ b = lo := by unfold dLo; rw [hp1, hlo]
  have e2 : dHs at_ b wd = lo + Q := by unfold dHs; rw [e1, hq1]
  rw [e1, e2]
  clear e1 e2
  rw [hlo] at ht
  have hz : ¬ P + 1 = 0 := by omega
  have hs : wrap64 (lo + Q) = lo + Q := w64_id (by omega) (by omega)
  clear ht hp3 hp4 hq2 hq3
  go_enter Tryd.func64, Tryd.ntmps64
  go_wp2_with (fail)
  refine bodyPost_ret (v := .agg #[.int .i64 lo, .int .i64 (lo + Q)]) (by simp [results, Tryd.results64, go_sem, *]) rfl ⟨rfl, by (repeat' (first | (with_reducible exact Below.refl _ _) | (with_reducible refine Below.setCell ?_ ?_ _) | (with_reducible refine Below.alloc ?_ ?_ _) | (with_reducible refine Below.drew ?_) | (with_reducible refine below_drewN ?_ _) | (with_reducible assumption) | (with_reducible refine Below.trans ?_ (Below.mono (by with_reducible assumption) ?_)) | omega | (simp; done) | (simp; omega) | (simp [World.setCell]; omega)))⟩

theorem c_dspanD (at_ b wd : Int) (hb : 0 ≤ b ∧ b ≤ 255) (hw : 0 ≤ wd ∧ wd ≤ 4294967295) (w : World) :
    Calls Tryd.prog 13 #[.agg #[.int .i64 at_, .int .u8 b, .int .u32 wd]] w fun e w' => e = .returned (.agg #[.int .i64 (dLo 52 at_ b), .int .i64 (dHi at_ b wd)]) ∧ Below w.heap.size w w' := by
  obtain ⟨P, hp1, hp2, hp3, hp4⟩ := pow_code b 52 51 2251799813685248 (by decide) (by decide) (by decide) (by decide)
  rw [show ((52 : Nat) : Int) = 52 from rfl] at hp1
  have ht := tmod_bounds at_ (P + 1) (by omega)
  obtain ⟨lo, hlo⟩ : ∃ lo, at_.tmod (P + 1) = lo := ⟨_, rfl⟩
  have e1 : dLo 52 at_ b = lo := by unfold dLo; rw [hp1, hlo]
  have e2 : dHi at_ b wd = min (lo + wd) 4503599627370496 := by unfold dHi; rw [e1]
  rw [e1, e2]
  clear e1 e2
  rw [hlo] at ht
  have hz : ¬ P + 1 = 0 := by omega
  have hq : wrap64 wd = wd := w64_id (by omega) (by omega)
  have hs : wrap64 (lo + wd) = lo + wd := w64_id (by omega) (by omega)
  clear ht hp3 hp4
  go_enter Tryd.func13, Tryd.ntmps13
  go_wp2_with (fail)
  refine bodyPost_ret (v := .agg #[.int .i64 lo, .int .i64 (min (lo + wd) 4503599627370496)]) (by simp [results, Tryd.results13, go_sem, *]) rfl ⟨rfl, by (repeat' (first | (with_reducible exact Below.refl _ _) | (with_reducible refine Below.setCell ?_ ?_ _) | (with_reducible refine Below.alloc ?_ ?_ _) | (with_reducible refine Below.drew ?_) | (with_reducible refine below_drewN ?_ _) | (with_reducible assumption) | (with_reducible refine Below.trans ?_ (Below.mono (by with_reducible assumption) ?_)) | omega | (simp; done) | (simp; omega) | (simp [World.setCell]; omega)))⟩

end Go.Proofs.YtpdaigenffecmaaDoor

namespace Go.Proofs.YtpdaigenffecmaaDoor

/-- A size with its sign, as the reference puts it. -/
def rput (neg : Bool) (n : Nat) (rest up : Bool) : Int × Bool :=
  let m := if rest && (up != neg) then n + 1 else n
  if 4503599627370496 < m then (0, false) else (if neg then -(m : Int) else m, true)

theorem rput_big (neg : Bool) (n : Nat) (rest up : Bool) (h : 4503599627370496 < n) : rput neg n rest up = (0, false) := by
  unfold rput; simp only; rw [if_pos]; split <;> omega

theorem rput_sgnd (neg up : Bool) (N d : Nat) :
    rput neg (N / d) (decide (0 < N % d)) up = ((sgnd neg (quoN N d (!(up == neg))).1 (quoN N d (!(up == neg))).2).1, decide ((sgnd neg (quoN N d (!(up == neg))).1 (quoN N d (!(up == neg))).2).2 = 0)) := by
  unfold rput sgnd quoN
  generalize N / d = q
  generalize N % d = r
  rcases Nat.lt_or_ge 4503599627370496 q with h | h
  · rw [if_pos h]
    have e : 4503599627370496 < (if (decide (0 < r) && (up != neg)) = true then q + 1 else q) := by split <;> omega
    simp only [if_pos e]
    rfl
  · rw [if_neg (show ¬ 4503599627370496 < q by omega)]
    rcases Nat.eq_zero_or_pos r with h0 | h0
    · subst h0
      have e : ¬ 4503599627370496 < q := by omega
      cases neg <;> cases up <;> simp [e]
    · rcases Nat.lt_or_ge q 4503599627370496 with e | e
      · have e1 : ¬ 4503599627370496 < q := by omega
        have e2 : ¬ 4503599627370496 < q + 1 := by omega
        cases neg <;> cases up <;> simp [h0, e1, e2]
      · have e1 : q = 4503599627370496 := by omega
        have h1 : (0 < r) = True := eq_true h0
        have h2 : decide (0 < r) = true := by simp [h0]
        subst e1
        cases neg <;> cases up <;> simp only [h1, h2, Bool.true_and, and_true, true_and] <;> decide

/-- The reference's product. -/
def rMul (a b : Int) (up : Bool) : Int × Bool := rput (!(decide (a < 0) == decide (b < 0))) (a.natAbs * b.natAbs / 4294967296) (decide (0 < a.natAbs * b.natAbs % 4294967296)) up
def rDiv (a b : Int) (up : Bool) : Int × Bool := rput (!(decide (a < 0) == decide (b < 0))) (a.natAbs * 4294967296 / b.natAbs) (decide (0 < a.natAbs * 4294967296 % b.natAbs)) up

theorem bnot_beq (up neg : Bool) : (!(up == !neg)) = (up == neg) := by cases up <;> cases neg <;> rfl

theorem rMul_eq (a b : Int) (up : Bool) (ha : fxChk a = 0) (hb : fxChk b = 0) : rMul a b up = ((fxMul a b up).1, decide ((fxMul a b up).2 = 0)) := by
  have h : fxAll a b = 0 := by unfold fxAll; rw [if_pos ha]; exact hb
  unfold rMul fxMul; rw [rput_sgnd, if_pos h, ← sgnd_mul]

theorem rDiv_eq (a b : Int) (up : Bool) (ha : fxChk a = 0) (hb : fxChk b = 0) (h0 : b ≠ 0) : rDiv a b up = ((fxDiv a b up).1, decide ((fxDiv a b up).2 = 0)) := by
  have h : fxAll a b = 0 := by unfold fxAll; rw [if_pos ha]; exact hb
  unfold rDiv fxDiv; rw [rput_sgnd, if_pos h, if_neg h0, ← sgnd_div a b up h0]

/-- x y / 2^32 from parts of 26 bits. -/
theorem parts_mul (x y : Nat) : x * y = (x / 67108864) * (y / 67108864) * 4503599627370496 + ((x / 67108864) * (y % 67108864) + (x % 67108864) * (y / 67108864)) * 67108864 + (x % 67108864) * (y % 67108864) := by
  have hx := Nat.div_add_mod x 67108864
  have hy := Nat.div_add_mod y 67108864
  generalize x / 67108864 = p at *
  generalize x % 67108864 = q at *
  generalize y / 67108864 = r at *
  generalize y % 67108864 = s at *
  subst hx; subst hy
  simp only [Nat.add_mul, Nat.mul_add]
  have e1 : 67108864 * p * (67108864 * r) = p * r * 4503599627370496 := by
    rw [show 67108864 * p * (67108864 * r) = (67108864 * 67108864) * (p * r) by ac_rfl, Nat.mul_comm]
  have e2 : q * (67108864 * r) = q * r * 67108864 := by ac_rfl
  have e3 : 67108864 * p * s = p * s * 67108864 := by ac_rfl
  omega

end Go.Proofs.YtpdaigenffecmaaDoor

namespace Go.Proofs.YtpdaigenffecmaaDoor

/-- A result of the reference; ErrBig if it is no interval. -/
def spRes (lo hi : Int) (fits : Bool) : Int × Int × Int := if fits = true ∧ spChk (lo, hi) = 0 then (lo, hi, 0) else (0, 0, 6)

theorem spRes_told (lo hi : Int) (h : lo ≤ hi) : spRes lo hi true = spTold lo hi := by
  unfold spRes spTold spChk
  by_cases e : lo < -4503599627370496 ∨ 4503599627370496 < hi
  · rw [if_pos e, if_neg]
    simp only
    rw [if_pos (by omega)]; simp
  · rw [if_neg e, if_pos]
    refine ⟨rfl, ?_⟩
    simp only
    rw [if_neg (by omega)]

theorem spChk_parts (a b : Int) : spChk (a, b) = 0 ↔ fxChk a = 0 ∧ fxChk b = 0 ∧ a ≤ b := by
  unfold spChk fxChk
  simp only
  constructor
  · intro h; split at h
    · omega
    · rw [if_neg (by omega), if_neg (by omega)]; omega
  · rintro ⟨h1, h2, h3⟩
    split at h1
    · omega
    · split at h2
      · omega
      · rw [if_neg (by omega)]

theorem spAdd_ok (a b : Int × Int) (ha : spChk a = 0) (hb : spChk b = 0) : spAdd a b = spRes (a.1 + b.1) (a.2 + b.2) true := by
  have h1 := spChk_ok ha
  have h2 := spChk_ok hb
  unfold spAdd; rw [if_pos (by unfold spAll; rw [if_pos ha]; exact hb), spRes_told _ _ (by omega)]
theorem spSub_ok (a b : Int × Int) (ha : spChk a = 0) (hb : spChk b = 0) : spSub a b = spRes (a.1 - b.2) (a.2 - b.1) true := by
  have h1 := spChk_ok ha
  have h2 := spChk_ok hb
  unfold spSub; rw [if_pos (by unfold spAll; rw [if_pos ha]; exact hb), spRes_told _ _ (by omega)]
theorem spAll_bad (a b : Int × Int) (h : spChk a ≠ 0 ∨ spChk b ≠ 0) : spAll a b = 20 := by
  rcases spAll_or a b with e | e
  · obtain ⟨e1, e2⟩ := spAll_ok e; omega
  · exact e
theorem spAdd_bad (a b : Int × Int) (h : spChk a ≠ 0 ∨ spChk b ≠ 0) : spAdd a b = (0, 0, 20) := by
  unfold spAdd; rw [if_neg (by rw [spAll_bad a b h]; decide)]
theorem spSub_bad (a b : Int × Int) (h : spChk a ≠ 0 ∨ spChk b ≠ 0) : spSub a b = (0, 0, 20) := by
  unfold spSub; rw [if_neg (by rw [spAll_bad a b h]; decide)]
theorem spMul_bad (a b : Int × Int) (h : spChk a ≠ 0 ∨ spChk b ≠ 0) : spMul a b = (0, 0, 20) := by
  unfold spMul; rw [if_neg (by rw [spAll_bad a b h]; decide)]
theorem spDiv_bad (a b : Int × Int) (h : spChk a ≠ 0 ∨ spChk b ≠ 0) : spDiv a b = (0, 0, 20) := by
  unfold spDiv; rw [if_neg (by rw [spAll_bad a b h]; decide)]
theorem spNeg_ok (a : Int × Int) (ha : spChk a = 0) : spNeg a = (-a.2, -a.1, 0) := by
  have h1 := spChk_ok ha
  unfold spNeg spTold; rw [if_pos ha, if_neg (by omega)]
theorem spNeg_bad (a : Int × Int) (h : spChk a ≠ 0) : spNeg a = (0, 0, 20) := by
  unfold spNeg; rw [if_neg h]
theorem spSqrt_bad (a : Int × Int) (h : spChk a ≠ 0) : spSqrt a = (0, 0, 20) := by
  unfold spSqrt; rw [if_neg h]
theorem spSqrt_arg (a : Int × Int) (h : spChk a = 0) (h0 : a.1 < 0) : spSqrt a = (0, 0, 2) := by
  unfold spSqrt; rw [if_pos h, if_pos h0]
theorem rt_le (a : Int) (up : Bool) (h0 : 0 ≤ a) (h : a ≤ 4503599627370496) : 0 ≤ rt a up ∧ rt a up ≤ 4398046511104 := by
  unfold rt
  have := rtN_small a.toNat up (by omega)
  omega
theorem spSqrt_ok (a : Int × Int) (h : spChk a = 0) (h0 : 0 ≤ a.1) : spSqrt a = (rt a.1 false, rt a.2 true, 0) := by
  have h1 := spChk_ok h
  have r1 := rt_le a.1 false h0 (by omega)
  have r2 := rt_le a.2 true (by omega) (by omega)
  unfold spSqrt spTold; rw [if_pos h, if_neg (by omega), if_neg (by omega)]

end Go.Proofs.YtpdaigenffecmaaDoor

namespace Go.Proofs.YtpdaigenffecmaaDoor

/-- a n / d and whether something is left, or that it is too great. -/
def ovS (a n d : Nat) : Nat × Bool × Bool := if 4503599627370496 < n * a / d then (0, false, false) else (n * a / d, decide (0 < n * a % d), true)

theorem ov0 (n d A : Nat) : (2 * (n * A / d)) * d + 2 * (n * A % d) = n * (2 * A) := by
  have h := Nat.div_add_mod (n * A) d
  rw [Nat.mul_left_comm n 2 A]
  rw [Nat.mul_assoc, Nat.mul_comm (n * A / d) d, ← Nat.mul_add, h]

theorem ov1 (n d A : Nat) : (2 * (n * A / d) + n / d) * d + (2 * (n * A % d) + n % d) = n * (2 * A + 1) := by
  have h := ov0 n d A
  have h2 := Nat.div_add_mod n d
  rw [Nat.add_mul, Nat.mul_add, Nat.mul_one]
  rw [Nat.mul_comm (n / d) d]
  omega

theorem ov_bound (n d A bit : Nat) (hd : 0 < d) (hb : bit ≤ 1) : n * (2 * A + bit) / d ≤ 2 * (n * A / d) + n / d + 3 := by
  refine Nat.le_of_lt_succ ((Nat.div_lt_iff_lt_mul hd).2 ?_)
  have h1 := Nat.div_add_mod (n * A) d
  have h2 := Nat.div_add_mod n d
  have h3 := Nat.mod_lt (n * A) hd
  have h4 := Nat.mod_lt n hd
  have e : n * (2 * A + bit) ≤ 2 * (n * A) + n := by
    rw [Nat.mul_add, Nat.mul_left_comm n 2 A]
    have : n * bit ≤ n * 1 := Nat.mul_le_mul_left n hb
    omega
  have e2 : (2 * (n * A / d) + n / d + 3).succ * d = 2 * (d * (n * A / d)) + d * (n / d) + 4 * d := by
    rw [Nat.succ_eq_add_one, Nat.add_mul, Nat.add_mul, Nat.add_mul, Nat.mul_assoc, Nat.mul_comm (n * A / d) d, Nat.mul_comm (n / d) d]; omega
  omega

theorem div_unique' {Q R d V : Nat} (h : Q * d + R = V) (hr : R < d) : V / d = Q ∧ V % d = R := by
  have := (Nat.div_mod_unique (a := V) (b := d) (c := R) (d := Q) (by omega)).2 ⟨by rw [Nat.add_comm, Nat.mul_comm]; exact h, hr⟩
  exact this

theorem le_div' {Q R d V : Nat} (hd : 0 < d) (h : Q * d + R = V) : Q ≤ V / d := (Nat.le_div_iff_mul_le hd).2 (by omega)

theorem half_bit (a j : Nat) : a / 2 ^ j = 2 * (a / 2 ^ (j + 1)) + a / 2 ^ j % 2 := by
  rw [Nat.pow_succ, ← Nat.div_div_eq_div_mul]; omega

theorem ov_mono (a n d j : Nat) : n * (a / 2 ^ j) / d ≤ n * a / d := Nat.div_le_div_right (Nat.mul_le_mul_left n (Nat.div_le_self _ _))

theorem ovS_big (a n d : Nat) (h : 4503599627370496 < n * a / d) : ovS a n d = (0, false, false) := by unfold ovS; rw [if_pos h]
theorem ovS_ok (a n d : Nat) (h : ¬ 4503599627370496 < n * a / d) : ovS a n d = (n * a / d, decide (0 < n * a % d), true) := by unfold ovS; rw [if_neg h]

/-- What is put together from a quotient. -/
def ovPut (neg up : Bool) (o : Nat × Bool × Bool) : Int × Bool := if o.2.2 then rput neg o.1 o.2.1 up else (0, false)

theorem ovPut_eq (neg up : Bool) (a n d : Nat) : ovPut neg up (ovS a n d) = rput neg (n * a / d) (decide (0 < n * a % d)) up := by
  by_cases h : 4503599627370496 < n * a / d
  · rw [ovS_big a n d h, rput_big _ _ _ _ h]; rfl
  · rw [ovS_ok a n d h]; rfl

theorem rDiv_ov (a b : Int) (up : Bool) (A : Nat) (hA : A = 4294967296) : rDiv a b up = ovPut (!(decide (a < 0) == decide (b < 0))) up (ovS A a.natAbs b.natAbs) := by
  rw [ovPut_eq, hA]; unfold rDiv; exact rfl

end Go.Proofs.YtpdaigenffecmaaDoor

namespace Go.Proofs.YtpdaigenffecmaaDoor
open Go.RowKit

theorem c_rRight (a : Int) (w : World) :
    Calls Tryd.prog 88 #[.int .i64 a] w fun e w' => e = .returned (.bool (decide (fxChk a = 0))) ∧ w' = w := by
  rcases Int.lt_or_le a (-4503599627370496) with h | h
  · have e : decide (fxChk a = 0) = false := by unfold fxChk; rw [if_pos (by omega)]; rfl
    have E := Lib.hid e; clear e
    have t : decide (-4503599627370496 ≤ a) = false := by simp; omega
    go_enter Tryd.func88, Tryd.ntmps88
    go_wp2
    go_ret
    exact ⟨by rw [E.out]; rfl, rfl⟩
  · have t : decide (-4503599627370496 ≤ a) = true := by simp; omega
    have e : decide (fxChk a = 0) = decide (a ≤ 4503599627370496) := by
      refine decide_eq_decide.2 ?_
      unfold fxChk; split <;> omega
    have E := Lib.hid e; clear e
    go_enter Tryd.func88, Tryd.ntmps88
    go_wp2
    go_ret
    exact ⟨by rw [E.out]; rfl, rfl⟩

theorem c_rsize (a : Int) (w : World) (h0 : -9223372036854775808 ≤ a) (h1 : a ≤ 9223372036854775807) :
    Calls Tryd.prog 98 #[.int .i64 a] w fun e w' => e = .returned (.int .u64 ((a.natAbs : Nat) : Int)) ∧ w' = w := by
  rcases Int.lt_or_le a 0 with h | h
  · have e : ((a.natAbs : Nat) : Int) = -(a + 1) + 1 := by omega
    have E := Lib.hid e; clear e
    go_enter Tryd.func98, Tryd.ntmps98
    go_wp2
    go_ret
    exact ⟨by rw [E.out]; rfl, rfl⟩
  · have e : ((a.natAbs : Nat) : Int) = a := by omega
    have E := Lib.hid e; clear e
    have t : ¬ a < 0 := by omega
    go_enter Tryd.func98, Tryd.ntmps98
    go_wp2
    go_ret
    exact ⟨by rw [E.out]; rfl, rfl⟩

theorem c_rput (neg rest up : Bool) (n : Nat) (w : World) (hn : n < 18446744073709551615) :
    Calls Tryd.prog 99 #[.bool neg, .int .u64 (n : Int), .bool rest, .bool up] w fun e w' => e = .returned (.tuple #[.int .i64 (rput neg n rest up).1, .bool (rput neg n rest up).2]) ∧ w' = w := by
  obtain ⟨m, hm⟩ : ∃ m, m = if rest && (up != neg) then n + 1 else n := ⟨_, rfl⟩
  have e : rput neg n rest up = if 4503599627370496 < m then (0, false) else (if neg then -(m : Int) else m, true) := by rw [hm]; rfl
  cases rest <;> cases up <;> cases neg
  all_goals simp only [Bool.false_and, Bool.true_and, Bool.false_eq_true, if_false, if_true, bne_self_eq_false, Bool.true_bne, Bool.false_bne, Bool.not_true, Bool.not_false] at hm e
  all_goals rw [hm] at e
  all_goals clear hm m
  all_goals first
    | (rcases Nat.lt_or_ge 4503599627370496 (n + 1) with h | h
       · rw [if_pos h] at e
         have t1 : decide ((4503599627370496 : Int) < (n : Int) + 1) = true := by (simp <;> omega)
         have t2 : (4503599627370496 : Int) < (n : Int) + 1 := by omega
         have E := Lib.hid e; clear e
         go_enter Tryd.func99, Tryd.ntmps99
         go_wp2
         go_ret2
         exact ⟨by rw [E.out]; rfl, rfl⟩
       · rw [if_neg (by omega)] at e
         have t1 : decide ((4503599627370496 : Int) < (n : Int) + 1) = false := by (simp <;> omega)
         have t2 : ¬ (4503599627370496 : Int) < (n : Int) + 1 := by omega
         have E := Lib.hid e; clear e
         go_enter Tryd.func99, Tryd.ntmps99
         go_wp2
         go_ret2
         exact ⟨by rw [E.out]; first | rfl | simp, rfl⟩)
    | (rcases Nat.lt_or_ge 4503599627370496 n with h | h
       · rw [if_pos h] at e
         have t1 : decide ((4503599627370496 : Int) < (n : Int)) = true := by (simp <;> omega)
         have t2 : (4503599627370496 : Int) < (n : Int) := by omega
         have E := Lib.hid e; clear e
         go_enter Tryd.func99, Tryd.ntmps99
         go_wp2
         go_ret2
         exact ⟨by rw [E.out]; rfl, rfl⟩
       · rw [if_neg (by omega)] at e
         have t1 : decide ((4503599627370496 : Int) < (n : Int)) = false := by (simp <;> omega)
         have t2 : ¬ (4503599627370496 : Int) < (n : Int) := by omega
         have E := Lib.hid e; clear e
         go_enter Tryd.func99, Tryd.ntmps99
         go_wp2
         go_ret2
         exact ⟨by rw [E.out]; first | rfl | simp, rfl⟩)

theorem c_rput' (neg rest up : Bool) (n : Nat) (N : Int) (R : Bool) (w : World) (hN : N = (n : Int)) (hR : R = rest) (hn : n < 18446744073709551615) :
    Calls Tryd.prog 99 #[.bool neg, .int .u64 N, .bool R, .bool up] w fun e w' => e = .returned (.tuple #[.int .i64 (rput neg n rest up).1, .bool (rput neg n rest up).2]) ∧ w' = w := by
  subst hN; subst hR; exact c_rput neg R up n w hn

set_option maxHeartbeats 1000000 in
theorem c_rMul (a b : Int) (up : Bool) (w : World) (ha : fxChk a = 0) (hb : fxChk b = 0) :
    Calls Tryd.prog 74 #[.int .i64 a, .int .i64 b, .bool up] w fun e w' => e = .returned (.tuple #[.int .i64 (rMul a b up).1, .bool (rMul a b up).2]) ∧ w' = w := by
  obtain ⟨a0, a1⟩ := fxChk_ok ha
  obtain ⟨b0, b1⟩ := fxChk_ok hb
  clear ha hb
  obtain ⟨x, hx⟩ : ∃ x, x = a.natAbs := ⟨_, rfl⟩
  obtain ⟨y, hy⟩ : ∃ y, y = b.natAbs := ⟨_, rfl⟩
  have hpq := parts_mul x y
  obtain ⟨xh, hxh⟩ : ∃ xh, xh = x / 67108864 := ⟨_, rfl⟩
  obtain ⟨xl, hxl⟩ : ∃ xl, xl = x % 67108864 := ⟨_, rfl⟩
  obtain ⟨yh, hyh⟩ : ∃ yh, yh = y / 67108864 := ⟨_, rfl⟩
  obtain ⟨yl, hyl⟩ : ∃ yl, yl = y % 67108864 := ⟨_, rfl⟩
  have q1 : xh * yh ≤ 67108864 * 67108864 := Nat.mul_le_mul (by omega) (by omega)
  have q2 : xh * yl ≤ 67108864 * 67108864 := Nat.mul_le_mul (by omega) (by omega)
  have q3 : xl * yh ≤ 67108864 * 67108864 := Nat.mul_le_mul (by omega) (by omega)
  have q4 : xl * yl ≤ 67108864 * 67108864 := Nat.mul_le_mul (by omega) (by omega)
  rw [← hxh, ← hxl, ← hyh, ← hyl] at hpq
  obtain ⟨H, hH⟩ : ∃ H, H = xh * yh := ⟨_, rfl⟩
  obtain ⟨M1, hM1⟩ : ∃ M1, M1 = xh * yl := ⟨_, rfl⟩
  obtain ⟨M2, hM2⟩ : ∃ M2, M2 = xl * yh := ⟨_, rfl⟩
  obtain ⟨L, hL⟩ : ∃ L, L = xl * yl := ⟨_, rfl⟩
  rw [← hH, ← hM1, ← hM2, ← hL] at hpq
  rw [← hH] at q1; rw [← hM1] at q2; rw [← hM2] at q3; rw [← hL] at q4
  have eR : rMul a b up = rput (!(decide (a < 0) == decide (b < 0))) (x * y / 4294967296) (decide (0 < x * y % 4294967296)) up := by rw [hx, hy]; rfl
  have g1 : (x : Int) / 67108864 = (xh : Int) := by omega
  have g2 : (x : Int) % 67108864 = (xl : Int) := by omega
  have g3 : (y : Int) / 67108864 = (yh : Int) := by omega
  have g4 : (y : Int) % 67108864 = (yl : Int) := by omega
  have g5 : (xh : Int) * (yh : Int) = (H : Int) := by rw [hH, Int.natCast_mul]
  have g6 : (xh : Int) * (yl : Int) = (M1 : Int) := by rw [hM1, Int.natCast_mul]
  have g7 : (xl : Int) * (yh : Int) = (M2 : Int) := by rw [hM2, Int.natCast_mul]
  have g8 : (xl : Int) * (yl : Int) = (L : Int) := by rw [hL, Int.natCast_mul]
  have xb : x ≤ 4503599627370496 := by omega
  have yb : y ≤ 4503599627370496 := by omega
  have ER := Lib.hid eR; clear eR
  have HP := Lib.hid hpq; clear hpq
  have HX := Lib.hid hx; clear hx
  have HY := Lib.hid hy; clear hy
  clear hxh hxl hyh hyl hH hM1 hM2 hL
  rcases Nat.lt_or_ge H 8589934592 with hh | hh
  · have t : decide ((8589934592 : Int) ≤ (H : Int)) = false := by simp; omega
    have t' : ¬ (8589934592 : Int) ≤ (H : Int) := by omega
    obtain ⟨n, hn⟩ : ∃ n, n = x * y / 4294967296 := ⟨_, rfl⟩
    obtain ⟨R, hR⟩ : ∃ R, R = decide (0 < x * y % 4294967296) := ⟨_, rfl⟩
    have hn2 : (H : Int) * 1048576 + ((M1 : Int) + (M2 : Int)) / 64 + (((M1 : Int) + (M2 : Int)) % 64 * 67108864 + (L : Int)) / 4294967296 = (n : Int) := by rw [hn, HP.out]; omega
    have hR2 : decide ((0 : Int) < (((M1 : Int) + (M2 : Int)) % 64 * 67108864 + (L : Int)) % 4294967296) = R := by rw [hR, HP.out]; exact decide_eq_decide.2 (by omega)
    have hnb : n < 18446744073709551615 := by rw [hn, HP.out]; omega
    have HN := Lib.hid hn; clear hn
    have HR := Lib.hid hR; clear hR
    have HN2 := Lib.hid hn2; clear hn2
    have HR2 := Lib.hid hR2; clear hR2
    go_enter Tryd.func74, Tryd.ntmps74
    go_wp2_with (first | (go_at_call 98; refine (c_rsize _ _ (by omega) (by omega)).mono ?_; (first | rw [← HX.out] | rw [← HY.out]); rintro e w1 ⟨rfl, rfl⟩) | (go_at_call 99; refine (c_rput' _ R up n _ _ _ HN2.out HR2.out hnb).mono ?_; rintro e w2 ⟨rfl, rfl⟩))
    go_ret2
    exact ⟨by rw [ER.out, ← HN.out, ← HR.out]; rfl, rfl⟩
  · have t : decide ((8589934592 : Int) ≤ (H : Int)) = true := by simp; omega
    have t' : (8589934592 : Int) ≤ (H : Int) := by omega
    have EB : Hid (rMul a b up = (0, false)) := by
      unfold Hid; rw [ER.out]; exact rput_big _ _ _ _ (by rw [HP.out]; omega)
    go_enter Tryd.func74, Tryd.ntmps74
    go_wp2_with (go_at_call 98; refine (c_rsize _ _ (by omega) (by omega)).mono ?_; (first | rw [← HX.out] | rw [← HY.out]); rintro e w1 ⟨rfl, rfl⟩)
    go_ret2
    exact ⟨by rw [EB.out]; rfl, rfl⟩

end Go.Proofs.YtpdaigenffecmaaDoor

namespace Go.Proofs.YtpdaigenffecmaaDoor
open Go.RowKit

set_option maxHeartbeats 1000000 in
theorem c_over (a n d : Nat) (w : World) (ha : a < 18446744073709551616) (hn : n ≤ 9223372036854775808) (hd : 0 < d) (hd2 : d ≤ 4611686018427387904) :
    Calls Tryd.prog 108 #[.int .u64 (a : Int), .int .u64 (n : Int), .int .u64 (d : Int)] w fun e w' => (∃ m, w' = w.drewN m) ∧ e = .returned (.tuple #[.int .u64 ((ovS a n d).1 : Int), .bool (ovS a n d).2.1, .bool (ovS a n d).2.2]) := by
  have dd : ¬ (d : Int) = 0 := by omega
  have dd2 : ((d : Int) == 0) = false := by (simp <;> omega)
  have HD := Lib.hid hd; clear hd
  go_enter Tryd.func108, Tryd.ntmps108
  go_wp2
  have HB : Hid (∃ m, w = w.drewN m) := ⟨0, rfl⟩
  go_loopw [9, 10, 11] (fun q r i wr => ∃ (k Q R : Nat) (I : Int), k ≤ 64 ∧ q = .int .u64 (Q : Int) ∧ r = .int .u64 (R : Int) ∧ i = .int .i64 I ∧ I = (k : Int) - 1 ∧ Hid (Q = n * (a / 2 ^ k) / d) ∧ Hid (R = n * (a / 2 ^ k) % d) ∧ Q ≤ 4503599627370496 ∧ R < d ∧ ∃ m, wr = w.drewN m) (fun _ _ i _ => ((intOf i) + 1).toNat)
  case atStart =>
    have e : a / 2 ^ 64 = 0 := Nat.div_eq_of_lt ha
    exact ⟨64, 0, 0, 63, by omega, rfl, rfl, rfl, rfl, by unfold Hid; rw [e]; simp, by unfold Hid; rw [e]; simp, by omega, HD.out, HB.out⟩
  case round =>
    obtain ⟨k, Q, R, I, hk, rfl, rfl, rfl, hI, hQ, hR, hQb, hRb, hbe⟩ := hrel
    have HE := Lib.hid hbe; clear hbe
    rcases Nat.eq_zero_or_pos k with h0 | h0
    · subst h0
      have hI' : I = -1 := by omega
      subst hI'
      clear hI
      have er : decide ((0 : Int) < (R : Int)) = decide (0 < R) := decide_eq_decide.2 (by omega)
      have eo : ovS a n d = (Q, decide (0 < R), true) := by
        unfold ovS; have h1 := hQ.out; have h2 := hR.out
        rw [Nat.pow_zero, Nat.div_one] at h1 h2
        rw [← h1, ← h2, if_neg (by omega)]
      have EO := Lib.hid eo; clear eo
      go_wp2
      refine bodyPost_ret (v := .tuple #[.int .u64 (Q : Int), .bool (decide (0 < R)), .bool true]) (by simp [results, Tryd.results108, go_sem, *]) rfl ⟨HE.out, by rw [EO.out]⟩
    · obtain ⟨j, rfl⟩ : ∃ j, k = j + 1 := ⟨k - 1, by omega⟩
      have hI' : I = (j : Int) := by omega
      subst hI'
      clear hI h0
      obtain ⟨V, hV⟩ : ∃ V, V = n * (a / 2 ^ j) := ⟨_, rfl⟩
      obtain ⟨QV, hQV⟩ : ∃ QV, QV = V / d := ⟨_, rfl⟩
      obtain ⟨nQ, hnq⟩ : ∃ nQ, nQ = n / d := ⟨_, rfl⟩
      obtain ⟨nr, hnr⟩ : ∃ nr, nr = n % d := ⟨_, rfl⟩
      obtain ⟨bit, hbit⟩ : ∃ bit, bit = a / 2 ^ j % 2 := ⟨_, rfl⟩
      have hb1 : bit ≤ 1 := by omega
      have hVV : V = n * (2 * (a / 2 ^ (j + 1)) + bit) := by rw [hV, hbit, ← half_bit]
      have hQVb : QV ≤ 2 * Q + nQ + 3 := by rw [hQV, hVV, hQ.out, hnq]; exact ov_bound _ _ _ _ HD.out hb1
      have hnqb : nQ ≤ 9223372036854775808 := by rw [hnq]; exact Nat.le_trans (Nat.div_le_self _ _) hn
      have hnrb : nr < d := by rw [hnr]; exact Nat.mod_lt _ HD.out
      have hnrn : nr ≤ n := by rw [hnr]; exact Nat.mod_le _ _
      have eq1 : (n : Int) / (d : Int) = (nQ : Int) := by rw [hnq]; simp
      have eq2 : (n : Int) % (d : Int) = (nr : Int) := by rw [hnr]; simp
      have eq3 : (n : Int).tdiv (d : Int) = (nQ : Int) := by rw [hnq]; simp
      have eq4 : (n : Int).tmod (d : Int) = (nr : Int) := by rw [Int.tmod_eq_emod_of_nonneg (by omega), hnr]; simp
      have hbi : ((a : Int) / 2 ^ j).tmod 2 = (bit : Int) := by rw [Int.tmod_eq_emod_of_nonneg (Int.ediv_nonneg (by omega) (Int.pow_nonneg (by omega))), hbit]; simp
      have HV0 : Hid (bit = 0 → 2 * Q * d + 2 * R = V) := by
        intro hb; rw [hVV, hb, hQ.out, hR.out]; exact ov0 _ _ _
      have HV1 : Hid (bit = 1 → (2 * Q + nQ) * d + (2 * R + nr) = V) := by
        intro hb; rw [hVV, hb, hQ.out, hR.out, hnq, hnr]; exact ov1 _ _ _
      have HQV := Lib.hid hQV; clear hQV
      have HV := Lib.hid hV; clear hV
      clear hVV hnq hnr hbit
      have hge : decide ((0 : Int) ≤ (j : Int)) = true := by (simp <;> omega)
      rcases Nat.eq_zero_or_pos bit with hb | hb
      · have tb : ((bit : Int) == 1) = false := by (simp <;> omega)
        have tb2 : ¬ (bit : Int) = 1 := by omega
        go_wp2_with (first | (go_quiet (fail)))
        go_loop [9, 10] (fun q r => ∃ (Q' R' : Nat), q = .int .u64 (Q' : Int) ∧ r = .int .u64 (R' : Int) ∧ Q' ≤ QV ∧ R' < 18446744073709551616 ∧ Hid (Q' * d + R' = V)) (fun _ r => (intOf r).toNat)
        case atStart => exact ⟨2 * Q, 2 * R, by (congr 1 <;> omega), by (congr 1 <;> omega), by rw [HQV.out]; exact le_div' HD.out (HV0.out hb), by omega, HV0.out hb⟩
        case round =>
          obtain ⟨Q', R', rfl, rfl, hq', hr', hv'⟩ := hrel
          rcases Nat.lt_or_ge R' d with hlt | hge'
          · have t5 : decide ((d : Int) ≤ (R' : Int)) = false := by (simp <;> omega)
            have t5' : ¬ (d : Int) ≤ (R' : Int) := by omega
            obtain ⟨u1, u2⟩ := div_unique' hv'.out hlt
            rcases Nat.lt_or_ge 4503599627370496 Q' with hb' | hb'
            · have t6 : decide ((4503599627370496 : Int) < (Q' : Int)) = true := by (simp <;> omega)
              have t6' : (4503599627370496 : Int) < (Q' : Int) := by omega
              have EO := Lib.hid (ovS_big a n d (Nat.lt_of_lt_of_le (by rw [← u1, HV.out] at hb'; exact hb') (ov_mono a n d j)))
              clear u1 u2
              go_wp2
              refine bodyPost_ret (v := .tuple #[.int .u64 0, .bool false, .bool false]) (by simp [results, Tryd.results108, go_sem, *]) rfl ⟨HE.out, by rw [EO.out]; rfl⟩
            · have t6 : decide ((4503599627370496 : Int) < (Q' : Int)) = false := by (simp <;> omega)
              have t6' : ¬ (4503599627370496 : Int) < (Q' : Int) := by omega
              have U1 : Hid (Q' = n * (a / 2 ^ j) / d) := by unfold Hid; rw [← HV.out]; exact u1.symm
              have U2 : Hid (R' = n * (a / 2 ^ j) % d) := by unfold Hid; rw [← HV.out]; exact u2.symm
              clear u1 u2
              go_wp2
              go_roundw
              case rel => exact ⟨j, Q', R', _, by omega, rfl, rfl, rfl, by omega, U1, U2, hb', hlt, HE.out⟩
              case measure => simp [intOf]
          · have t5 : decide ((d : Int) ≤ (R' : Int)) = true := by (simp <;> omega)
            have t5' : (d : Int) ≤ (R' : Int) := by omega
            have HN1 : Hid ((Q' + 1) * d + (R' - d) = V) := by unfold Hid; rw [← hv'.out, Nat.add_mul]; omega
            have HQ1 : Q' + 1 ≤ QV := by rw [HQV.out]; exact le_div' HD.out HN1.out
            go_wp2
            go_round
            case rel => exact ⟨Q' + 1, R' - d, by (congr 1), by (congr 1 <;> omega), HQ1, by omega, HN1.out⟩
            case measure => have := HD.out; simp [intOf]; omega
      · have tb : ((bit : Int) == 1) = true := by (simp <;> omega)
        have hb2 : bit = 1 := by omega
        go_wp2_with (first | (go_quiet (fail)))
        go_loop [9, 10] (fun q r => ∃ (Q' R' : Nat), q = .int .u64 (Q' : Int) ∧ r = .int .u64 (R' : Int) ∧ Q' ≤ QV ∧ R' < 18446744073709551616 ∧ Hid (Q' * d + R' = V)) (fun _ r => (intOf r).toNat)
        case atStart => exact ⟨2 * Q + nQ, 2 * R + nr, by (congr 1 <;> omega), by (congr 1 <;> omega), by rw [HQV.out]; exact le_div' HD.out (HV1.out hb2), by omega, HV1.out hb2⟩
        case round =>
          obtain ⟨Q', R', rfl, rfl, hq', hr', hv'⟩ := hrel
          rcases Nat.lt_or_ge R' d with hlt | hge'
          · have t5 : decide ((d : Int) ≤ (R' : Int)) = false := by (simp <;> omega)
            have t5' : ¬ (d : Int) ≤ (R' : Int) := by omega
            obtain ⟨u1, u2⟩ := div_unique' hv'.out hlt
            rcases Nat.lt_or_ge 4503599627370496 Q' with hb' | hb'
            · have t6 : decide ((4503599627370496 : Int) < (Q' : Int)) = true := by (simp <;> omega)
              have t6' : (4503599627370496 : Int) < (Q' : Int) := by omega
              have EO := Lib.hid (ovS_big a n d (Nat.lt_of_lt_of_le (by rw [← u1, HV.out] at hb'; exact hb') (ov_mono a n d j)))
              clear u1 u2
              go_wp2
              refine bodyPost_ret (v := .tuple #[.int .u64 0, .bool false, .bool false]) (by simp [results, Tryd.results108, go_sem, *]) rfl ⟨(by obtain ⟨m, hm⟩ := HE.out; exact ⟨m + nq, by rw [hm, World.drewN_drewN]⟩), by rw [EO.out]; rfl⟩
            · have t6 : decide ((4503599627370496 : Int) < (Q' : Int)) = false := by (simp <;> omega)
              have t6' : ¬ (4503599627370496 : Int) < (Q' : Int) := by omega
              have U1 : Hid (Q' = n * (a / 2 ^ j) / d) := by unfold Hid; rw [← HV.out]; exact u1.symm
              have U2 : Hid (R' = n * (a / 2 ^ j) % d) := by unfold Hid; rw [← HV.out]; exact u2.symm
              clear u1 u2
              go_wp2
              go_roundw
              case rel => exact ⟨j, Q', R', _, by omega, rfl, rfl, rfl, by omega, U1, U2, hb', hlt, (by obtain ⟨m, hm⟩ := HE.out; exact ⟨m + nq, by rw [hm, World.drewN_drewN]⟩)⟩
              case measure => simp [intOf]
          · have t5 : decide ((d : Int) ≤ (R' : Int)) = true := by (simp <;> omega)
            have t5' : (d : Int) ≤ (R' : Int) := by omega
            have HN1 : Hid ((Q' + 1) * d + (R' - d) = V) := by unfold Hid; rw [← hv'.out, Nat.add_mul]; omega
            have HQ1 : Q' + 1 ≤ QV := by rw [HQV.out]; exact le_div' HD.out HN1.out
            go_wp2
            go_round
            case rel => exact ⟨Q' + 1, R' - d, by (congr 1), by (congr 1 <;> omega), HQ1, by omega, HN1.out⟩
            case measure => have := HD.out; simp [intOf]; omega

end Go.Proofs.YtpdaigenffecmaaDoor

namespace Go.Proofs.YtpdaigenffecmaaDoor
open Go.RowKit

theorem c_over' (a n d : Nat) (I : Int) (w : World) (hI : I = (a : Int)) (ha : a < 18446744073709551616) (hn : n ≤ 9223372036854775808) (hd : 0 < d) (hd2 : d ≤ 4611686018427387904) (o : Nat × Bool × Bool) (ho : o = ovS a n d) :
    Calls Tryd.prog 108 #[.int .u64 I, .int .u64 (n : Int), .int .u64 (d : Int)] w fun e w' => e = .returned (.tuple #[.int .u64 (o.1 : Int), .bool o.2.1, .bool o.2.2]) ∧ ∃ m, w' = w.drewN m := by
  subst hI; subst ho; exact (c_over a n d w ha hn hd hd2).mono fun e w' h => ⟨h.2, h.1⟩

theorem ovS_le (a n d : Nat) : (ovS a n d).1 ≤ 4503599627370496 := by
  unfold ovS; split
  · simp
  · simp only; omega

/-- What is known of the root when i pairs of bits are still to come. -/
def RtAt (S : Nat) (root rest i : Nat) : Prop := root = isq (S / 4 ^ i) ∧ rest + root * root = S / 4 ^ i

theorem RtAt.start (S : Nat) (h : S < 4 ^ 43) : RtAt S 0 0 43 := by
  unfold RtAt; rw [Nat.div_eq_of_lt h]; exact ⟨rfl, rfl⟩

theorem RtAt.rest_le {S root rest i : Nat} (h : RtAt S root rest i) : rest ≤ 2 * root := by
  obtain ⟨h1, h2⟩ := h
  obtain ⟨g1, g2⟩ := isq_spec (S / 4 ^ i)
  rw [← h1] at g1 g2
  have e : (root + 1) * (root + 1) = root * root + 2 * root + 1 := by simp only [Nat.add_mul, Nat.mul_add]; omega
  omega

theorem RtAt.root_lt {S root rest i : Nat} (h : RtAt S root rest i) (hS : S < 8796093022208 * 8796093022208) : root < 8796093022208 := by
  obtain ⟨h1, h2⟩ := h
  rcases Nat.lt_or_ge root 8796093022208 with g | g
  · exact g
  · exfalso
    have := Nat.mul_le_mul g g
    have h3 : S / 4 ^ i ≤ S := Nat.div_le_self _ _
    omega

theorem four_bit (S i : Nat) : S / 4 ^ i = 4 * (S / 4 ^ (i + 1)) + S / 4 ^ i % 4 := by
  rw [Nat.pow_succ, ← Nat.div_div_eq_div_mul]; omega

theorem RtAt.yes {S root rest i two : Nat} (h : RtAt S root rest (i + 1)) (ht : two = S / 4 ^ i % 4) (hc : 4 * root + 1 ≤ 4 * rest + two) : RtAt S (2 * root + 1) (4 * rest + two - (4 * root + 1)) i := by
  have hr := h.rest_le
  obtain ⟨h1, h2⟩ := h
  have e := four_bit S i
  have ht2 : two < 4 := by rw [ht]; omega
  have s1 : (2 * root + 1) * (2 * root + 1) = 4 * (root * root) + 4 * root + 1 := by simp only [Nat.add_mul, Nat.mul_add]; have : 2 * root * (2 * root) = 4 * (root * root) := by ac_rfl
                                                                                     omega
  have s2 : (2 * root + 1 + 1) * (2 * root + 1 + 1) = 4 * (root * root) + 8 * root + 4 := by simp only [Nat.add_mul, Nat.mul_add]; have : 2 * root * (2 * root) = 4 * (root * root) := by ac_rfl
                                                                                             omega
  rw [← h2, ← ht] at e
  refine ⟨(isq_unique _ _ ?_ ?_).symm, ?_⟩
  · rw [s1, e]; omega
  · rw [s2, e]; omega
  · rw [s1, e]; omega

theorem RtAt.no {S root rest i two : Nat} (h : RtAt S root rest (i + 1)) (ht : two = S / 4 ^ i % 4) (hc : 4 * rest + two < 4 * root + 1) : RtAt S (2 * root) (4 * rest + two) i := by
  obtain ⟨h1, h2⟩ := h
  have e := four_bit S i
  have s0 : 2 * root * (2 * root) = 4 * (root * root) := by ac_rfl
  have s1 : (2 * root + 1) * (2 * root + 1) = 4 * (root * root) + 4 * root + 1 := by simp only [Nat.add_mul, Nat.mul_add]; omega
  rw [← h2, ← ht] at e
  refine ⟨(isq_unique _ _ ?_ ?_).symm, ?_⟩
  · rw [s0, e]; omega
  · rw [s1, e]; omega
  · rw [s0, e]; omega

/-- The next two bits of a times 2^32. -/
theorem two_high (a i : Nat) (h : 16 ≤ i) : a * 4294967296 / 4 ^ i % 4 = a / 2 ^ (2 * i - 32) % 4 := by
  have e : 4 ^ i = 4294967296 * 2 ^ (2 * i - 32) := by
    rw [show (4 : Nat) = 2 ^ 2 by decide, ← Nat.pow_mul, show (4294967296 : Nat) = 2 ^ 32 by decide, ← Nat.pow_add]; congr 1; omega
  rw [e, ← Nat.div_div_eq_div_mul, Nat.mul_div_cancel _ (by decide)]
theorem two_low (a i : Nat) (h : i < 16) : a * 4294967296 / 4 ^ i % 4 = 0 := by
  have e : 4294967296 = 4 * 4 ^ (15 - i) * 4 ^ i := by
    rw [Nat.mul_assoc, ← Nat.pow_add, show 15 - i + i = 15 by omega]
  rw [e, ← Nat.mul_assoc, Nat.mul_div_cancel _ (Nat.pow_pos (by decide)), Nat.mul_left_comm]
  exact Nat.mul_mod_right _ _

theorem RtAt.done {S root rest : Nat} (up : Bool) (h : RtAt S root rest 0) : rtN S up = if up = true ∧ 0 < rest then root + 1 else root := by
  obtain ⟨h1, h2⟩ := h
  rw [Nat.pow_zero, Nat.div_one] at h1 h2
  unfold rtN
  rw [← h1]
  have e : (root * root ≠ S) ↔ 0 < rest := by omega
  simp only [e]
  split <;> rfl

end Go.Proofs.YtpdaigenffecmaaDoor

namespace Go.Proofs.YtpdaigenffecmaaDoor
open Go.RowKit


end Go.Proofs.YtpdaigenffecmaaDoor
