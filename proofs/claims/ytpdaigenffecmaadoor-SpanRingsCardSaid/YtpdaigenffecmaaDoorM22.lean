/-
  The statements' examples (layer 2), run by the executor. The statement SpanKnown: its code answers true. Drafts of intervals and vectors. Drafts of intervals: what they answer, written out. Words for small contracts by the executor. Plain: the small operations of intervals: lesser and greater, hull and common part, what an interval tells. Package span's small functions, run by the executor.
-/
import Derived.Test.YtpdaigenffecmaaDoorM07
import Derived.Test.YtpdaigenffecmaaDoorM10
import Derived.Test.YtpdaigenffecmaaDoorM16
import Derived.Test.YtpdaigenffecmaaDoorM21
set_option linter.all false
namespace Go.Proofs.YtpdaigenffecmaaDoor
open Go.RowKit

theorem rtN_down {n r : Nat} (h1 : r * r ≤ n) (h2 : n < (r + 1) * (r + 1)) : rtN n false = r := by unfold rtN; simp [isq_unique _ _ h1 h2]
theorem rtN_up {n s : Nat} (h3 : n ≤ s * s) (h4 : s = 0 ∨ (s - 1) * (s - 1) < n) : rtN n true = s := by
  obtain ⟨k1, k2⟩ := isq_spec n
  unfold rtN
  by_cases hq : isq n * isq n = n
  · rw [if_neg (fun h => h.2 hq)]
    rcases Nat.lt_trichotomy (isq n) s with h | h | h
    · exfalso
      rcases h4 with h4 | h4
      · omega
      · have := Nat.mul_le_mul (show isq n ≤ s - 1 by omega) (show isq n ≤ s - 1 by omega); omega
    · omega
    · exfalso
      have := Nat.mul_lt_mul'' h h; omega
  · rw [if_pos ⟨rfl, hq⟩]
    rcases Nat.lt_trichotomy (isq n + 1) s with h | h | h
    · exfalso
      rcases h4 with h4 | h4
      · omega
      · have := Nat.mul_le_mul (show isq n + 1 ≤ s - 1 by omega) (show isq n + 1 ≤ s - 1 by omega); omega
    · exact h
    · exfalso
      have := Nat.mul_le_mul (show s ≤ isq n by omega) (show s ≤ isq n by omega); omega
theorem rt_of {a r n : Nat} {up : Bool} (hn : a * 4294967296 = n) (h : rtN n up = r) : rt (a : Int) up = (r : Int) := by
  unfold rt; rw [Int.toNat_natCast, hn, h]
theorem sqrt_lit (a b r s : Nat) (h1 : r * r ≤ a * 4294967296) (h2 : a * 4294967296 < (r + 1) * (r + 1)) (h3 : b * 4294967296 ≤ s * s) (h4 : s = 0 ∨ (s - 1) * (s - 1) < b * 4294967296) (hab : a ≤ b) (hb : b ≤ 4503599627370496) (hs : s ≤ 4503599627370496) :
    spSqrt ((a : Int), (b : Int)) = ((r : Int), (s : Int), 0) := by
  obtain ⟨n, hn⟩ : ∃ n, a * 4294967296 = n := ⟨_, rfl⟩
  obtain ⟨m, hm⟩ : ∃ m, b * 4294967296 = m := ⟨_, rfl⟩
  rw [hn] at h1 h2
  rw [hm] at h3 h4
  have f1 := rt_of hn (rtN_down h1 h2)
  have f2 := rt_of hm (rtN_up h3 h4)
  unfold spSqrt
  rw [if_pos (spChk_mk (by simp only; omega) (by simp only; omega) (by simp only; omega)), if_neg (by simp only; omega), f1, f2]
  unfold spTold; rw [if_neg (by omega)]
def kwE0 : Ent := ⟨30, [Rw [-4294967296, 8589934592], Rw [-12884901888, 17179869184]], RE [-25769803776, 34359738368] 0⟩
theorem kwP0 (ρ : Nat → Int) : EntOk Tryd.prog ρ kwE0 := fun s w => by have h := c_spanMul (-4294967296) (8589934592) (-12884901888) (17179869184) w; rw [show spMul (-4294967296, 8589934592) (-12884901888, 17179869184) = (-25769803776, 34359738368, 0) from by kernel_rfl] at h; exact h
def kwE1 : Ent := ⟨32, [Rw [-4294967296, 8589934592]], RE [0, 17179869184] 0⟩
theorem kwP1 (ρ : Nat → Int) : EntOk Tryd.prog ρ kwE1 := fun s w => by have h := c_spanSqr (-4294967296) (8589934592) w; rw [show spPow (-4294967296, 8589934592) 2 = (0, 17179869184, 0) from by kernel_rfl] at h; exact h
def kwE2 : Ent := ⟨34, [Rw [-8589934592, 4294967296], N1 (3)], RE [-34359738368, 4294967296] 0⟩
theorem kwP2 (ρ : Nat → Int) : EntOk Tryd.prog ρ kwE2 := fun s w => by have h := c_spanPow (-8589934592) (4294967296) (3) w; rw [show spPow (-8589934592, 4294967296) (3) = (-34359738368, 4294967296, 0) from by kernel_rfl] at h; exact h
def kwE3 : Ent := ⟨47, [Rw [4294967296, 8589934592], Rw [-17179869184, -8589934592]], RE [-4294967296, -1073741824] 0⟩
theorem kwP3 (ρ : Nat → Int) : EntOk Tryd.prog ρ kwE3 := fun s w => by have h := c_spanDiv (4294967296) (8589934592) (-17179869184) (-8589934592) w; rw [show spDiv (4294967296, 8589934592) (-17179869184, -8589934592) = (-4294967296, -1073741824, 0) from by kernel_rfl] at h; exact h
def kwE4 : Ent := ⟨47, [Rw [4294967296, 8589934592], Rw [0, 4294967296]], RE [0, 0] 7⟩
theorem kwP4 (ρ : Nat → Int) : EntOk Tryd.prog ρ kwE4 := fun s w => by have h := c_spanDiv (4294967296) (8589934592) (0) (4294967296) w; rw [show spDiv (4294967296, 8589934592) (0, 4294967296) = (0, 0, 7) from by kernel_rfl] at h; exact h
def kwE5 : Ent := ⟨61, [Rw [17179869184, 38654705664]], RE [8589934592, 12884901888] 0⟩
theorem kwP5 (ρ : Nat → Int) : EntOk Tryd.prog ρ kwE5 := fun s w => by have h := c_spanSqrt (17179869184) (38654705664) w; rw [show spSqrt (17179869184, 38654705664) = (8589934592, 12884901888, 0) from sqrt_lit 17179869184 38654705664 8589934592 12884901888 (by decide) (by decide) (by decide) (by decide) (by decide) (by decide) (by decide)] at h; exact h
def kwE6 : Ent := ⟨30, [Rw [4503599627370496, 4503599627370496], Rw [-4294967296, 8589934592]], RE [0, 0] 6⟩
theorem kwP6 (ρ : Nat → Int) : EntOk Tryd.prog ρ kwE6 := fun s w => by have h := c_spanMul (4503599627370496) (4503599627370496) (-4294967296) (8589934592) w; rw [show spMul (4503599627370496, 4503599627370496) (-4294967296, 8589934592) = (0, 0, 6) from by kernel_rfl] at h; exact h
def kwE7 : Ent := ⟨34, [Rw [4294967296, 8589934592], N1 (17)], RE [0, 0] 2⟩
theorem kwP7 (ρ : Nat → Int) : EntOk Tryd.prog ρ kwE7 := fun s w => by have h := c_spanPow (4294967296) (8589934592) (17) w; rw [show spPow (4294967296, 8589934592) (17) = (0, 0, 2) from by kernel_rfl] at h; exact h
def kwL : List Ent := [kwE0, kwE1, kwE2, kwE3, kwE4, kwE5, kwE6, kwE7]
theorem kwL_ok (ρ : Nat → Int) : ∀ e ∈ kwL, EntOk Tryd.prog ρ e := by
  intro e he
  simp only [kwL, List.mem_cons, List.not_mem_nil, or_false] at he
  rcases he with rfl | rfl | rfl | rfl | rfl | rfl | rfl | rfl
  · exact kwP0 ρ
  · exact kwP1 ρ
  · exact kwP2 ρ
  · exact kwP3 ρ
  · exact kwP4 ρ
  · exact kwP5 ρ
  · exact kwP6 ρ
  · exact kwP7 ρ

set_option maxRecDepth 100000 in
theorem kw_run : runM Tryd.prog (tab Tryd.prog {} [(23, 2)] kwL []) 8 pwM 12 [] = some (.v (.one (.bool true))) := by kernel_rfl
theorem c_works2 (w : World) (hp : Pow10 w) : Calls Tryd.prog 12 #[] w fun e w' => e = .returned (.bool true) ∧ Below w.heap.size w w' := by
  refine (calls_runM (ρ := fun _ => 0) kw_run ⟨by simp, by simp, by simp, by simp⟩ (by intro e he; simp only [List.mem_cons, List.not_mem_nil, or_false] at he; subst he; exact eqOk_span) (fun e he s w _ => kwL_ok _ e he s w) (by simp) rfl (pw_rel _ hp)).mono ?_
  rintro e w' ⟨⟨s, he⟩, hb⟩
  exact ⟨he, hb⟩

end Go.Proofs.YtpdaigenffecmaaDoor

namespace Go.Proofs.YtpdaigenffecmaaDoor
open Go.RowKit

def kzE0 : Ent := ⟨30, [Rw [-1, 1], Rw [4294967296, 4294967296]], RE [-1, 1] 0⟩
theorem kzP0 (ρ : Nat → Int) : EntOk Tryd.prog ρ kzE0 := fun s w => by have h := c_spanMul (-1) (1) (4294967296) (4294967296) w; rw [show spMul (-1, 1) (4294967296, 4294967296) = (-1, 1, 0) from by kernel_rfl] at h; exact h
def kzE1 : Ent := ⟨30, [Rw [1, 1], Rw [1, 1]], RE [0, 1] 0⟩
theorem kzP1 (ρ : Nat → Int) : EntOk Tryd.prog ρ kzE1 := fun s w => by have h := c_spanMul (1) (1) (1) (1) w; rw [show spMul (1, 1) (1, 1) = (0, 1, 0) from by kernel_rfl] at h; exact h
def kzE2 : Ent := ⟨32, [Rw [-1, 1]], RE [0, 1] 0⟩
theorem kzP2 (ρ : Nat → Int) : EntOk Tryd.prog ρ kzE2 := fun s w => by have h := c_spanSqr (-1) (1) w; rw [show spPow (-1, 1) 2 = (0, 1, 0) from by kernel_rfl] at h; exact h
def kzE3 : Ent := ⟨32, [Rw [-4398046511104, 4294967296]], RE [0, 4503599627370496] 0⟩
theorem kzP3 (ρ : Nat → Int) : EntOk Tryd.prog ρ kzE3 := fun s w => by have h := c_spanSqr (-4398046511104) (4294967296) w; rw [show spPow (-4398046511104, 4294967296) 2 = (0, 4503599627370496, 0) from by kernel_rfl] at h; exact h
def kzE4 : Ent := ⟨32, [Rw [-4402341478400, 4294967296]], RE [0, 0] 6⟩
theorem kzP4 (ρ : Nat → Int) : EntOk Tryd.prog ρ kzE4 := fun s w => by have h := c_spanSqr (-4402341478400) (4294967296) w; rw [show spPow (-4402341478400, 4294967296) 2 = (0, 0, 6) from by kernel_rfl] at h; exact h
def kzE5 : Ent := ⟨34, [Rw [-1, 1], N1 (3)], RE [-1, 1] 0⟩
theorem kzP5 (ρ : Nat → Int) : EntOk Tryd.prog ρ kzE5 := fun s w => by have h := c_spanPow (-1) (1) (3) w; rw [show spPow (-1, 1) (3) = (-1, 1, 0) from by kernel_rfl] at h; exact h
def kzE6 : Ent := ⟨34, [Rw [4294967296, 8589934592], N1 (16)], RE [4294967296, 281474976710656] 0⟩
theorem kzP6 (ρ : Nat → Int) : EntOk Tryd.prog ρ kzE6 := fun s w => by have h := c_spanPow (4294967296) (8589934592) (16) w; rw [show spPow (4294967296, 8589934592) (16) = (4294967296, 281474976710656, 0) from by kernel_rfl] at h; exact h
def kzE7 : Ent := ⟨34, [Rw [4294967296, 12884901888], N1 (16)], RE [0, 0] 6⟩
theorem kzP7 (ρ : Nat → Int) : EntOk Tryd.prog ρ kzE7 := fun s w => by have h := c_spanPow (4294967296) (12884901888) (16) w; rw [show spPow (4294967296, 12884901888) (16) = (0, 0, 6) from by kernel_rfl] at h; exact h
def kzE8 : Ent := ⟨34, [Rw [-4503599627370496, 4503599627370496], N1 (0)], RE [4294967296, 4294967296] 0⟩
theorem kzP8 (ρ : Nat → Int) : EntOk Tryd.prog ρ kzE8 := fun s w => by have h := c_spanPow (-4503599627370496) (4503599627370496) (0) w; rw [show spPow (-4503599627370496, 4503599627370496) (0) = (4294967296, 4294967296, 0) from by kernel_rfl] at h; exact h
def kzE9 : Ent := ⟨34, [Rw [-4503599627370496, 4503599627370496], N1 (-1)], RE [0, 0] 2⟩
theorem kzP9 (ρ : Nat → Int) : EntOk Tryd.prog ρ kzE9 := fun s w => by have h := c_spanPow (-4503599627370496) (4503599627370496) (-1) w; rw [show spPow (-4503599627370496, 4503599627370496) (-1) = (0, 0, 2) from by kernel_rfl] at h; exact h
def kzE10 : Ent := ⟨34, [Rw [1, 0], N1 (-1)], RE [0, 0] 20⟩
theorem kzP10 (ρ : Nat → Int) : EntOk Tryd.prog ρ kzE10 := fun s w => by have h := c_spanPow (1) (0) (-1) w; rw [show spPow (1, 0) (-1) = (0, 0, 20) from by kernel_rfl] at h; exact h
def kzE11 : Ent := ⟨34, [Rw [-4503599627370496, 4503599627370496], N1 (1)], RE [-4503599627370496, 4503599627370496] 0⟩
theorem kzP11 (ρ : Nat → Int) : EntOk Tryd.prog ρ kzE11 := fun s w => by have h := c_spanPow (-4503599627370496) (4503599627370496) (1) w; rw [show spPow (-4503599627370496, 4503599627370496) (1) = (-4503599627370496, 4503599627370496, 0) from by kernel_rfl] at h; exact h
def kzE12 : Ent := ⟨34, [Rw [-2147483648, 1073741824], N1 (1)], RE [-2147483648, 1073741824] 0⟩
theorem kzP12 (ρ : Nat → Int) : EntOk Tryd.prog ρ kzE12 := fun s w => by have h := c_spanPow (-2147483648) (1073741824) (1) w; rw [show spPow (-2147483648, 1073741824) (1) = (-2147483648, 1073741824, 0) from by kernel_rfl] at h; exact h
def kzE13 : Ent := ⟨47, [Rw [1, 0], Rw [0, 4294967296]], RE [0, 0] 20⟩
theorem kzP13 (ρ : Nat → Int) : EntOk Tryd.prog ρ kzE13 := fun s w => by have h := c_spanDiv (1) (0) (0) (4294967296) w; rw [show spDiv (1, 0) (0, 4294967296) = (0, 0, 20) from by kernel_rfl] at h; exact h
def kzE14 : Ent := ⟨47, [Rw [4294967296, 4294967296], Rw [0, 0]], RE [0, 0] 7⟩
theorem kzP14 (ρ : Nat → Int) : EntOk Tryd.prog ρ kzE14 := fun s w => by have h := c_spanDiv (4294967296) (4294967296) (0) (0) w; rw [show spDiv (4294967296, 4294967296) (0, 0) = (0, 0, 7) from by kernel_rfl] at h; exact h
def kzE15 : Ent := ⟨47, [Rw [4294967296, 4294967296], Rw [-4503599627370496, 4503599627370496]], RE [0, 0] 7⟩
theorem kzP15 (ρ : Nat → Int) : EntOk Tryd.prog ρ kzE15 := fun s w => by have h := c_spanDiv (4294967296) (4294967296) (-4503599627370496) (4503599627370496) w; rw [show spDiv (4294967296, 4294967296) (-4503599627370496, 4503599627370496) = (0, 0, 7) from by kernel_rfl] at h; exact h
def kzE16 : Ent := ⟨47, [Rw [4294967296, 4294967296], Rw [1, 2]], RE [0, 0] 6⟩
theorem kzP16 (ρ : Nat → Int) : EntOk Tryd.prog ρ kzE16 := fun s w => by have h := c_spanDiv (4294967296) (4294967296) (1) (2) w; rw [show spDiv (4294967296, 4294967296) (1, 2) = (0, 0, 6) from by kernel_rfl] at h; exact h
def kzE17 : Ent := ⟨61, [Rw [-1, 0]], RE [0, 0] 2⟩
theorem kzP17 (ρ : Nat → Int) : EntOk Tryd.prog ρ kzE17 := fun s w => by have h := c_spanSqrt (-1) (0) w; rw [show spSqrt (-1, 0) = (0, 0, 2) from by kernel_rfl] at h; exact h
def kzE18 : Ent := ⟨61, [Rw [0, 0]], RE [0, 0] 0⟩
theorem kzP18 (ρ : Nat → Int) : EntOk Tryd.prog ρ kzE18 := fun s w => by have h := c_spanSqrt (0) (0) w; rw [show spSqrt (0, 0) = (0, 0, 0) from sqrt_lit 0 0 0 0 (by decide) (by decide) (by decide) (by decide) (by decide) (by decide) (by decide)] at h; exact h
def kzE19 : Ent := ⟨61, [Rw [0, 4503599627370496]], RE [0, 4398046511104] 0⟩
theorem kzP19 (ρ : Nat → Int) : EntOk Tryd.prog ρ kzE19 := fun s w => by have h := c_spanSqrt (0) (4503599627370496) w; rw [show spSqrt (0, 4503599627370496) = (0, 4398046511104, 0) from sqrt_lit 0 4503599627370496 0 4398046511104 (by decide) (by decide) (by decide) (by decide) (by decide) (by decide) (by decide)] at h; exact h
def kzL : List Ent := [kzE0, kzE1, kzE2, kzE3, kzE4, kzE5, kzE6, kzE7, kzE8, kzE9, kzE10, kzE11, kzE12, kzE13, kzE14, kzE15, kzE16, kzE17, kzE18, kzE19]
theorem kzL_ok (ρ : Nat → Int) : ∀ e ∈ kzL, EntOk Tryd.prog ρ e := by
  intro e he
  simp only [kzL, List.mem_cons, List.not_mem_nil, or_false] at he
  rcases he with rfl | rfl | rfl | rfl | rfl | rfl | rfl | rfl | rfl | rfl | rfl | rfl | rfl | rfl | rfl | rfl | rfl | rfl | rfl | rfl
  · exact kzP0 ρ
  · exact kzP1 ρ
  · exact kzP2 ρ
  · exact kzP3 ρ
  · exact kzP4 ρ
  · exact kzP5 ρ
  · exact kzP6 ρ
  · exact kzP7 ρ
  · exact kzP8 ρ
  · exact kzP9 ρ
  · exact kzP10 ρ
  · exact kzP11 ρ
  · exact kzP12 ρ
  · exact kzP13 ρ
  · exact kzP14 ρ
  · exact kzP15 ρ
  · exact kzP16 ρ
  · exact kzP17 ρ
  · exact kzP18 ρ
  · exact kzP19 ρ
def wkE : Ent := ⟨12, [], .v (.one (.bool true))⟩
theorem wkE_ok (ρ : Nat → Int) {w0 : World} (hp : Pow10 w0) : EntOkB Tryd.prog ρ w0.heap.size w0 wkE := fun s w hb => c_works2 w (hp.below hb)

set_option maxRecDepth 100000 in
theorem kz_run : runM Tryd.prog (tab Tryd.prog {} [(23, 2)] (wkE :: kzL) []) 8 pwM 11 [] = some (.v (.one (.bool true))) := by kernel_rfl
theorem c_lawSpanKnown (w : World) (hp : Pow10 w) : Calls Tryd.prog 11 #[] w fun e w' => e = .returned (.bool true) ∧ Below w.heap.size w w' := by
  refine (calls_runM (ρ := fun _ => 0) kz_run ⟨by simp, by simp, by simp, by simp⟩ (by intro e he; simp only [List.mem_cons, List.not_mem_nil, or_false] at he; subst he; exact eqOk_span) (by intro e he; rcases List.mem_cons.1 he with rfl | he; exact wkE_ok _ hp; exact fun s w _ => kzL_ok _ e he s w) (by simp) rfl (pw_rel _ hp)).mono ?_
  rintro e w' ⟨⟨s, he⟩, hb⟩
  exact ⟨he, hb⟩

end Go.Proofs.YtpdaigenffecmaaDoor

namespace Go.Proofs.YtpdaigenffecmaaDoor
open Go.RowKit Go.Shelf

theorem pow_bounds (n m : Nat) (h : n ≤ m) : (1 : Int) ≤ 2 ^ n ∧ (2 : Int) ^ n ≤ 2 ^ m := by
  have h1 : (1 : Nat) ≤ 2 ^ n := Nat.one_le_two_pow
  have h2 : 2 ^ n ≤ 2 ^ m := Nat.pow_le_pow_right (by decide) h
  constructor
  · exact_mod_cast h1
  · exact_mod_cast h2
theorem tmod_bounds (a P : Int) (h : 0 < P) : -P < a.tmod P ∧ a.tmod P < P := by
  have h1 := Int.tmod_lt_of_pos a h
  have h2 := Int.lt_tmod_of_pos a h
  exact ⟨h2, h1⟩
theorem w64_id {x : Int} (h1 : -9223372036854775808 ≤ x) (h2 : x ≤ 9223372036854775807) : wrap64 x = x := by unfold wrap64; omega
/-- The number 2 to a draft's exponent, and what the code makes of it. -/
theorem pow_code (b : Int) (k m : Nat) (M : Int) (hM : M = 2 ^ m) (hm : k ≤ m + 1) (hk : 0 < k) (hM2 : M ≤ 4611686018427387904) :
    ∃ P : Int, wrap64 (2 ^ (b % (k : Int)).toNat) = P ∧ wrap64 (P + 1) = P + 1 ∧ 1 ≤ P ∧ P ≤ M := by
  have hb : (b % (k : Int)).toNat ≤ m := by
    have := Int.emod_lt_of_pos b (show (0 : Int) < k by omega)
    omega
  obtain ⟨h1, h2⟩ := pow_bounds _ _ hb
  rw [← hM] at h2
  exact ⟨_, rfl, w64_id (by rw [w64_id (by omega) (by omega)]; omega) (by rw [w64_id (by omega) (by omega)]; omega), by rw [w64_id (by omega) (by omega)]; omega, by rw [w64_id (by omega) (by omega)]; omega⟩
theorem shr_code (wd : Int) (n : Nat) (hw : 0 ≤ wd ∧ wd ≤ 4294967295) : ∃ Q : Int, wrap64 (wd / 2 ^ n) = Q ∧ 0 ≤ Q ∧ Q ≤ 4294967295 := by
  have h0 : 0 ≤ wd / 2 ^ n := Int.ediv_nonneg hw.1 (by have := (pow_bounds n n (Nat.le_refl _)).1; omega)
  have h1 : wd / 2 ^ n ≤ wd := Int.ediv_le_self _ hw.1
  exact ⟨_, rfl, by rw [w64_id (by omega) (by omega)]; exact h0, by rw [w64_id (by omega) (by omega)]; omega⟩

/-- The ends of a small draft. -/
def SmallI (lo hi : Int) : Prop := -68719476736 ≤ lo ∧ lo ≤ 68719476736 ∧ lo ≤ hi ∧ hi ≤ lo + 4294967295
theorem SmallI.ok {lo hi : Int} (h : SmallI lo hi) : spChk (lo, hi) = 0 := by
  obtain ⟨h1, h2, h3, h4⟩ := h
  exact spChk_mk (by simp only; omega) (by simp only; omega) (by simp only; omega)

theorem c_dsmall (at_ b wd : Int) (hb : 0 ≤ b ∧ b ≤ 255) (hw : 0 ≤ wd ∧ wd ≤ 4294967295) (w : World) :
    Calls Tryd.prog 64 #[.agg #[.int .i64 at_, .int .u8 b, .int .u32 wd]] w fun e w' => ∃ lo hi, SmallI lo hi ∧ e = .returned (.agg #[.int .i64 lo, .int .i64 hi]) ∧ Below w.heap.size w w' := by
  obtain ⟨P, hp1, hp2, hp3, hp4⟩ := pow_code b 37 36 68719476736 (by decide) (by decide) (by decide) (by decide)
  obtain ⟨Q, hq1, hq2, hq3⟩ := shr_code wd (b % 32).toNat hw
  rw [show ((37 : Nat) : Int) = 37 from rfl] at hp1
  have ht := tmod_bounds at_ (P + 1) (by omega)
  obtain ⟨lo, hlo⟩ : ∃ lo, at_.tmod (P + 1) = lo := ⟨_, rfl⟩
  rw [hlo] at ht
  have hz : ¬ P + 1 = 0 := by omega
  have hs : wrap64 (lo + Q) = lo + Q := w64_id (by omega) (by omega)
  have HV : Hid (SmallI lo (lo + Q)) := by unfold Hid SmallI; omega
  clear ht hp3 hp4 hq2 hq3
  go_enter Tryd.func64, Tryd.ntmps64
  go_wp2_with (fail)
  refine bodyPost_ret (v := .agg #[.int .i64 lo, .int .i64 (lo + Q)]) (by simp [results, Tryd.results64, go_sem, *]) rfl ⟨lo, lo + Q, HV.out, rfl, by (repeat' (first | (with_reducible exact Below.refl _ _) | (with_reducible refine Below.setCell ?_ ?_ _) | (with_reducible refine Below.alloc ?_ ?_ _) | (with_reducible refine Below.drew ?_) | (with_reducible refine below_drewN ?_ _) | (with_reducible assumption) | (with_reducible refine Below.trans ?_ (Below.mono (by with_reducible assumption) ?_)) | omega | (simp; done) | (simp; omega) | (simp [World.setCell]; omega)))⟩

theorem c_dspan (at_ b wd : Int) (hb : 0 ≤ b ∧ b ≤ 255) (hw : 0 ≤ wd ∧ wd ≤ 4294967295) (w : World) :
    Calls Tryd.prog 13 #[.agg #[.int .i64 at_, .int .u8 b, .int .u32 wd]] w fun e w' => ∃ lo hi, spChk (lo, hi) = 0 ∧ e = .returned (.agg #[.int .i64 lo, .int .i64 hi]) ∧ Below w.heap.size w w' := by
  obtain ⟨P, hp1, hp2, hp3, hp4⟩ := pow_code b 52 51 2251799813685248 (by decide) (by decide) (by decide) (by decide)
  rw [show ((52 : Nat) : Int) = 52 from rfl] at hp1
  have ht := tmod_bounds at_ (P + 1) (by omega)
  obtain ⟨lo, hlo⟩ : ∃ lo, at_.tmod (P + 1) = lo := ⟨_, rfl⟩
  rw [hlo] at ht
  have hz : ¬ P + 1 = 0 := by omega
  have hq : wrap64 wd = wd := w64_id (by omega) (by omega)
  have hs : wrap64 (lo + wd) = lo + wd := w64_id (by omega) (by omega)
  have HV : Hid (spChk (lo, min (lo + wd) 4503599627370496) = 0) := by unfold Hid; exact spChk_mk (by simp only; omega) (by simp only; omega) (by simp only; omega)
  clear ht hp3 hp4
  go_enter Tryd.func13, Tryd.ntmps13
  go_wp2_with (fail)

  refine bodyPost_ret (v := .agg #[.int .i64 lo, .int .i64 (min (lo + wd) 4503599627370496)]) (by simp [results, Tryd.results13, go_sem, *]) rfl ⟨lo, _, HV.out, rfl, by (repeat' (first | (with_reducible exact Below.refl _ _) | (with_reducible refine Below.setCell ?_ ?_ _) | (with_reducible refine Below.alloc ?_ ?_ _) | (with_reducible refine Below.drew ?_) | (with_reducible refine below_drewN ?_ _) | (with_reducible assumption) | (with_reducible refine Below.trans ?_ (Below.mono (by with_reducible assumption) ?_)) | omega | (simp; done) | (simp; omega) | (simp [World.setCell]; omega)))⟩

end Go.Proofs.YtpdaigenffecmaaDoor

namespace Go.Proofs.YtpdaigenffecmaaDoor
open Go.RowKit Go.Shelf

/-- A draft's lower end. -/
def dLo (k a b : Int) : Int := a.tmod (wrap64 (2 ^ (b % k).toNat) + 1)
def dHi (a b wd : Int) : Int := min (dLo 52 a b + wd) 4503599627370496
def dHs (a b wd : Int) : Int := dLo 37 a b + wrap64 (wd / 2 ^ (b % 32).toNat)
theorem dsmall_valid (a b wd : Int) (hw : 0 ≤ wd ∧ wd ≤ 4294967295) : SmallI (dLo 37 a b) (dHs a b wd) := by
  obtain ⟨P, hp1, hp2, hp3, hp4⟩ := pow_code b 37 36 68719476736 (by decide) (by decide) (by decide) (by decide)
  obtain ⟨Q, hq1, hq2, hq3⟩ := shr_code wd (b % 32).toNat hw
  rw [show ((37 : Nat) : Int) = 37 from rfl] at hp1
  have ht := tmod_bounds a (P + 1) (by omega)
  unfold dHs dLo SmallI
  rw [hp1, hq1]
  omega
theorem dspan_valid (a b wd : Int) (hw : 0 ≤ wd ∧ wd ≤ 4294967295) : spChk (dLo 52 a b, dHi a b wd) = 0 := by
  obtain ⟨P, hp1, hp2, hp3, hp4⟩ := pow_code b 52 51 2251799813685248 (by decide) (by decide) (by decide) (by decide)
  rw [show ((52 : Nat) : Int) = 52 from rfl] at hp1
  have ht := tmod_bounds a (P + 1) (by omega)
  unfold dHi dLo
  rw [hp1]
  exact spChk_mk (by simp only; omega) (by simp only; omega) (by simp only; omega)

theorem c_dsmallD (at_ b wd : Int) (hb : 0 ≤ b ∧ b ≤ 255) (hw : 0 ≤ wd ∧ wd ≤ 4294967295) (w : World) :
    Calls Tryd.prog 64 #[.agg #[.int .i64 at_, .int .u8 b, .int .u32 wd]] w fun e w' => e = .returned (.agg #[.int .i64 (dLo 37 at_ b), .int .i64 (dHs at_ b wd)]) ∧ Below w.heap.size w w' := by
  obtain ⟨P, hp1, hp2, hp3, hp4⟩ := pow_code b 37 36 68719476736 (by decide) (by decide) (by decide) (by decide)
  obtain ⟨Q, hq1, hq2, hq3⟩ := shr_code wd (b % 32).toNat hw
  rw [show ((37 : Nat) : Int) = 37 from rfl] at hp1
  have ht := tmod_bounds at_ (P + 1) (by omega)
  obtain ⟨lo, hlo⟩ : ∃ lo, at_.tmod (P + 1) = lo := ⟨_, rfl⟩
  have e1 : dLo 37 at_ b = lo := by unfold dLo; rw [hp1, hlo]
  have e2 : dHs at_ b wd = lo + Q := by unfold dHs; rw [e1, hq1]
  rw [e1, e2]
  clear e1 e2
  rw [hlo] at ht
  have hz : ¬ P + 1 = 0 := by omega
  have hs : wrap64 (lo + Q) = lo + Q := w64_id (by omega) (by omega)
  clear ht hp3 hp4 hq2 hq3
  go_enter Tryd.func64, Tryd.ntmps64
  go_wp2_with (fail)
  refine bodyPost_ret (v := .agg #[.int .i64 lo, .int .i64 (lo + Q)]) (by simp [results, Tryd.results64, go_sem, *]) rfl ⟨rfl, by (repeat' (first | (with_reducible exact Below.refl _ _) | (with_reducible refine Below.setCell ?_ ?_ _) | (with_reducible refine Below.alloc ?_ ?_ _) | (with_reducible refine Below.drew ?_) | (with_reducible refine below_drewN ?_ _) | (with_reducible assumption) | (with_reducible refine Below.trans ?_ (Below.mono (by with_reducible assumption) ?_)) | omega | (simp; done) | (simp; omega) | (simp [World.setCell]; omega)))⟩

theorem c_dspanD (at_ b wd : Int) (hb : 0 ≤ b ∧ b ≤ 255) (hw : 0 ≤ wd ∧ wd ≤ 4294967295) (w : World) :
    Calls Tryd.prog 13 #[.agg #[.int .i64 at_, .int .u8 b, .int .u32 wd]] w fun e w' => e = .returned (.agg #[.int .i64 (dLo 52 at_ b), .int .i64 (dHi at_ b wd)]) ∧ Below w.heap.size w w' := by
  obtain ⟨P, hp1, hp2, hp3, hp4⟩ := pow_code b 52 51 2251799813685248 (by decide) (by decide) (by decide) (by decide)
  rw [show ((52 : Nat) : Int) = 52 from rfl] at hp1
  have ht := tmod_bounds at_ (P + 1) (by omega)
  obtain ⟨lo, hlo⟩ : ∃ lo, at_.tmod (P + 1) = lo := ⟨_, rfl⟩
  have e1 : dLo 52 at_ b = lo := by unfold dLo; rw [hp1, hlo]
  have e2 : dHi at_ b wd = min (lo + wd) 4503599627370496 := by unfold dHi; rw [e1]
  rw [e1, e2]
  clear e1 e2
  rw [hlo] at ht
  have hz : ¬ P + 1 = 0 := by omega
  have hq : wrap64 wd = wd := w64_id (by omega) (by omega)
  have hs : wrap64 (lo + wd) = lo + wd := w64_id (by omega) (by omega)
  clear ht hp3 hp4
  go_enter Tryd.func13, Tryd.ntmps13
  go_wp2_with (fail)
  refine bodyPost_ret (v := .agg #[.int .i64 lo, .int .i64 (min (lo + wd) 4503599627370496)]) (by simp [results, Tryd.results13, go_sem, *]) rfl ⟨rfl, by (repeat' (first | (with_reducible exact Below.refl _ _) | (with_reducible refine Below.setCell ?_ ?_ _) | (with_reducible refine Below.alloc ?_ ?_ _) | (with_reducible refine Below.drew ?_) | (with_reducible refine below_drewN ?_ _) | (with_reducible assumption) | (with_reducible refine Below.trans ?_ (Below.mono (by with_reducible assumption) ?_)) | omega | (simp; done) | (simp; omega) | (simp [World.setCell]; omega)))⟩

end Go.Proofs.YtpdaigenffecmaaDoor

namespace Go.Proofs.YtpdaigenffecmaaDoor
open Go.RowKit

theorem wI {x : Int} (h1 : -9223372036854775808 ≤ x) (h2 : x ≤ 9223372036854775807) : IntKind.i64.wrap x = x := IntWalk.i64_in x ⟨h1, h2⟩
theorem wI0 {x : Int} (h1 : -9223372036854775807 ≤ x) (h2 : x ≤ 9223372036854775807) : IntKind.i64.wrap (0 - x) = -x := by rw [wI (by omega) (by omega)]; omega
theorem ar_shr1 (x : Int) : ArOk .shr .i64 x .u64 1 (x / 2) := by
  intro P t w
  show (Op.shift .shr .i64 x .u64 1).run P w = _
  unfold Op.shift
  rw [if_neg (by decide)]
  show Result.ok (Value.int .i64 (x.fdiv (2 ^ (min (1 : Int).toNat IntKind.i64.bits)))) w = _
  have e : x.fdiv (2 ^ (min (1 : Int).toNat IntKind.i64.bits)) = x / 2 := by
    rw [show (2 : Int) ^ (min (1 : Int).toNat IntKind.i64.bits) = 2 from by decide]
    exact Int.fdiv_eq_ediv_of_nonneg x (by decide)
  rw [e]
theorem ar_rem2 (x : Int) : ArOk .rem .i64 x .i64 2 (x.tmod 2) := by
  intro P t w
  show (Op.intDiv .rem .i64 x 2).run P w = _
  unfold Op.intDiv
  rw [if_neg (by decide)]; rfl
theorem ar_rem (x : Int) {y : Int} {k : IntKind} (hy : y ≠ 0) : ArOk .rem k x k y (x.tmod y) := by
  intro P t w
  unfold binOp
  simp only [ne_eq, not_true_eq_false, if_false]
  show (Op.intDiv .rem k x y).run P w = _
  unfold Op.intDiv
  rw [if_neg hy]; rfl
theorem ar_quo2 {x r : Int} (h : IntKind.i64.wrap (x.tdiv 2) = r) : ArOk .quo .i64 x .i64 2 r := by
  intro P t w
  show (Op.intDiv .quo .i64 x 2).run P w = _
  unfold Op.intDiv
  rw [if_neg (by decide), ← h]; rfl
theorem beq_dec (x : Int) : (x == 0) = decide (x = 0) := by rw [Bool.eq_iff_iff]; simp
theorem bne_dec (x : Int) : (x != 0) = decide (x ≠ 0) := by rw [Bool.eq_iff_iff]; simp
theorem mid_div (n : Int) : (if n < 0 ∧ n.tmod 2 ≠ 0 then (n - 1).tdiv 2 else n.tdiv 2) = n / 2 := by
  rcases Int.lt_or_le n 0 with h | h
  · obtain ⟨m, rfl⟩ : ∃ m, n = -m := ⟨-n, by omega⟩
    have e1 : (-m).tdiv 2 = -(m / 2) := by rw [Int.neg_tdiv, Int.tdiv_eq_ediv_of_nonneg (by omega)]
    have e2 : (-m).tmod 2 = -(m % 2) := by rw [Int.neg_tmod, Int.tmod_eq_emod_of_nonneg (by omega)]
    have e3 : (-m - 1).tdiv 2 = -((m + 1) / 2) := by rw [show -m - 1 = -(m + 1) by omega, Int.neg_tdiv, Int.tdiv_eq_ediv_of_nonneg (by omega)]
    rw [e1, e2, e3]
    split <;> omega
  · rw [if_neg (by omega), Int.tdiv_eq_ediv_of_nonneg h]
theorem mid_quo {al ah : Int} {vn vo : Bool} (hn : vn = decide (al + ah < 0)) (ho : vo = decide ((al + ah).tmod 2 ≠ 0)) (h1 : -9223372036854775807 ≤ al + ah) (h2 : al + ah ≤ 9223372036854775807) :
    ArOk .quo .i64 (γI (ρL [al, ah, al + ah, (al + ah) / 2, (al + ah).tmod 2, al + ah - 1]) (if vn && vo then .sym 5 else .sym 2)) .i64 2 ((al + ah) / 2) := by
  have h := mid_div (al + ah)
  by_cases q : al + ah < 0 ∧ (al + ah).tmod 2 ≠ 0
  · rw [if_pos q] at h
    have e : (vn && vo) = true := by rw [hn, ho, decide_eq_true q.1, decide_eq_true q.2]; rfl
    rw [e]
    refine ar_quo2 (x := al + ah - 1) ?_
    rw [h]
    exact wI (by omega) (by omega)
  · rw [if_neg q] at h
    have e : (vn && vo) = false := by
      rw [hn, ho]
      by_cases q1 : al + ah < 0
      · rw [decide_eq_false (fun q2 => q ⟨q1, q2⟩)]; simp
      · rw [decide_eq_false q1]; rfl
    rw [e]
    refine ar_quo2 (x := al + ah) ?_
    rw [h]
    exact wI (by omega) (by omega)

end Go.Proofs.YtpdaigenffecmaaDoor

namespace Go.Proofs.YtpdaigenffecmaaDoor

def spMin (a b : Int × Int) : Int × Int × Int := if spAll a b = 0 then (min a.1 b.1, min a.2 b.2, 0) else (0, 0, 20)
def spMax (a b : Int × Int) : Int × Int × Int := if spAll a b = 0 then (max a.1 b.1, max a.2 b.2, 0) else (0, 0, 20)
def spHull (a b : Int × Int) : Int × Int × Int := if spAll a b = 0 then (min a.1 b.1, max a.2 b.2, 0) else (0, 0, 20)
def spMeet (a b : Int × Int) : Int × Int × Int :=
  if spAll a b = 0 then (if min a.2 b.2 < max a.1 b.1 then (0, 0, 4) else (max a.1 b.1, min a.2 b.2, 0)) else (0, 0, 20)
def spHas (a : Int × Int) (v : Int) : Bool × Int := if spChk a = 0 then (decide (a.1 ≤ v) && decide (v ≤ a.2), 0) else (false, 20)
def spMid (a : Int × Int) : Int × Int := if spChk a = 0 then ((a.1 + a.2) / 2, 0) else (0, 20)
def spWidth (a : Int × Int) : Int × Int := if spChk a = 0 then (a.2 - a.1, 0) else (0, 20)
def spSign (a : Int × Int) : Int × Int :=
  if spChk a = 0 then (if 0 < a.1 then (1, 0) else if a.2 < 0 then (-1, 0) else if a.1 = 0 ∧ a.2 = 0 then (0, 0) else (2, 0)) else (0, 20)
theorem spAll_eq {a b : Int × Int} (ha : spChk a = 0) (hb : spChk b = 0) : spAll a b = 0 := by unfold spAll; rw [if_pos ha, hb]
theorem spAll_ne {a b : Int × Int} (h : spChk a ≠ 0 ∨ spChk b ≠ 0) : ¬ spAll a b = 0 := fun e => by
  have := spAll_ok e; rcases h with h | h <;> omega
theorem spAbs_is {a : Int × Int} (h : spChk a = 0) : spAbs a = (max (max a.1 (-a.2)) 0, max a.2 (-a.1), 0) := by
  obtain ⟨h1, h2, h3⟩ := spChk_ok h
  unfold spAbs spTold; rw [if_pos h, if_neg (by omega)]

end Go.Proofs.YtpdaigenffecmaaDoor

namespace Go.Proofs.YtpdaigenffecmaaDoor
open Go.RowKit


/-! ### span.Min -/
def pMinL (va vb : Bool) : List Ent := [⟨18, [SV [0, 1]], N1 (if va then 0 else 20)⟩, ⟨18, [SV [2, 3]], N1 (if vb then 0 else 20)⟩]
def pMinF (va vb : Bool) : Facts := if va && vb then { cmp := [(.lss, .sym 4, .lit (-4503599627370496), false), (.gtr, .sym 5, .lit (4503599627370496), false)], ar := [], mm := [(false, .sym 0, .sym 2, .sym 4), (false, .sym 1, .sym 3, .sym 5)] } else {}
theorem pMin_run (va vb : Bool) : runA Tryd.prog (tab Tryd.prog (pMinF va vb) [(23, 2)] (pMinL va vb) []) 4 38 [SV [0, 1], SV [2, 3]] = some (if va && vb then SE0 [4, 5] else RE [0, 0] 20) := by
  cases va <;> cases vb <;> kernel_rfl
theorem c_spanMin (al ah bl bh : Int) (w : World) :
    Calls Tryd.prog 38 #[.agg #[.int .i64 al, .int .i64 ah], .agg #[.int .i64 bl, .int .i64 bh]] w fun e w' => e = .returned (.tuple #[.agg #[.int .i64 (spMin (al, ah) (bl, bh)).1, .int .i64 (spMin (al, ah) (bl, bh)).2.1], .int .i64 (spMin (al, ah) (bl, bh)).2.2]) ∧ Below w.heap.size w w' := by
  obtain ⟨va, hva⟩ : ∃ b, b = decide (spChk (al, ah) = 0) := ⟨_, rfl⟩
  obtain ⟨vb, hvb⟩ : ∃ b, b = decide (spChk (bl, bh) = 0) := ⟨_, rfl⟩
  obtain ⟨ρ, hρ⟩ : ∃ ρ, ρ = ρL [al, ah, bl, bh, (min al bl), (min ah bh)] := ⟨_, rfl⟩
  have hL : ∀ e ∈ pMinL va vb, EntOk Tryd.prog ρ e := by
    intro e he
    simp only [pMinL, List.mem_cons, List.not_mem_nil, or_false] at he
    rcases he with rfl | rfl
    · rw [hρ]; intro s w; have h := c_spanCheck al ah w; rw [show spChk (al, ah) = if va then 0 else 20 from by rcases spChk_or (al, ah) with q | q <;> rw [hva, q] <;> rfl] at h; exact h
    · rw [hρ]; intro s w; have h := c_spanCheck bl bh w; rw [show spChk (bl, bh) = if vb then 0 else 20 from by rcases spChk_or (bl, bh) with q | q <;> rw [hvb, q] <;> rfl] at h; exact h
  have hF : FactsOk ρ (pMinF va vb) := by
    unfold pMinF
    split
    · rename_i hg
      simp only [Bool.and_eq_true] at hg
      obtain ⟨ga, gb⟩ := hg
      rw [hva] at ga; rw [hvb] at gb
      obtain ⟨a1, a2, a3⟩ := spChk_ok (of_decide_eq_true ga); obtain ⟨b1, b2, b3⟩ := spChk_ok (of_decide_eq_true gb)
      simp only at a1 a2 a3 b1 b2 b3
      refine ⟨?_, ?_, ?_, ?_⟩
      · intro e he
        simp only [List.mem_cons, List.not_mem_nil, or_false] at he
        rcases he with rfl | rfl
        · rw [hρ]; exact congrArg some (decide_eq_false (show ¬ ((min al bl) < -4503599627370496) by omega))
        · rw [hρ]; exact congrArg some (decide_eq_false (show ¬ ((min ah bh) > 4503599627370496) by omega))
      · simp
      · simp
      · intro e he
        simp only [List.mem_cons, List.not_mem_nil, or_false] at he
        rcases he with rfl | rfl
        · rw [hρ]; rfl
        · rw [hρ]; rfl
    · exact ⟨by simp, by simp, by simp, by simp⟩
  have h := calls_run (pMin_run va vb) hF (by intro e he; simp only [List.mem_cons, List.not_mem_nil, or_false] at he; subst he; exact eqOk_span) hL (by simp) rfl w
  rw [hρ] at h
  refine (show Calls Tryd.prog 38 #[.agg #[.int .i64 al, .int .i64 ah], .agg #[.int .i64 bl, .int .i64 bh]] w _ from h).mono ?_
  rintro e w' ⟨⟨s, rfl⟩, hb⟩
  refine ⟨?_, hb⟩
  by_cases qa : spChk (al, ah) = 0
  · by_cases qb : spChk (bl, bh) = 0
    · have ea : va = true := by rw [hva]; exact decide_eq_true qa
      have eb : vb = true := by rw [hvb]; exact decide_eq_true qb
      subst ea; subst eb
      rw [show spMin (al, ah) (bl, bh) = (min al bl, min ah bh, 0) from by unfold spMin; rw [if_pos (spAll_eq qa qb)]]
      rfl
    · have eb : vb = false := by rw [hvb]; exact decide_eq_false qb
      subst eb
      rw [show spMin (al, ah) (bl, bh) = (0, 0, 20) from by unfold spMin; rw [if_neg (spAll_ne (.inr qb))]]
      cases va <;> rfl
  · have ea : va = false := by rw [hva]; exact decide_eq_false qa
    subst ea
    rw [show spMin (al, ah) (bl, bh) = (0, 0, 20) from by unfold spMin; rw [if_neg (spAll_ne (.inl qa))]]
    rfl

/-! ### span.Max -/
def pMaxL (va vb : Bool) : List Ent := [⟨18, [SV [0, 1]], N1 (if va then 0 else 20)⟩, ⟨18, [SV [2, 3]], N1 (if vb then 0 else 20)⟩]
def pMaxF (va vb : Bool) : Facts := if va && vb then { cmp := [(.lss, .sym 4, .lit (-4503599627370496), false), (.gtr, .sym 5, .lit (4503599627370496), false)], ar := [], mm := [(true, .sym 0, .sym 2, .sym 4), (true, .sym 1, .sym 3, .sym 5)] } else {}
theorem pMax_run (va vb : Bool) : runA Tryd.prog (tab Tryd.prog (pMaxF va vb) [(23, 2)] (pMaxL va vb) []) 4 40 [SV [0, 1], SV [2, 3]] = some (if va && vb then SE0 [4, 5] else RE [0, 0] 20) := by
  cases va <;> cases vb <;> kernel_rfl
theorem c_spanMax (al ah bl bh : Int) (w : World) :
    Calls Tryd.prog 40 #[.agg #[.int .i64 al, .int .i64 ah], .agg #[.int .i64 bl, .int .i64 bh]] w fun e w' => e = .returned (.tuple #[.agg #[.int .i64 (spMax (al, ah) (bl, bh)).1, .int .i64 (spMax (al, ah) (bl, bh)).2.1], .int .i64 (spMax (al, ah) (bl, bh)).2.2]) ∧ Below w.heap.size w w' := by
  obtain ⟨va, hva⟩ : ∃ b, b = decide (spChk (al, ah) = 0) := ⟨_, rfl⟩
  obtain ⟨vb, hvb⟩ : ∃ b, b = decide (spChk (bl, bh) = 0) := ⟨_, rfl⟩
  obtain ⟨ρ, hρ⟩ : ∃ ρ, ρ = ρL [al, ah, bl, bh, (max al bl), (max ah bh)] := ⟨_, rfl⟩
  have hL : ∀ e ∈ pMaxL va vb, EntOk Tryd.prog ρ e := by
    intro e he
    simp only [pMaxL, List.mem_cons, List.not_mem_nil, or_false] at he
    rcases he with rfl | rfl
    · rw [hρ]; intro s w; have h := c_spanCheck al ah w; rw [show spChk (al, ah) = if va then 0 else 20 from by rcases spChk_or (al, ah) with q | q <;> rw [hva, q] <;> rfl] at h; exact h
    · rw [hρ]; intro s w; have h := c_spanCheck bl bh w; rw [show spChk (bl, bh) = if vb then 0 else 20 from by rcases spChk_or (bl, bh) with q | q <;> rw [hvb, q] <;> rfl] at h; exact h
  have hF : FactsOk ρ (pMaxF va vb) := by
    unfold pMaxF
    split
    · rename_i hg
      simp only [Bool.and_eq_true] at hg
      obtain ⟨ga, gb⟩ := hg
      rw [hva] at ga; rw [hvb] at gb
      obtain ⟨a1, a2, a3⟩ := spChk_ok (of_decide_eq_true ga); obtain ⟨b1, b2, b3⟩ := spChk_ok (of_decide_eq_true gb)
      simp only at a1 a2 a3 b1 b2 b3
      refine ⟨?_, ?_, ?_, ?_⟩
      · intro e he
        simp only [List.mem_cons, List.not_mem_nil, or_false] at he
        rcases he with rfl | rfl
        · rw [hρ]; exact congrArg some (decide_eq_false (show ¬ ((max al bl) < -4503599627370496) by omega))
        · rw [hρ]; exact congrArg some (decide_eq_false (show ¬ ((max ah bh) > 4503599627370496) by omega))
      · simp
      · simp
      · intro e he
        simp only [List.mem_cons, List.not_mem_nil, or_false] at he
        rcases he with rfl | rfl
        · rw [hρ]; rfl
        · rw [hρ]; rfl
    · exact ⟨by simp, by simp, by simp, by simp⟩
  have h := calls_run (pMax_run va vb) hF (by intro e he; simp only [List.mem_cons, List.not_mem_nil, or_false] at he; subst he; exact eqOk_span) hL (by simp) rfl w
  rw [hρ] at h
  refine (show Calls Tryd.prog 40 #[.agg #[.int .i64 al, .int .i64 ah], .agg #[.int .i64 bl, .int .i64 bh]] w _ from h).mono ?_
  rintro e w' ⟨⟨s, rfl⟩, hb⟩
  refine ⟨?_, hb⟩
  by_cases qa : spChk (al, ah) = 0
  · by_cases qb : spChk (bl, bh) = 0
    · have ea : va = true := by rw [hva]; exact decide_eq_true qa
      have eb : vb = true := by rw [hvb]; exact decide_eq_true qb
      subst ea; subst eb
      rw [show spMax (al, ah) (bl, bh) = (max al bl, max ah bh, 0) from by unfold spMax; rw [if_pos (spAll_eq qa qb)]]
      rfl
    · have eb : vb = false := by rw [hvb]; exact decide_eq_false qb
      subst eb
      rw [show spMax (al, ah) (bl, bh) = (0, 0, 20) from by unfold spMax; rw [if_neg (spAll_ne (.inr qb))]]
      cases va <;> rfl
  · have ea : va = false := by rw [hva]; exact decide_eq_false qa
    subst ea
    rw [show spMax (al, ah) (bl, bh) = (0, 0, 20) from by unfold spMax; rw [if_neg (spAll_ne (.inl qa))]]
    rfl

/-! ### span.Hull -/
def pHullL (va vb : Bool) : List Ent := [⟨18, [SV [0, 1]], N1 (if va then 0 else 20)⟩, ⟨18, [SV [2, 3]], N1 (if vb then 0 else 20)⟩]
def pHullF (va vb : Bool) : Facts := if va && vb then { cmp := [(.lss, .sym 4, .lit (-4503599627370496), false), (.gtr, .sym 5, .lit (4503599627370496), false)], ar := [], mm := [(false, .sym 0, .sym 2, .sym 4), (true, .sym 1, .sym 3, .sym 5)] } else {}
theorem pHull_run (va vb : Bool) : runA Tryd.prog (tab Tryd.prog (pHullF va vb) [(23, 2)] (pHullL va vb) []) 4 42 [SV [0, 1], SV [2, 3]] = some (if va && vb then SE0 [4, 5] else RE [0, 0] 20) := by
  cases va <;> cases vb <;> kernel_rfl
theorem c_spanHull (al ah bl bh : Int) (w : World) :
    Calls Tryd.prog 42 #[.agg #[.int .i64 al, .int .i64 ah], .agg #[.int .i64 bl, .int .i64 bh]] w fun e w' => e = .returned (.tuple #[.agg #[.int .i64 (spHull (al, ah) (bl, bh)).1, .int .i64 (spHull (al, ah) (bl, bh)).2.1], .int .i64 (spHull (al, ah) (bl, bh)).2.2]) ∧ Below w.heap.size w w' := by
  obtain ⟨va, hva⟩ : ∃ b, b = decide (spChk (al, ah) = 0) := ⟨_, rfl⟩
  obtain ⟨vb, hvb⟩ : ∃ b, b = decide (spChk (bl, bh) = 0) := ⟨_, rfl⟩
  obtain ⟨ρ, hρ⟩ : ∃ ρ, ρ = ρL [al, ah, bl, bh, (min al bl), (max ah bh)] := ⟨_, rfl⟩
  have hL : ∀ e ∈ pHullL va vb, EntOk Tryd.prog ρ e := by
    intro e he
    simp only [pHullL, List.mem_cons, List.not_mem_nil, or_false] at he
    rcases he with rfl | rfl
    · rw [hρ]; intro s w; have h := c_spanCheck al ah w; rw [show spChk (al, ah) = if va then 0 else 20 from by rcases spChk_or (al, ah) with q | q <;> rw [hva, q] <;> rfl] at h; exact h
    · rw [hρ]; intro s w; have h := c_spanCheck bl bh w; rw [show spChk (bl, bh) = if vb then 0 else 20 from by rcases spChk_or (bl, bh) with q | q <;> rw [hvb, q] <;> rfl] at h; exact h
  have hF : FactsOk ρ (pHullF va vb) := by
    unfold pHullF
    split
    · rename_i hg
      simp only [Bool.and_eq_true] at hg
      obtain ⟨ga, gb⟩ := hg
      rw [hva] at ga; rw [hvb] at gb
      obtain ⟨a1, a2, a3⟩ := spChk_ok (of_decide_eq_true ga); obtain ⟨b1, b2, b3⟩ := spChk_ok (of_decide_eq_true gb)
      simp only at a1 a2 a3 b1 b2 b3
      refine ⟨?_, ?_, ?_, ?_⟩
      · intro e he
        simp only [List.mem_cons, List.not_mem_nil, or_false] at he
        rcases he with rfl | rfl
        · rw [hρ]; exact congrArg some (decide_eq_false (show ¬ ((min al bl) < -4503599627370496) by omega))
        · rw [hρ]; exact congrArg some (decide_eq_false (show ¬ ((max ah bh) > 4503599627370496) by omega))
      · simp
      · simp
      · intro e he
        simp only [List.mem_cons, List.not_mem_nil, or_false] at he
        rcases he with rfl | rfl
        · rw [hρ]; rfl
        · rw [hρ]; rfl
    · exact ⟨by simp, by simp, by simp, by simp⟩
  have h := calls_run (pHull_run va vb) hF (by intro e he; simp only [List.mem_cons, List.not_mem_nil, or_false] at he; subst he; exact eqOk_span) hL (by simp) rfl w
  rw [hρ] at h
  refine (show Calls Tryd.prog 42 #[.agg #[.int .i64 al, .int .i64 ah], .agg #[.int .i64 bl, .int .i64 bh]] w _ from h).mono ?_
  rintro e w' ⟨⟨s, rfl⟩, hb⟩
  refine ⟨?_, hb⟩
  by_cases qa : spChk (al, ah) = 0
  · by_cases qb : spChk (bl, bh) = 0
    · have ea : va = true := by rw [hva]; exact decide_eq_true qa
      have eb : vb = true := by rw [hvb]; exact decide_eq_true qb
      subst ea; subst eb
      rw [show spHull (al, ah) (bl, bh) = (min al bl, max ah bh, 0) from by unfold spHull; rw [if_pos (spAll_eq qa qb)]]
      rfl
    · have eb : vb = false := by rw [hvb]; exact decide_eq_false qb
      subst eb
      rw [show spHull (al, ah) (bl, bh) = (0, 0, 20) from by unfold spHull; rw [if_neg (spAll_ne (.inr qb))]]
      cases va <;> rfl
  · have ea : va = false := by rw [hva]; exact decide_eq_false qa
    subst ea
    rw [show spHull (al, ah) (bl, bh) = (0, 0, 20) from by unfold spHull; rw [if_neg (spAll_ne (.inl qa))]]
    rfl

/-! ### span.Meet -/
def pMeetL (va vb vn : Bool) : List Ent := [⟨18, [SV [0, 1]], N1 (if va then 0 else 20)⟩, ⟨18, [SV [2, 3]], N1 (if vb then 0 else 20)⟩]
def pMeetF (va vb vn : Bool) : Facts := if va && vb then { cmp := [(.gtr, .sym 4, .sym 5, vn), (.lss, .sym 4, .lit (-4503599627370496), false), (.gtr, .sym 5, .lit (4503599627370496), false)], ar := [], mm := [(true, .sym 0, .sym 2, .sym 4), (false, .sym 1, .sym 3, .sym 5)] } else {}
theorem pMeet_run (va vb vn : Bool) : runA Tryd.prog (tab Tryd.prog (pMeetF va vb vn) [(23, 2)] (pMeetL va vb vn) []) 4 44 [SV [0, 1], SV [2, 3]] = some (if va && vb then (if vn then RE [0, 0] 4 else SE0 [4, 5]) else RE [0, 0] 20) := by
  cases va <;> cases vb <;> cases vn <;> kernel_rfl
theorem c_spanMeet (al ah bl bh : Int) (w : World) :
    Calls Tryd.prog 44 #[.agg #[.int .i64 al, .int .i64 ah], .agg #[.int .i64 bl, .int .i64 bh]] w fun e w' => e = .returned (.tuple #[.agg #[.int .i64 (spMeet (al, ah) (bl, bh)).1, .int .i64 (spMeet (al, ah) (bl, bh)).2.1], .int .i64 (spMeet (al, ah) (bl, bh)).2.2]) ∧ Below w.heap.size w w' := by
  obtain ⟨va, hva⟩ : ∃ b, b = decide (spChk (al, ah) = 0) := ⟨_, rfl⟩
  obtain ⟨vb, hvb⟩ : ∃ b, b = decide (spChk (bl, bh) = 0) := ⟨_, rfl⟩
  obtain ⟨vn, hvn⟩ : ∃ b, b = decide (max al bl > min ah bh) := ⟨_, rfl⟩
  obtain ⟨ρ, hρ⟩ : ∃ ρ, ρ = ρL [al, ah, bl, bh, (max al bl), (min ah bh)] := ⟨_, rfl⟩
  have hL : ∀ e ∈ pMeetL va vb vn, EntOk Tryd.prog ρ e := by
    intro e he
    simp only [pMeetL, List.mem_cons, List.not_mem_nil, or_false] at he
    rcases he with rfl | rfl
    · rw [hρ]; intro s w; have h := c_spanCheck al ah w; rw [show spChk (al, ah) = if va then 0 else 20 from by rcases spChk_or (al, ah) with q | q <;> rw [hva, q] <;> rfl] at h; exact h
    · rw [hρ]; intro s w; have h := c_spanCheck bl bh w; rw [show spChk (bl, bh) = if vb then 0 else 20 from by rcases spChk_or (bl, bh) with q | q <;> rw [hvb, q] <;> rfl] at h; exact h
  have hF : FactsOk ρ (pMeetF va vb vn) := by
    unfold pMeetF
    split
    · rename_i hg
      simp only [Bool.and_eq_true] at hg
      obtain ⟨ga, gb⟩ := hg
      rw [hva] at ga; rw [hvb] at gb
      obtain ⟨a1, a2, a3⟩ := spChk_ok (of_decide_eq_true ga); obtain ⟨b1, b2, b3⟩ := spChk_ok (of_decide_eq_true gb)
      simp only at a1 a2 a3 b1 b2 b3
      refine ⟨?_, ?_, ?_, ?_⟩
      · intro e he
        simp only [List.mem_cons, List.not_mem_nil, or_false] at he
        rcases he with rfl | rfl | rfl
        · rw [hρ]; rw [hvn]; rfl
        · rw [hρ]; exact congrArg some (decide_eq_false (show ¬ ((max al bl) < -4503599627370496) by omega))
        · rw [hρ]; exact congrArg some (decide_eq_false (show ¬ ((min ah bh) > 4503599627370496) by omega))
      · simp
      · simp
      · intro e he
        simp only [List.mem_cons, List.not_mem_nil, or_false] at he
        rcases he with rfl | rfl
        · rw [hρ]; rfl
        · rw [hρ]; rfl
    · exact ⟨by simp, by simp, by simp, by simp⟩
  have h := calls_run (pMeet_run va vb vn) hF (by intro e he; simp only [List.mem_cons, List.not_mem_nil, or_false] at he; subst he; exact eqOk_span) hL (by simp) rfl w
  rw [hρ] at h
  refine (show Calls Tryd.prog 44 #[.agg #[.int .i64 al, .int .i64 ah], .agg #[.int .i64 bl, .int .i64 bh]] w _ from h).mono ?_
  rintro e w' ⟨⟨s, rfl⟩, hb⟩
  refine ⟨?_, hb⟩
  by_cases qa : spChk (al, ah) = 0
  · by_cases qb : spChk (bl, bh) = 0
    · have ea : va = true := by rw [hva]; exact decide_eq_true qa
      have eb : vb = true := by rw [hvb]; exact decide_eq_true qb
      subst ea; subst eb
      rw [show spMeet (al, ah) (bl, bh) = if min ah bh < max al bl then (0, 0, 4) else (max al bl, min ah bh, 0) from by unfold spMeet; rw [if_pos (spAll_eq qa qb)]]
      by_cases qn : min ah bh < max al bl
      · have en : vn = true := by rw [hvn]; exact decide_eq_true qn
        subst en; rw [if_pos qn]; rfl
      · have en : vn = false := by rw [hvn]; exact decide_eq_false qn
        subst en; rw [if_neg qn]; rfl
    · have eb : vb = false := by rw [hvb]; exact decide_eq_false qb
      subst eb
      rw [show spMeet (al, ah) (bl, bh) = (0, 0, 20) from by unfold spMeet; rw [if_neg (spAll_ne (.inr qb))]]
      cases va <;> cases vn <;> rfl
  · have ea : va = false := by rw [hva]; exact decide_eq_false qa
    subst ea
    rw [show spMeet (al, ah) (bl, bh) = (0, 0, 20) from by unfold spMeet; rw [if_neg (spAll_ne (.inl qa))]]
    cases vb <;> cases vn <;> rfl

/-! ### span.Has -/
def pHasL (va vl vu : Bool) : List Ent := [⟨18, [SV [0, 1]], N1 (if va then 0 else 20)⟩]
def pHasF (va vl vu : Bool) : Facts := if va then { cmp := [(.leq, .sym 0, .sym 2, vl), (.leq, .sym 2, .sym 1, vu)], ar := [], mm := [] } else {}
theorem pHas_run (va vl vu : Bool) : runA Tryd.prog (tab Tryd.prog (pHasF va vl vu) [(23, 2)] (pHasL va vl vu) []) 4 49 [SV [0, 1], .v (.one (S1 2))] = some (.tup [.one (.bool (va && (vl && vu))), .one (.int .i64 (.lit (if va then 0 else 20)))]) := by
  cases va <;> cases vl <;> cases vu <;> kernel_rfl
theorem c_spanHas (al ah v : Int) (w : World) :
    Calls Tryd.prog 49 #[.agg #[.int .i64 al, .int .i64 ah], .int .i64 v] w fun e w' => e = .returned (.tuple #[.bool (spHas (al, ah) v).1, .int .i64 (spHas (al, ah) v).2]) ∧ Below w.heap.size w w' := by
  obtain ⟨va, hva⟩ : ∃ b, b = decide (spChk (al, ah) = 0) := ⟨_, rfl⟩
  obtain ⟨vl, hvl⟩ : ∃ b, b = decide (al ≤ v) := ⟨_, rfl⟩
  obtain ⟨vu, hvu⟩ : ∃ b, b = decide (v ≤ ah) := ⟨_, rfl⟩
  obtain ⟨ρ, hρ⟩ : ∃ ρ, ρ = ρL [al, ah, v] := ⟨_, rfl⟩
  have hL : ∀ e ∈ pHasL va vl vu, EntOk Tryd.prog ρ e := by
    intro e he
    simp only [pHasL, List.mem_cons, List.not_mem_nil, or_false] at he
    rcases he with rfl
    · rw [hρ]; intro s w; have h := c_spanCheck al ah w; rw [show spChk (al, ah) = if va then 0 else 20 from by rcases spChk_or (al, ah) with q | q <;> rw [hva, q] <;> rfl] at h; exact h
  have hF : FactsOk ρ (pHasF va vl vu) := by
    unfold pHasF
    split
    · rename_i hg
      rw [hva] at hg
      obtain ⟨a1, a2, a3⟩ := spChk_ok (of_decide_eq_true hg)
      simp only at a1 a2 a3
      refine ⟨?_, ?_, ?_, ?_⟩
      · intro e he
        simp only [List.mem_cons, List.not_mem_nil, or_false] at he
        rcases he with rfl | rfl
        · rw [hρ]; rw [hvl]; rfl
        · rw [hρ]; rw [hvu]; rfl
      · simp
      · simp
      · simp
    · exact ⟨by simp, by simp, by simp, by simp⟩
  have h := calls_run (pHas_run va vl vu) hF (by intro e he; simp only [List.mem_cons, List.not_mem_nil, or_false] at he; subst he; exact eqOk_span) hL (by simp) rfl w
  rw [hρ] at h
  refine (show Calls Tryd.prog 49 #[.agg #[.int .i64 al, .int .i64 ah], .int .i64 v] w _ from h).mono ?_
  rintro e w' ⟨⟨s, rfl⟩, hb⟩
  refine ⟨?_, hb⟩
  by_cases qa : spChk (al, ah) = 0
  · have ea : va = true := by rw [hva]; exact decide_eq_true qa
    subst ea
    rw [show spHas (al, ah) v = (decide (al ≤ v) && decide (v ≤ ah), 0) from by unfold spHas; rw [if_pos qa]]
    rw [← hvl, ← hvu]; rfl
  · have ea : va = false := by rw [hva]; exact decide_eq_false qa
    subst ea
    rw [show spHas (al, ah) v = (false, 20) from by unfold spHas; rw [if_neg qa]]
    rfl

/-! ### span.Width -/
def pWidthL (va : Bool) : List Ent := [⟨18, [SV [0, 1]], N1 (if va then 0 else 20)⟩]
def pWidthF (va : Bool) : Facts := if va then { cmp := [], ar := [(.sub, .i64, .sym 1, .i64, .sym 0, .sym 2)], mm := [] } else {}
theorem pWidth_run (va : Bool) : runA Tryd.prog (tab Tryd.prog (pWidthF va) [(23, 2)] (pWidthL va) []) 4 53 [SV [0, 1]] = some (if va then .tup [.one (S1 2), .one (.int .i64 (.lit 0))] else .tup [.one (.int .i64 (.lit 0)), .one (.int .i64 (.lit 20))]) := by
  cases va <;> kernel_rfl
theorem c_spanWidth (al ah : Int) (w : World) :
    Calls Tryd.prog 53 #[.agg #[.int .i64 al, .int .i64 ah]] w fun e w' => e = .returned (.tuple #[.int .i64 (spWidth (al, ah)).1, .int .i64 (spWidth (al, ah)).2]) ∧ Below w.heap.size w w' := by
  obtain ⟨va, hva⟩ : ∃ b, b = decide (spChk (al, ah) = 0) := ⟨_, rfl⟩
  obtain ⟨ρ, hρ⟩ : ∃ ρ, ρ = ρL [al, ah, (ah - al)] := ⟨_, rfl⟩
  have hL : ∀ e ∈ pWidthL va, EntOk Tryd.prog ρ e := by
    intro e he
    simp only [pWidthL, List.mem_cons, List.not_mem_nil, or_false] at he
    rcases he with rfl
    · rw [hρ]; intro s w; have h := c_spanCheck al ah w; rw [show spChk (al, ah) = if va then 0 else 20 from by rcases spChk_or (al, ah) with q | q <;> rw [hva, q] <;> rfl] at h; exact h
  have hF : FactsOk ρ (pWidthF va) := by
    unfold pWidthF
    split
    · rename_i hg
      rw [hva] at hg
      obtain ⟨a1, a2, a3⟩ := spChk_ok (of_decide_eq_true hg)
      simp only at a1 a2 a3
      refine ⟨?_, ?_, ?_, ?_⟩
      · simp
      · intro e he
        simp only [List.mem_cons, List.not_mem_nil, or_false] at he
        rcases he with rfl
        · rw [hρ]; exact (ar_sub (wI (by omega) (by omega)) : ArOk .sub .i64 ah .i64 al (ah - al))
      · simp
      · simp
    · exact ⟨by simp, by simp, by simp, by simp⟩
  have h := calls_run (pWidth_run va) hF (by intro e he; simp only [List.mem_cons, List.not_mem_nil, or_false] at he; subst he; exact eqOk_span) hL (by simp) rfl w
  rw [hρ] at h
  refine (show Calls Tryd.prog 53 #[.agg #[.int .i64 al, .int .i64 ah]] w _ from h).mono ?_
  rintro e w' ⟨⟨s, rfl⟩, hb⟩
  refine ⟨?_, hb⟩
  by_cases qa : spChk (al, ah) = 0
  · have ea : va = true := by rw [hva]; exact decide_eq_true qa
    subst ea
    rw [show spWidth (al, ah) = (ah - al, 0) from by unfold spWidth; rw [if_pos qa]]
    rfl
  · have ea : va = false := by rw [hva]; exact decide_eq_false qa
    subst ea
    rw [show spWidth (al, ah) = (0, 20) from by unfold spWidth; rw [if_neg qa]]
    rfl

/-! ### span.Mid -/
def pMidL (va : Bool) : List Ent := [⟨18, [SV [0, 1]], N1 (if va then 0 else 20)⟩]
def pMidF (va : Bool) : Facts := if va then { cmp := [], ar := [(.add, .i64, .sym 0, .i64, .sym 1, .sym 2), (.shr, .i64, .sym 2, .u64, .lit 1, .sym 3)], mm := [] } else {}
theorem pMid_run (va : Bool) : runA Tryd.prog (tab Tryd.prog (pMidF va) [(23, 2)] (pMidL va) []) 4 51 [SV [0, 1]] = some (if va then .tup [.one (S1 3), .one (.int .i64 (.lit 0))] else .tup [.one (.int .i64 (.lit 0)), .one (.int .i64 (.lit 20))]) := by
  cases va <;> kernel_rfl
theorem c_spanMid (al ah : Int) (w : World) :
    Calls Tryd.prog 51 #[.agg #[.int .i64 al, .int .i64 ah]] w fun e w' => e = .returned (.tuple #[.int .i64 (spMid (al, ah)).1, .int .i64 (spMid (al, ah)).2]) ∧ Below w.heap.size w w' := by
  obtain ⟨va, hva⟩ : ∃ b, b = decide (spChk (al, ah) = 0) := ⟨_, rfl⟩
  obtain ⟨ρ, hρ⟩ : ∃ ρ, ρ = ρL [al, ah, (al + ah), ((al + ah) / 2)] := ⟨_, rfl⟩
  have hL : ∀ e ∈ pMidL va, EntOk Tryd.prog ρ e := by
    intro e he
    simp only [pMidL, List.mem_cons, List.not_mem_nil, or_false] at he
    rcases he with rfl
    · rw [hρ]; intro s w; have h := c_spanCheck al ah w; rw [show spChk (al, ah) = if va then 0 else 20 from by rcases spChk_or (al, ah) with q | q <;> rw [hva, q] <;> rfl] at h; exact h
  have hF : FactsOk ρ (pMidF va) := by
    unfold pMidF
    split
    · rename_i hg
      rw [hva] at hg
      obtain ⟨a1, a2, a3⟩ := spChk_ok (of_decide_eq_true hg)
      simp only at a1 a2 a3
      refine ⟨?_, ?_, ?_, ?_⟩
      · simp
      · intro e he
        simp only [List.mem_cons, List.not_mem_nil, or_false] at he
        rcases he with rfl | rfl
        · rw [hρ]; exact (ar_add (wI (by omega) (by omega)) : ArOk .add .i64 al .i64 ah (al + ah))
        · rw [hρ]; exact ar_shr1 _
      · simp
      · simp
    · exact ⟨by simp, by simp, by simp, by simp⟩
  have h := calls_run (pMid_run va) hF (by intro e he; simp only [List.mem_cons, List.not_mem_nil, or_false] at he; subst he; exact eqOk_span) hL (by simp) rfl w
  rw [hρ] at h
  refine (show Calls Tryd.prog 51 #[.agg #[.int .i64 al, .int .i64 ah]] w _ from h).mono ?_
  rintro e w' ⟨⟨s, rfl⟩, hb⟩
  refine ⟨?_, hb⟩
  by_cases qa : spChk (al, ah) = 0
  · have ea : va = true := by rw [hva]; exact decide_eq_true qa
    subst ea
    rw [show spMid (al, ah) = ((al + ah) / 2, 0) from by unfold spMid; rw [if_pos qa]]
    rfl
  · have ea : va = false := by rw [hva]; exact decide_eq_false qa
    subst ea
    rw [show spMid (al, ah) = (0, 20) from by unfold spMid; rw [if_neg qa]]
    rfl

/-! ### span.Sign -/
def pSignL (va vp vn vz vy : Bool) : List Ent := [⟨18, [SV [0, 1]], N1 (if va then 0 else 20)⟩]
def pSignF (va vp vn vz vy : Bool) : Facts := if va then { cmp := [(.gtr, .sym 0, .lit 0, vp), (.lss, .sym 1, .lit 0, vn), (.eql, .sym 0, .lit 0, vz), (.eql, .sym 1, .lit 0, vy)], ar := [], mm := [] } else {}
theorem pSign_run (va vp vn vz vy : Bool) : runA Tryd.prog (tab Tryd.prog (pSignF va vp vn vz vy) [(23, 2)] (pSignL va vp vn vz vy) []) 4 55 [SV [0, 1]] = some (if va then (if vp then .tup [.one (.int .i64 (.lit (1))), .one (.int .i64 (.lit 0))] else if vn then .tup [.one (.int .i64 (.lit (-1))), .one (.int .i64 (.lit 0))] else if vz && vy then .tup [.one (.int .i64 (.lit (0))), .one (.int .i64 (.lit 0))] else .tup [.one (.int .i64 (.lit (2))), .one (.int .i64 (.lit 0))]) else .tup [.one (.int .i64 (.lit 0)), .one (.int .i64 (.lit 20))]) := by
  cases va <;> cases vp <;> cases vn <;> cases vz <;> cases vy <;> kernel_rfl
theorem c_spanSign (al ah : Int) (w : World) :
    Calls Tryd.prog 55 #[.agg #[.int .i64 al, .int .i64 ah]] w fun e w' => e = .returned (.tuple #[.int .i64 (spSign (al, ah)).1, .int .i64 (spSign (al, ah)).2]) ∧ Below w.heap.size w w' := by
  obtain ⟨va, hva⟩ : ∃ b, b = decide (spChk (al, ah) = 0) := ⟨_, rfl⟩
  obtain ⟨vp, hvp⟩ : ∃ b, b = decide (al > 0) := ⟨_, rfl⟩
  obtain ⟨vn, hvn⟩ : ∃ b, b = decide (ah < 0) := ⟨_, rfl⟩
  obtain ⟨vz, hvz⟩ : ∃ b, b = decide (al = 0) := ⟨_, rfl⟩
  obtain ⟨vy, hvy⟩ : ∃ b, b = decide (ah = 0) := ⟨_, rfl⟩
  obtain ⟨ρ, hρ⟩ : ∃ ρ, ρ = ρL [al, ah] := ⟨_, rfl⟩
  have hL : ∀ e ∈ pSignL va vp vn vz vy, EntOk Tryd.prog ρ e := by
    intro e he
    simp only [pSignL, List.mem_cons, List.not_mem_nil, or_false] at he
    rcases he with rfl
    · rw [hρ]; intro s w; have h := c_spanCheck al ah w; rw [show spChk (al, ah) = if va then 0 else 20 from by rcases spChk_or (al, ah) with q | q <;> rw [hva, q] <;> rfl] at h; exact h
  have hF : FactsOk ρ (pSignF va vp vn vz vy) := by
    unfold pSignF
    split
    · rename_i hg
      rw [hva] at hg
      obtain ⟨a1, a2, a3⟩ := spChk_ok (of_decide_eq_true hg)
      simp only at a1 a2 a3
      refine ⟨?_, ?_, ?_, ?_⟩
      · intro e he
        simp only [List.mem_cons, List.not_mem_nil, or_false] at he
        rcases he with rfl | rfl | rfl | rfl
        · rw [hρ]; rw [hvp]; rfl
        · rw [hρ]; rw [hvn]; rfl
        · rw [hρ]; rw [hvz]; exact congrArg some (beq_dec _)
        · rw [hρ]; rw [hvy]; exact congrArg some (beq_dec _)
      · simp
      · simp
      · simp
    · exact ⟨by simp, by simp, by simp, by simp⟩
  have h := calls_run (pSign_run va vp vn vz vy) hF (by intro e he; simp only [List.mem_cons, List.not_mem_nil, or_false] at he; subst he; exact eqOk_span) hL (by simp) rfl w
  rw [hρ] at h
  refine (show Calls Tryd.prog 55 #[.agg #[.int .i64 al, .int .i64 ah]] w _ from h).mono ?_
  rintro e w' ⟨⟨s, rfl⟩, hb⟩
  refine ⟨?_, hb⟩
  by_cases qa : spChk (al, ah) = 0
  · have ea : va = true := by rw [hva]; exact decide_eq_true qa
    subst ea
    rw [show spSign (al, ah) = (if 0 < al then (1, 0) else if ah < 0 then (-1, 0) else if al = 0 ∧ ah = 0 then (0, 0) else (2, 0)) from by unfold spSign; rw [if_pos qa]]
    obtain ⟨_, a2, _⟩ := spChk_ok qa
    simp only at a2
    rw [hvp, hvn, hvz, hvy]
    by_cases q1 : 0 < al
    · have e1 : decide (al > 0) = true := decide_eq_true q1
      have e2 : decide (ah < 0) = false := decide_eq_false (by omega)
      rw [if_pos q1, e1, e2]; rfl
    · have e1 : decide (al > 0) = false := decide_eq_false q1
      rw [if_neg q1, e1]
      by_cases q2 : ah < 0
      · have e2 : decide (ah < 0) = true := decide_eq_true q2
        rw [if_pos q2, e2]; rfl
      · have e2 : decide (ah < 0) = false := decide_eq_false q2
        rw [if_neg q2, e2]
        by_cases q3 : al = 0 ∧ ah = 0
        · rw [if_pos q3, decide_eq_true q3.1, decide_eq_true q3.2]; rfl
        · rw [if_neg q3]
          by_cases q4 : al = 0
          · rw [decide_eq_true q4, decide_eq_false (fun h => q3 ⟨q4, h⟩)]; rfl
          · rw [decide_eq_false q4]; rfl
  · have ea : va = false := by rw [hva]; exact decide_eq_false qa
    subst ea
    rw [show spSign (al, ah) = (0, 20) from by unfold spSign; rw [if_neg qa]]
    rfl

end Go.Proofs.YtpdaigenffecmaaDoor
