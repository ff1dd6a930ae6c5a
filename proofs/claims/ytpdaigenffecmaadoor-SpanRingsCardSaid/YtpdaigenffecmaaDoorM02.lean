/-
  A loop of a known number of rounds, walked round by round.
-/
import Derived.WalkKit
import Derived.ControlIn
set_option linter.all false
namespace Go.Proofs.YtpdaigenffecmaaDoor
open Go Go.RowKit

/-- At most n rounds of c, and then Q: said by unrolling. -/
def Rounds (P : Program) (c : Code) (Q : Exit → Act → World → Prop) : Nat → Act → World → Prop
  | 0 => fun _ _ => False
  | n + 1 => fun a w => c.wp P (Exit.then (Rounds P c Q n) Q) a w

theorem wp_rounds {P : Program} {c : Code} {Q : Exit → Act → World → Prop} {a : Act} {w : World} (n : Nat)
    (h : Rounds P c Q n a w) : (Code.loop c).wp P Q a w := by
  classical
  let I : Act → World → Prop := fun a w => ∃ n, Rounds P c Q n a w
  -- the measure: the least number of rounds
  have least : ∀ a w, I a w → ∃ n, Rounds P c Q n a w ∧ ∀ m, Rounds P c Q m a w → n ≤ m := by
    intro a w ⟨n, hn⟩
    induction n using Nat.strongRecOn with
    | _ n ih =>
      by_cases h : ∃ m, m < n ∧ Rounds P c Q m a w
      · obtain ⟨m, hm, hr⟩ := h
        exact ih m hm hr
      · refine ⟨n, hn, fun m hm => ?_⟩
        rcases Nat.lt_or_ge m n with hlt | hge
        · exact absurd ⟨m, hlt, hm⟩ h
        · exact hge
  let μ : Act → World → Nat := fun a w => if h : I a w then (least a w h).choose else 0
  refine wp_loop I μ ⟨n, h⟩ ?_
  intro a w hI
  obtain ⟨h1, h2⟩ := (least a w hI).choose_spec
  have hμ : μ a w = (least a w hI).choose := by simp only [μ, dif_pos hI]
  generalize hk : (least a w hI).choose = k at h1 h2 hμ
  match k, h1 with
  | 0, h1 => exact h1.elim
  | k + 1, h1 =>
    refine Code.wp_mono (fun e a' w' q => ?_) h1
    cases e with
    | normal =>
      have hI' : I a' w' := ⟨k, q⟩
      refine ⟨hI', ?_⟩
      have h3 := (least a' w' hI').choose_spec.2 k q
      have hμ' : μ a' w' = (least a' w' hI').choose := by simp only [μ, dif_pos hI']
      omega
    | _ => exact q

/-- One round more; what follows is a variable to the walk. -/
theorem rounds_step {P : Program} {c : Code} {Q : Exit → Act → World → Prop} {a : Act} {w : World} (n : Nat)
    (h : ∀ K : Act → World → Prop, (∀ a w, Rounds P c Q n a w → K a w) → c.wp P (Exit.then K Q) a w) : Rounds P c Q (n + 1) a w :=
  h _ fun _ _ h => h

/-- At most n rounds of c, and then Q: said by unrolling. -/
def RoundsIn (F : Fence) (n : Nat) (P : Program) (c : Code) (Q : Exit → Act → World → Prop) : Nat → Act → World → Prop
  | 0 => fun _ _ => False
  | k + 1 => fun a w => c.wpIn F n P (Exit.then (RoundsIn F n P c Q k) Q) a w

theorem wpIn_rounds {F : Fence} {n : Nat} {P : Program} {c : Code} {Q : Exit → Act → World → Prop} {a : Act} {w : World} (k : Nat)
    (h : RoundsIn F n P c Q k a w) : (Code.loop c).wpIn F n P Q a w := by
  classical
  let I : Act → World → Prop := fun a w => ∃ k, RoundsIn F n P c Q k a w
  -- the measure: the least number of rounds
  have least : ∀ a w, I a w → ∃ k, RoundsIn F n P c Q k a w ∧ ∀ m, RoundsIn F n P c Q m a w → k ≤ m := by
    intro a w ⟨k, hn⟩
    induction k using Nat.strongRecOn with
    | _ k ih =>
      by_cases h : ∃ m, m < k ∧ RoundsIn F n P c Q m a w
      · obtain ⟨m, hm, hr⟩ := h
        exact ih m hm hr
      · refine ⟨k, hn, fun m hm => ?_⟩
        rcases Nat.lt_or_ge m k with hlt | hge
        · exact absurd ⟨m, hlt, hm⟩ h
        · exact hge
  let μ : Act → World → Nat := fun a w => if h : I a w then (least a w h).choose else 0
  refine wpIn_loop I μ ⟨k, h⟩ ?_
  intro a w hI
  obtain ⟨h1, h2⟩ := (least a w hI).choose_spec
  have hμ : μ a w = (least a w hI).choose := by simp only [μ, dif_pos hI]
  generalize hk : (least a w hI).choose = k at h1 h2 hμ
  match k, h1 with
  | 0, h1 => exact h1.elim
  | k + 1, h1 =>
    refine wpIn_mono h1 (fun e a' w' q => ?_)
    cases e with
    | normal =>
      have hI' : I a' w' := ⟨k, q⟩
      refine ⟨hI', ?_⟩
      have h3 := (least a' w' hI').choose_spec.2 k q
      have hμ' : μ a' w' = (least a' w' hI').choose := by simp only [μ, dif_pos hI']
      omega
    | _ => exact q

/-- One round more; what follows is a variable to the walk. -/
theorem roundsIn_step {F : Fence} {n : Nat} {P : Program} {c : Code} {Q : Exit → Act → World → Prop} {a : Act} {w : World} (k : Nat)
    (h : ∀ K : Act → World → Prop, (∀ a w, RoundsIn F n P c Q k a w → K a w) → c.wpIn F n P (Exit.then K Q) a w) : RoundsIn F n P c Q (k + 1) a w :=
  h _ fun _ _ h => h

/-- What the old blocks hold behind a call that leaves them alone. -/
theorem bcell {n : Nat} {W w1 : World} (hb : Below n W w1) : (∀ b o, b < n → w1.cell? ⟨b, o, none⟩ = W.cell? ⟨b, o, none⟩) ∧ (∀ b o, b < n → w1.frozen? ⟨b, o, none⟩ = W.frozen? ⟨b, o, none⟩) :=
  ⟨fun b o h => hb.cell (p := ⟨b, o, none⟩) h, fun b o h => hb.frozen (p := ⟨b, o, none⟩) h⟩
theorem World.drew_heap (w : World) : w.drew.heap = w.heap := rfl
theorem ret_bool {a b : Bool} (h : a = b) : Ending.returned (.bool a) = Ending.returned (.bool b) := by rw [h]
theorem ret_int {k : IntKind} {a b : Int} (h : a = b) : Ending.returned (.int k a) = Ending.returned (.int k b) := by rw [h]

end Go.Proofs.YtpdaigenffecmaaDoor
